/- Paths: a list of arms (nine cells each: how often it turns, and four whole numbers) that came in. Paths: the values of their arms; motion's iterator over arms; .. -/
import Derived.Test.YtabfaobakmjiaaaGreatPy41
import Derived.Deep.Slices
import Derived.Deep.DrawnRows
namespace Go.Proofs.YtabfaobakmjiaaaGreat
set_option maxRecDepth 100000
set_option maxHeartbeats 4000000
open Go.RowKit Go.ChangeShapes Go.WideShapes Go.Deep
set_option linter.unusedVariables false
structure ArmA where
 k:Int
 c:FracA×FracA
instance:Inhabited ArmA:=⟨⟨0,⟨false,[],false,[]⟩,⟨false,[],false,[]⟩⟩⟩
def ArmAt (w:World) (b o:Nat) (a:ArmA):Prop:=
 ∃A1 c1 B1 d1 A2 c2 B2 d2,w.cell? ⟨b,o,none⟩=some (.int .i64 a.k)/\w.cell? ⟨b,o+1,none⟩=some (.bool a.c.1.sn)/\w.cell? ⟨b,o+2,none⟩=some (.slice A1 a.c.1.gn.length c1)/\w.cell? ⟨b,o+3,none⟩=some (.bool a.c.1.sd)/\w.cell? ⟨b,o+4,none⟩=some (.slice B1 a.c.1.gd.length d1)∧
  w.cell? ⟨b,o+5,none⟩=some (.bool a.c.2.sn)/\w.cell? ⟨b,o+6,none⟩=some (.slice A2 a.c.2.gn.length c2)/\w.cell? ⟨b,o+7,none⟩=some (.bool a.c.2.sd)/\w.cell? ⟨b,o+8,none⟩=some (.slice B2 a.c.2.gd.length d2)∧
  IsFracA (λ_=>True) w (.agg #[.bool a.c.1.sn,.slice A1 a.c.1.gn.length c1,.bool a.c.1.sd,.slice B1 a.c.1.gd.length d1]) a.c.1/\IsFracA (λ_=>True) w (.agg #[.bool a.c.2.sn,.slice A2 a.c.2.gn.length c2,.bool a.c.2.sd,.slice B2 a.c.2.gd.length d2]) a.c.2
def ArmsL (w:World) (v:Value) (l:List ArmA):Prop:=
 ∃A c,v= .slice A l.length c/\l.length<=c/\c<=maxLen/\(A=none->c=0)/\(∀a∈l,-9223372036854775808<=a.k/\a.k<=9223372036854775807)∧
  (0<l.length->∃b off,A=some ⟨b,off,none⟩/\b<w.heap.size/\∀j (h:j<l.length),ArmAt w b (off+9*j) l[j])
theorem ArmAt.le {w W:World} {b o:Nat} {a:ArmA} (h:ArmAt w b o a) (hb:b<w.heap.size) (hle:Le w W):ArmAt W b o a:=by
 obtain⟨c,j,f,l,d,k,g,m,q,r,s,t,x,y,z,A,B,D,E⟩:=h;have up:∀{i:Nat} {v:Value},w.cell? ⟨b,i,none⟩=some v->W.cell? ⟨b,i,none⟩=some v:=λC=>(Below.cell hle (p:=⟨b,_,none⟩) hb).trans C;exact⟨c,j,f,l,d,k,g,m,up q,up r,up s,up t,up x,up y,up z,up A,up B,D.le hle,E.le hle⟩
theorem ArmsL.le {w W:World} {v:Value} {l:List ArmA} (h:ArmsL w v l) (hle:Le w W):ArmsL W v l:=by
 obtain⟨A,c,s,g,i,k,m,o⟩:=h;refine⟨A,c,s,g,i,k,m,λf=>?_⟩;obtain⟨b,off,p,d,q⟩:=o f;exact⟨b,off,p,Nat.lt_of_lt_of_le d hle.size,λj r=>(q j r).le d hle⟩
section
variable {H:Type} {enc:TypeId×Value->H} {w:World} {n:Nat}
theorem qNp {v0 v1 v2 v3 v4 v5 v6 v7:Value} {y:DataW H×List MemPlace} (h:DataW.trod enc Tryz.prog w 0 (λ_=>true) true n 79 [v0,v1,v2,v3,v4,v5,v6,v7]=some y):
  ∃a b:FracA,IsFracA (λ_=>True) w (.agg #[v0,v1,v2,v3]) a/\IsFracA (λ_=>True) w (.agg #[v4,v5,v6,v7]) b:=by
 obtain⟨i,m,-,-,-,c,g⟩:=DataW.trod_struct Tryz.underlying79 h;obtain⟨p,d⟩:∃y,i[0]? =some y:=⟨_,List.getElem?_eq_getElem (by rw[c];decide)⟩;obtain⟨q,f⟩:∃y,i[1]? =some y:=⟨_,List.getElem?_eq_getElem (by rw[c];decide)⟩;have j:=(g 0 _ rfl).trans d;have k:=(g 1 _ rfl).trans f;obtain⟨a,l⟩:=qIT (v0:=v0) (v1:=v1) (v2:=v2) (v3:=v3) j;obtain⟨b,o⟩:=qIT (v0:=v4) (v1:=v5) (v2:=v6) (v3:=v7) k;exact⟨a,b,l,o⟩
theorem qPM {b o:Nat} {cs:List Value} {y:DataW H×List MemPlace} (hlen9:cs.length=9) (hc:∀i,i<9->w.cell? ⟨b,o+i,none⟩=cs[i]?)
  (h:DataW.trod enc Tryz.prog w 0 (λ_=>true) true n 81 cs=some y):∃a:ArmA,ArmAt w b o a/\ -9223372036854775808<=a.k/\a.k<=9223372036854775807:=by
 match cs,hlen9 with
 | [v0,v1,v2,v3,v4,v5,v6,v7,v8],_=>
  obtain⟨t,m,-,-,-,f,s⟩:=DataW.trod_struct Tryz.underlying81 h;obtain⟨Y,p⟩:∃y,t[0]? =some y:=⟨_,List.getElem?_eq_getElem (by rw[f];decide)⟩;obtain⟨Z,q⟩:∃y,t[1]? =some y:=⟨_,List.getElem?_eq_getElem (by rw[f];decide)⟩;have P:=(s 0 _ rfl).trans p;have Q:=(s 1 _ rfl).trans q;obtain⟨k,O,-,T⟩:=DataW.trod_int (cs:=[v0]) Tryz.underlying3 P;obtain⟨a,z,R,S⟩:=qNp (v0:=v1) (v1:=v2) (v2:=v3) (v3:=v4) (v4:=v5) (v5:=v6) (v6:=v7) (v7:=v8) Q
  obtain rfl:v0= .int .i64 k:=by simpa using O
  obtain⟨A,c,B,d,g,U,V⟩:=R;obtain⟨v,M,x,N,j,X,q2⟩:=S;injection g with g;injection j with j;simp only[Array.mk.injEq,List.cons.injEq,and_true]at g j;obtain⟨C,D,E,F⟩:=g;obtain⟨G,I,J,L⟩:=j;subst C D E F G I J L
  have l: -9223372036854775808<=k/\k<=9223372036854775807:=by
   have r:IntKind.i64.min<=k/\k<=IntKind.i64.max:=by simpa[Lit.wf]using T
   have g:IntKind.i64.min= -9223372036854775808:=by kernel_rfl
   have j:IntKind.i64.max=9223372036854775807:=by kernel_rfl
   rw[g,j]at r;exact r
  exact⟨⟨k,a,z⟩,⟨A,c,B,d,v,M,x,N,hc 0 (by decide),hc 1 (by decide),hc 2 (by decide),hc 3 (by decide),hc 4 (by decide),hc 5 (by decide),hc 6 (by decide),hc 7 (by decide),hc 8 (by decide),⟨_,_,_,_,rfl,U,V⟩,⟨_,_,_,_,rfl,X,q2⟩⟩,l⟩
end
end Go.Proofs.YtabfaobakmjiaaaGreat
namespace Go.Proofs.YtabfaobakmjiaaaGreat
set_option maxRecDepth 100000
set_option maxHeartbeats 4000000
open Go.RowKit Go.Shelf Go.ChangeShapes Go.WideShapes Go.Deep
set_option linter.unusedVariables false
set_option linter.unusedSimpArgs false
attribute [local go_sem] Oper.semAt_some
def ArmC (W:World) (b o:Nat) (k:Int) (t:Array Value):Prop:=
 ∃s1 A1 n1 c1 t1 B1 m1 d1 s2 A2 n2 c2 t2 B2 m2 d2,t=#[.bool s1,.slice A1 n1 c1,.bool t1,.slice B1 m1 d1,.bool s2,.slice A2 n2 c2,.bool t2,.slice B2 m2 d2]/\W.cell? ⟨b,o,none⟩=some (.int .i64 k)/\W.cell? ⟨b,o+1,none⟩=some (.bool s1)/\W.cell? ⟨b,o+2,none⟩=some (.slice A1 n1 c1)/\W.cell? ⟨b,o+3,none⟩=some (.bool t1)/\W.cell? ⟨b,o+4,none⟩=some (.slice B1 m1 d1)/\W.cell? ⟨b,o+5,none⟩=some (.bool s2)/\W.cell? ⟨b,o+6,none⟩=some (.slice A2 n2 c2)/\W.cell? ⟨b,o+7,none⟩=some (.bool t2)/\W.cell? ⟨b,o+8,none⟩=some (.slice B2 m2 d2)
theorem ArmC.same {w W:World} {b o:Nat} {k:Int} {t:Array Value} (h:ArmC w b o k t) (hs:∀i,W.cell? ⟨b,i,none⟩=w.cell? ⟨b,i,none⟩):ArmC W b o k t:=by
 obtain⟨G,c,E,j,J,f,C,m,I,d,F,l,L,g,D,p,e,q,r,s,v,x,y,z,A,B⟩:=h;exact⟨G,c,E,j,J,f,C,m,I,d,F,l,L,g,D,p,e,(hs _).trans q,(hs _).trans r,(hs _).trans s,(hs _).trans v,(hs _).trans x,(hs _).trans y,(hs _).trans z,(hs _).trans A,(hs _).trans B⟩
def qNq (w:World) (v:Value) (l:List ArmA) (tv:Nat->Array Value):Prop:=
 ∃A c,v= .slice A l.length c/\l.length<=c/\c<=maxLen/\(A=none->c=0)/\(∀a∈l,-9223372036854775808<=a.k/\a.k<=9223372036854775807)/\(∀j (h:j<l.length),IsTurnA w (.agg (tv j)) l[j].c)∧
  (0<l.length->∃b off,A=some ⟨b,off,none⟩/\b<w.heap.size/\∀j (h:j<l.length),ArmC w b (off+j*9) l[j].k (tv j))
theorem ArmsL.vals {w:World} {v:Value} {l:List ArmA} (h:ArmsL w v l):∃tv,qNq w v l tv:=by
 obtain⟨A,c,G,B,C,D,E,R⟩:=h
 by_cases z:0<l.length
 ·obtain⟨b,off,S,T,U⟩:=R z
  have g:∀j,j<l.length->∃t:Array Value,IsTurnA w (.agg t) (l.getD j default).c /\ArmC w b (off+j*9) (l.getD j default).k t:=λj d=>by
   obtain⟨I,N,L,P,J,O,M,Q,i,m,o,p,q,r,s,x,y,V,X⟩:=U j d;have e:l.getD j default=l[j]:=by simp[List.getD_eq_getElem?_getD,List.getElem?_eq_getElem d]
   rw[e];rw[show 9*j=j*9 from Nat.mul_comm _ _]at i m o p q r s x y;exact⟨_,⟨I,N,L,P,J,O,M,Q,rfl,V,X⟩,_,_,_,_,_,_,_,_,_,_,_,_,_,_,_,_,rfl,i,m,o,p,q,r,s,x,y⟩
  obtain⟨f,F⟩:=choose_lt g;have e:∀j (h:j<l.length),l.getD j default=l[j]:=λj d=>by simp[List.getD_eq_getElem?_getD,List.getElem?_eq_getElem d]
  exact⟨f,A,c,G,B,C,D,E,λj d=>by rw[<-e j d];exact(F j d).1,λ_=>⟨b,off,S,T,λj d=>by rw[<-e j d];exact(F j d).2⟩⟩
 ·exact⟨λ_=>#[],A,c,G,B,C,D,E,λj d=>absurd d (by omega),λh=>absurd h z⟩
theorem Kept.alloc {n₀:Nat} {Bs:List Nat} {W:World} (o:Obj) (h:n₀<=W.heap.size) (hB:∀B∈Bs,B<W.heap.size):Kept n₀ Bs W (W.alloc o):=⟨(Below.refl _ _).alloc h o,λB hb=>Below.heap_alloc _ _ _ (by have:=hB B hb;omega)⟩
def qI3 (l:List ArmA) (tv:Nat->Array Value) (i:Fin l.length):Array Value:=#[.int .i64 l[i.1].k,.agg (tv i.1)]
theorem qGf (l:List ArmA) (v:Value) (tv:Nat->Array Value) (w0 w:World) (Bn n₀:Nat) (hv:qNq w0 v l tv) (hl:l.length<=1000) (hBn:Bn<w.heap.size) (hn₀:n₀<=w.heap.size) (h0:w0.heap.size<=n₀)
  (hb:Below w0.heap.size w0 w) (hc:w.cell? ⟨Bn,0,none⟩=some v):qK1 Tryz.prog 129 #[.pointer (some ⟨Bn,0,none⟩)] l.length (qI3 l tv) n₀ [Bn] w:=by
 intro la J Jx W C h _ hY y;have F:=(C.cell (p:=⟨Bn,0,none⟩) hBn).trans hc;have D:Below w0.heap.size w0 W:=hb.trans (C.mono (Nat.le_trans h0 hn₀));have al:=C.size;obtain⟨A,c,rfl,ao,G,_,s,_,hr⟩:=hv;unfold maxLen at G;have⟨I,Z,j⟩:=hyd3 hr s h;clear hr s h;refine callsIn_of_wp Tryz.func129 rfl trivial ?_ rfl;simp only[Tryz.ntmps129,List.size_toArray,List.length_cons,List.length_nil,Nat.reduceAdd,Nat.reduceSub,Array.replicate_succ,Array.replicate_zero,List.push_toArray,List.append_toArray,List.nil_append,List.cons_append];gi_wp2;gi_loopw [7] (λi wr=>∃k:Nat,k<=l.length/\i= .int .i64 k/\J ((List.finRange l.length).take k) wr/\Kept n₀ [Bn] W wr/\W.heap.size<=wr.heap.size)
  (λi _=>l.length - (intOf i).toNat)
 case atStart=>exact⟨0,Nat.zero_le _,rfl,y,Kept.refl _ _ _,Nat.le_refl _⟩
 case round=>
  obtain⟨k,hk,rfl,m,g,ap⟩:=hrel
  by_cases f:k<l.length
  ·obtain⟨x,off,rfl,E,q⟩:=I.out (by omega);obtain⟨s1,N,n1,S,t1,P,m1,U,s2,O,n2,T,t2,Q,m2,V,Y,e0,e1,e2,e3,e4,e5,e6,e7,e8⟩:=(q k f).same (W:=wr) λi=>(g.1.cell (p:=⟨x,i,none⟩) (by show x<n₀;omega)).trans (D.cell (p:=⟨x,i,none⟩) E);have an:=(g.cell (B:=Bn) (i:=0) (by simp)).trans F;obtain⟨fn,aj,t,R,L,X⟩:=hY _ ⟨k,f⟩ (wr.alloc (.cells #[.int .i64 l[k].k,.bool s1,.slice N n1 S,.bool t1,.slice P m1 U,.bool s2,.slice O n2 T,.bool t2,.slice Q m2 V] 81)) (j.out _ _ _ none m (World.grownBy_alloc _ _ _) (by simp)) (by simp;omega);dsimp only[qI3]at L;rw[Y]at L;have b:Kept n₀ [Bn] W (wr.alloc (.cells #[.int .i64 l[k].k,.bool s1,.slice N n1 S,.bool t1,.slice P m1 U,.bool s2,.slice O n2 T,.bool t2,.slice Q m2 V] 81)):=g.trans (Kept.alloc _ (by omega) (by simp;omega));generalize l[k].k =kk at e0 L X b;clear q Y;have d:=hyd1 b;clear b;gi_wp2;refine X.mono ?_;rintro e W3 (⟨rfl,z,r⟩| ⟨rfl,o⟩)
   ·have M:=r.1.size;rw[World.size_alloc]at M;gi_wp2;go_roundw
    case rel=>exact⟨k+1,by omega,by go_num,by rw[qAp k f];exact z,d.out.trans r,by omega⟩
    case measure=>simp[intOf];omega
   ·gi_wp2;refine bodyPost_ret (results_none rfl _ _ _) rfl ?_;exact⟨⟨_,rfl⟩,.inr ⟨_,⟨_,by rw[<-qAp k f];exact List.take_append_drop _ _⟩,o⟩⟩
  ·obtain rfl:k=l.length:=by omega
   gi_wp2;go_end0;exact⟨⟨_,rfl⟩,.inl ⟨_,List.take_of_length_le (by simp),m⟩⟩
theorem qMk (A:Option Addr) (n c:Nat) (w:World):
  Calls Tryz.prog 74 #[.slice A n c] w λe w'=>e= .returned (.func (.func 129) #[] #[.pointer (some ⟨w.heap.size,0,none⟩)])/\w.alloc (.cells #[.slice A n c] 25)=w':=by
 have b:∀(fn:Fn) (first cap:Array Value) (w:World),(Instr.makeFunc fn first cap).run Tryz.prog w= .ok (.func fn first cap) w:=λ_ _ _ _=>rfl;go_enter Tryz.func74,Tryz.ntmps74;go_wp2;go_ret;exact⟨rfl,rfl⟩
theorem qHS (x:FracA) (v:Value) (w:World) (h:IsFracA (λ_=>True) w v x):
  Calls Tryz.prog 132 #[v] w λe w'=>e= .returned (.bool (decide (x.gn.length=0)))/\Le w w':=by
 obtain⟨A,c,B,d,rfl,j,k⟩:=h;have⟨m,o⟩:=hyd2 j k;clear k j
 by_cases b:x.gn.length=0
 ·have f:decide (x.gn.length=0)=true:=by simpa using b
  rw[f];rw[b];have⟨i,g⟩:=hyd2 b f;clear f b;go_enter Tryz.func132,Tryz.ntmps132;go_wp2;go_ret;exact⟨rfl,qAB _ _⟩
 ·have f:decide (x.gn.length=0)=false:=by simpa using b
  have l:((x.gn.length:Int)==0)=false:=by rw[Bool.eq_false_iff];intro h;simp at h;exact b (by simp[h])
  rw[f];generalize x.gn.length=N at b l ⊢;have⟨i,g⟩:=hyd2 b f;clear f b;go_enter Tryz.func132,Tryz.ntmps132;go_wp2;go_ret;exact⟨rfl,qAB _ _⟩
def qKU (x:FracA×FracA):Bool:=decide (x.1.gn.length=0)&&decide (x.2.gn.length=0)
theorem qPN (x:FracA×FracA) (v:Value) (w:World) (h:IsTurnA w v x):
  Calls Tryz.prog 76 #[v] w λe w'=>e= .returned (.bool (qKU x))/\Le w w':=by
 obtain⟨R,Z,T,d1,S,c2,U,d2,rfl,G,P⟩:=h;obtain⟨V,J,l,L⟩:=al1 w (.cells #[.bool x.1.sn,.slice R x.1.gn.length Z,.bool x.1.sd,.slice T x.1.gd.length d1,.bool x.2.sn,.slice S x.2.gn.length c2,.bool x.2.sd,.slice U x.2.gd.length d2] 79);obtain⟨q,r,s,t,y,z,A,B⟩:=qAF L;have o:=qHS x.1 _ V (G.le l);obtain⟨O,i⟩:∃b,decide (x.1.gn.length=0)=b:=⟨_,rfl⟩;obtain⟨Y,k⟩:∃b,decide (x.2.gn.length=0)=b:=⟨_,rfl⟩;have c:qKU x=(O&&Y):=by unfold qKU;rw[i,k]
 rw[c];rw[i]at o;have⟨f,M,ad,I,D,Q,C,F⟩:=hyd8 l L G P o i k c;clear c k i o P G L l;go_enter Tryz.func76,Tryz.ntmps76;go_wp2_with (fail);clear J;go_at_call 132;refine D.out.mono ?_;rintro e X ⟨rfl,d⟩;have N:=bxl d M.out;clear q r s t y z A B;obtain⟨q,r,s,t,y,z,A,B⟩:=qAF N;have p:=qHS x.2 _ X ((I.out.le f.out).le d);rw[C.out]at p;have⟨g,ae,E⟩:=hyd3 d N p;clear p N d
 cases O with
 | true=>
  go_wp2_with (fail);go_at_call 132;refine E.out.mono ?_;rintro e W2 ⟨rfl,j⟩;have m:=hyd1 j;clear j;go_wp2;go_ret;exact⟨rfl,(f.out.trans g.out).trans m.out⟩
 | false=>
  go_wp2;go_ret;exact⟨rfl,f.out.trans g.out⟩
end Go.Proofs.YtabfaobakmjiaaaGreat
namespace Go.Proofs.YtabfaobakmjiaaaGreat
set_option maxRecDepth 100000
set_option maxHeartbeats 4000000
set_option linter.unusedVariables false
noncomputable def qDS (l:List ArmA) (j:Nat):Bool:=
 match tval (l.getD j default).c with
 | some g=>decide (qAR g≠0)&&decide (-64<=(l.getD j default).k)&&decide ((l.getD j default).k <=64)&&(decide (j=0)||decide ((l.getD (j - 1) default).k <(l.getD j default).k))
 | none=>false
noncomputable def qDL (l:List ArmA):Bool:=allB (qDS l) l.length
noncomputable def qC5 (l:List ArmA):Int:=if 24<l.length then 4 else if qDL l then 0 else 20
theorem qF3 {l:List ArmA} {j:Nat} (h:qDS l j=true):∃g,tval (l.getD j default).c =some g/\qAR g≠0/\ -64<=(l.getD j default).k /\(l.getD j default).k <=64/\(j=0∨(l.getD (j - 1) default).k <(l.getD j default).k):=by
 unfold qDS at h
 cases hg:tval (l.getD j default).c with
 | none=>rw[hg]at h;cases h
 | some g=>
  rw[hg]at h;simp only[Bool.and_eq_true,Bool.or_eq_true,decide_eq_true_eq]at h;exact⟨g,rfl,h.1.1.1,h.1.1.2,h.1.2,h.2⟩
theorem qL5 {l:List ArmA} {j:Nat} {g:G2} (hg:tval (l.getD j default).c =some g) (h1:qAR g≠0) (h2: -64<=(l.getD j default).k) (h3:(l.getD j default).k <=64) (h4:j=0∨(l.getD (j - 1) default).k <(l.getD j default).k):qDS l j=true:=by
 unfold qDS;rw[hg];simp only[Bool.and_eq_true,Bool.or_eq_true,decide_eq_true_eq];exact⟨⟨⟨h1,h2⟩,h3⟩,h4⟩
open Go.RowKit Go.Shelf
set_option linter.unusedSimpArgs false
attribute [local go_sem] Oper.semAt_some
theorem qL6 {x:FracA} {r:Rat} (h:x.rat?=some r):x.gn.length=0↔r=0:=by
 have f:=FracA.val h;rw[<-f.num];constructor
 ·intro e;have b:dg (rnum r)=[]:=List.eq_nil_of_length_eq_zero e;have c:rnum r=0:=by rw[<-qAf (rnum r),b];rfl
  unfold rnum at c;have d:r.num=0:=by omega
  exact Rat.num_eq_zero.1 d
 ·rintro rfl;have:rnum 0=0:=by decide+kernel
  rw[this,qBB]
  rfl
theorem qPO {x:FracA×FracA} {g:G2} (h:tval x=some g):(decide (x.1.gn.length=0)&&decide (x.2.gn.length=0))=decide (qAR g=0):=by
 obtain⟨c,d⟩:=qFt h;rw[Bool.eq_iff_iff];simp only[Bool.and_eq_true,decide_eq_true_eq];rw[qL6 c,qL6 d];constructor
 ·rintro⟨a,b⟩;unfold qAR;rw[a,b]
  decide+kernel
 ·exact qFr
def qQe (l:List ArmA):Nat->Int
 | 0=> -65
 | m+1=>(l.getD m default).k
theorem qNr {l:List ArmA} {m:Nat} (hok:∀j,j<m->qDS l j=true):qDS l m=true↔(qQe l m<(l.getD m default).k /\(l.getD m default).k <=64/\∃g,tval (l.getD m default).c =some g/\qAR g≠0):=by
 constructor
 ·intro h;obtain⟨g,c,d,i,f,b⟩:=qF3 h;refine⟨?_,f,g,c,d⟩
  cases m with
  | zero=>show(-65:Int)<_;omega
  | succ m=>
   rcases b with b|b
   ·cases b
   ·exact b
 ·rintro⟨c,d,g,i,f⟩
  cases m with
  | zero=>exact qL5 i f (by have:(-65:Int)<(l.getD 0 default).k :=c;omega) d (.inl rfl)
  | succ m=>
   obtain⟨p,-,-,b,-,-⟩:=qF3 (hok m (by omega));have o:(l.getD m default).k <(l.getD (m+1) default).k :=c;exact qL5 i f (by omega) d (.inr o)
theorem qCS {V W:World} (h:Le V W) (B:Nat):KeepsFrom B V W:=⟨h.size,λk o _ hk _=>(h.block k (gsl hk)).trans hk⟩
structure CpI (w W0:World) (t2 t3:TypeId) (l:List ArmA) (pre:List (Fin l.length)) (W:World):Prop where
 kept:Kept w.heap.size [w.heap.size+2] W0 W
 size:W0.heap.size<=W.heap.size
 res:W.heap[w.heap.size]? =some (.cells #[.int .i64 0] t2)
 last:∃z:Int,W.heap[w.heap.size+1]? =some (.cells #[.int .i64 z] t3)/\ -9223372036854775808<=z/\z<=9223372036854775807/\(pre<+:List.finRange l.length->z=qQe l pre.length/\∀j,j<pre.length->qDS l j=true)
theorem CpI.from (w W0:World) (t2 t3:TypeId) (l:List ArmA) (hs:W0.heap.size=w.heap.size+3):OwnFrom W0.heap.size (CpI w W0 t2 t3 l):=by
 rintro s X Y p ⟨f,g,h,z,i,j,m,o⟩ c b;refine⟨f.trans ⟨(Below.refl _ _).grown c (by omega) λk e=>by have:=(b k e).1;omega,λB d=>c.block B (by simp at d;omega) (λe=>by have:=(b _ e.symm).1;simp at d;omega)⟩,Nat.le_trans g c.size,?_,z,?_,j,m,o⟩
 ·exact(c.block _ (by omega) (λe=>by have:=(b _ e.symm).1;omega)).trans h
 ·exact(c.block _ (by omega) (λe=>by have:=(b _ e.symm).1;omega)).trans i
structure CpX (w:World) (t2:TypeId) (l:List ArmA) (c:Code) (pre:List (Fin l.length)) (W:World):Prop where
 code:c= .ret
 below:Below w.heap.size w W
 res:W.heap[w.heap.size]? =some (.cells #[.int .i64 20] t2)
 bad:pre<+:List.finRange l.length->qDL l=false
theorem CpX.from (w:World) (t2:TypeId) (l:List ArmA) (N0:Nat) (h:w.heap.size<N0) (c:Code):OwnFrom N0 (CpX w t2 l c):=by
 rintro s X Y m ⟨i,d,f,j⟩ g b;refine⟨i,d.grown g d.size (λk e=>by have:=(b k e).1;omega),?_,j⟩;exact(g.block _ (gsl f) (λe=>by have:=(b _ e.symm).1;omega)).trans f
theorem qNs {l:List ArmA} {m:Nat} (hm:m<l.length) (h:qDS l m=false):qDL l=false:=by
 rw[Bool.eq_false_iff];intro b;have:=(qHV _ _).1 b m hm;rw[h]at this
 cases this
theorem qQW {x:FracA×FracA} (h:tval x=none):okE (tval x).isSome =10:=by rw[h];rfl
theorem qQX {x:FracA×FracA} {g:G2} (h:tval x=some g):okE (tval x).isSome =0:=by rw[h];rfl
theorem qJG (l:List ArmA) (v:Value) (w:World) (hv:ArmsL w v l):
  Calls Tryz.prog 37 #[v] w λe w'=>e= .returned (.int .i64 (qC5 l))/\Le w w':=by
 obtain⟨tv,hv⟩:=hv.vals;have aP:=hv;obtain⟨A,c,rfl,ch,bn,a9,aG,aM,hr⟩:=hv;unfold maxLen at bn;have⟨aQ,U,aN,aL,b5⟩:=hyd5 aP aG aM hr a9;clear a9 hr aM aG aP;refine(callsIn_wide (n:=5)).1 ?_;refine callsIn_of_wp_marks Tryz.func37 rfl trivial ?_ rfl;simp only[Tryz.ntmps37,List.size_toArray,List.length_cons,List.length_nil,Nat.reduceAdd,Nat.reduceSub,Array.replicate_succ,Array.replicate_zero,List.push_toArray,List.append_toArray,List.nil_append,List.cons_append]
 by_cases am:24<l.length
 ·have e1:qC5 l=4:=by unfold qC5;rw[if_pos am]
  rw[e1];have az:=hyd1 e1;clear e1;gi_wp2;refine qAI w.heap.size [] _ trivial λw9 C o=>?_;have c9:=qAC (o _ _ (qCN _ _) rfl);exact⟨.int .i64 4,by simp[results,Tryz.results37,go_sem,c9],rfl,Below.trans (qAB _ _) C⟩
 ·have e1:qC5 l=if qDL l then 0 else 20:=by unfold qC5;rw[if_neg am]
  have az:=hyd1 e1;clear e1;have b9:decide ((24:Int)<(l.length:Int))=false:=by simp;omega
  have bm:¬(24:Int)<(l.length:Int):=by omega
  gi_wp2_with (first | (refine⟨trivial,?_⟩;gi_at_call 74;refine(callsIn_wide.2 (qMk _ _ _ _)).mono ?_;rintro e w' ⟨rfl,rfl⟩));obtain⟨W0,aA,a3,Q,h0,h1,h2⟩:=qDg w (.cells #[.int .i64 0] 27) (.cells #[.int .i64 (-65)] 3) (.cells #[.slice A l.length c] 25);rw[aA];clear aA;have m:=qGf l _ tv w W0 (w.heap.size+1+1) w.heap.size aQ.out (by omega) (by omega) (by omega) (Nat.le_refl _) Q (qAC h2);refine qDt rfl (by omega) (gf:=129) (lb:=#[.pointer (some ⟨w.heap.size+1+1,0,none⟩)]) rfl trivial (enters_of Tryz.func129 (by kernel_rfl) rfl)
   m Kept.trans (Kept.put (by omega) (by simp;omega)) (Below.refl _ _) (λ_=>rfl)
   (CpI w W0 27 3 l) (CpX w 27 l) (CpI.from w W0 _ _ l a3) (CpX.from _ _ _ _ (by omega)) ⟨Kept.refl _ _ _,Nat.le_refl _,h0,-65,h1,by omega,by omega,λ_=>⟨rfl,λj h=>absurd h (Nat.not_lt_zero j)⟩⟩ (λx W=>{tmps:=#[.slice A l.length c,undef,.pointer (some ⟨w.heap.size,0,none⟩),.pointer (some ⟨w.heap.size+1,0,none⟩),.int .i64 l[x.1].k,.pointer (some ⟨W.heap.size,0,none⟩),.slice A l.length c,.int .i64 l.length,.bool false,.slice A l.length c,.func (.func 129) #[] #[.pointer (some ⟨w.heap.size+1+1,0,none⟩)],.int .i64 l[x.1].k,.agg (tv x.1),undef,undef,undef,undef,undef,undef,undef,undef,undef,undef,undef,undef,undef,undef,undef,undef,undef],defers:=[]}) (λx W=>W.alloc (.cells (tv x.1) 79)) (λ_ _=>World.grownBy_alloc _ _ _) (λx W hz=>Kept.alloc _ (by omega) (by simp;omega)) ?_ ?_ ?_ ?_
  ·intro la x W K hK;dsimp only[qI3];obtain⟨b,off,hA,C,T⟩:=aL.out (by have:=x.2;omega);obtain⟨s1,A1,n1,c1,t1,B1,m1,d1,s2,A2,n2,c2,t2,B2,m2,d2,he,-⟩:=T x.1 x.2;rw[he]at hK ⊢;clear T hA C;gi_wp2;exact hK
  ·rintro la ae x W V ⟨k1,k2,O,z,k4,k5,k6,k7⟩ aT aU aE br;have hx:=x.2;obtain⟨b,off,hA,C,T⟩:=aL.out (by omega);obtain⟨s1,A1,n1,c1,t1,B1,m1,d1,s2,A2,n2,c2,t2,B2,m2,d2,he,-⟩:=T x.1 x.2;have J:=aE W.heap.size _ (qCN W _) rfl;have aO:=aN.out x.1 x.2;have ah:Below w.heap.size w V:=Q.trans k1.1;have P:=aO.le ah;have cL:=qAC k4;have fL:=fz0 k4 0;have cR:=qAC O;have fR:=fz0 O 0;have a2:l.getD x.1 default=l[x.1]:=by simp[List.getD_eq_getElem?_getD,List.getElem?_eq_getElem hx]
   have ac:ae++[x]<+:List.finRange l.length->(qDS l x.1=true↔(z<l[x.1].k /\l[x.1].k <=64/\∃g,tval l[x.1].c =some g/\qAR g≠0))/\ae.length=x.1/\∀j,j<x.1->qDS l j=true:=λhp=>by
    obtain⟨bs,aJ⟩:=qCh hp;obtain⟨q1,q2⟩:=k7 bs;rw[<-aJ]at q1 q2;have:=qNr q2;rw[a2,<-q1]at this;exact⟨this,aJ.symm,q2⟩
   have I:∀(G:World) (d:Le V G) (C:¬(z<l[x.1].k /\l[x.1].k <=64/\∃g,tval l[x.1].c =some g/\qAR g≠0)) (aa:Act),ownPostG W0.heap.size (Kept w.heap.size [w.heap.size+1+1]) (CpI w W0 27 3 l) (CpX w 27 l) (ae++[x]) V .ret aa (G.setCell ⟨w.heap.size,0,none⟩ (.int .i64 20)):=λG d C aa=>
    ⟨(qCS d _).trans ((KeepsOthers.setCell _ _ _).from _),rfl,(ah.trans (d.mono (by omega))).setCell (p:=⟨w.heap.size,0,none⟩) (Nat.le_refl _) _,qAZ ((d.block _ (by omega)).trans O),λhp=>qNs hx (by
     rw[Bool.eq_false_iff]
     exact λhc=>C ((ac hp).1.1 hc))⟩
   have s:∀(G:World) (d:Le V G) (C:z<l[x.1].k /\l[x.1].k <=64/\∃g,tval l[x.1].c =some g/\qAR g≠0) (aa:Act),ownPostG W0.heap.size (Kept w.heap.size [w.heap.size+1+1]) (CpI w W0 27 3 l) (CpX w 27 l) (ae++[x]) V .normal aa (G.setCell ⟨w.heap.size+1,0,none⟩ (.int .i64 l[x.1].k)):=λG d C aa=>by
    have aF:Kept w.heap.size [w.heap.size+1+1] V (G.setCell ⟨w.heap.size+1,0,none⟩ (.int .i64 l[x.1].k)):=
     ⟨(d.mono (by omega)).setCell (p:=⟨w.heap.size+1,0,none⟩) (by show w.heap.size<=w.heap.size+1;omega) _,λB hB=>(Below.heap_setCell _ _ _ _ (show B≠w.heap.size+1 by simp at hB;omega)).trans (d.block _ (by simp at hB;omega))⟩
    refine⟨(qCS d _).trans ((KeepsOthers.setCell _ _ _).from _),aF,k1.trans aF,by simp[World.setCell];exact Nat.le_trans k2 d.size,(Below.heap_setCell _ _ _ _ (show w.heap.size≠w.heap.size+1 by omega)).trans ((d.block _ (by omega)).trans O),l[x.1].k,qAZ ((d.block _ (by omega)).trans k4),?_,?_,λhp=>?_⟩
    ·have:=(U.out _ (List.getElem_mem hx)).1;omega
    ·have:=(U.out _ (List.getElem_mem hx)).2;omega
    ·obtain⟨p1,p2,p3⟩:=ac hp;rw[List.length_append,List.length_singleton,p2];refine⟨?_,λj hj=>?_⟩
     ·show _=(l.getD x.1 default).k
      rw[a2]
     ·by_cases bp:j=x.1
      ·rw[bp];exact p1.2 C
      ·exact p3 j (by omega)
   have aH:=U.out _ (List.getElem_mem hx);have L:=λG (d:Le V G)=>qL4 l[x.1].c _ G (P.le d);have N:=λG (d:Le V G)=>qPN l[x.1].c _ G (P.le d);rw[he]at J P L N ⊢;have E:Hid (V.heap[W.heap.size]? =some (.cells #[.bool s1,.slice A1 n1 c1,.bool t1,.slice B1 m1 d1,.bool s2,.slice A2 n2 c2,.bool t2,.slice B2 m2 d2] 79)):=Lib.hid J;obtain⟨ap,aq,ar,au,av,aw,ax,ay⟩:=qAF J;obtain⟨yc,a4⟩:∃y,l[x.1].c =y:=⟨_,rfl⟩;rw[a4]at I s L N P;generalize l[x.1].k =kk at I s aH ⊢;obtain⟨BB,a0⟩:∃BB,W.heap.size=BB:=⟨_,rfl⟩;rw[a0]at E ap aq ar au av aw ax ay ⊢;have bl:BB<V.heap.size:=(gsl E.out);have cf:w.heap.size+3<=V.heap.size:=by omega
   have bD:W0.heap.size<=w.heap.size+3:=by omega
   have bE:w.heap.size+3<=W0.heap.size:=by omega
   clear m T hA C aE ac k7 aO J a2;have⟨bC,q,aj,r,Y,bF,bG,bA⟩:=hyd8 a3 I s L N P a4 ah;have⟨a5,b7,bJ,b8,ca,cb,cd,al⟩:=hyd8 k1 a0 aU Q h0 h1 h2 O;have⟨aW,bI⟩:=hyd2 k4 aT;clear aT k4 O h2 h1 h0 Q aU a0 k1 ah a4 P N L s I a3
   by_cases c1:kk<=z
   ·gi_wp2_with (refine⟨trivial,?_⟩);exact q.out V (Le.refl _) (by omega) _
   ·have bb:z<kk:=by omega
    by_cases c2:64<kk
    ·gi_wp2_with (refine⟨trivial,?_⟩);exact q.out V (Le.refl _) (by omega) _
    ·have bd:kk<=64:=by omega
     rcases qDm yc with⟨g,hg⟩|hg
     ·have F:=qQX hg;have hz:=qPO hg;obtain⟨bz,a1⟩:∃b,decide (qAR g=0)=b:=⟨_,rfl⟩;rw[a1]at hz;have ak:qKU yc=bz:=hz;rw[F]at r;rw[ak]at Y;have⟨ai,an,ak,bH,aD⟩:=hyd5 hg a1 hz ak F;clear F ak hz a1 hg;gi_wp2_with (fail);refine⟨trivial,?_⟩;gi_at_call 75;refine(CallsIn.inRound la (callsIn_wide.2 (r.out V (Le.refl _)))).mono ?_;rintro e w1 ⟨rfl,i⟩;clear ap aq ar au av aw ax ay;obtain⟨ap,aq,ar,au,av,aw,ax,ay⟩:=qAF ((i.block _ bl).trans E.out);have t:=hyd1 i;clear i;gi_wp2_with (fail);refine⟨trivial,?_⟩;gi_at_call 76;refine(CallsIn.inRound la (callsIn_wide.2 (Y.out w1 t.out))).mono ?_;rintro e w2 ⟨rfl,X⟩;have f:=t.out.trans X;have bW:=(f.cell (p:=⟨w.heap.size+1,0,none⟩) (by show w.heap.size+1<V.heap.size;omega)).trans cL;have bX:=fz0 ((f.block (w.heap.size+1) (by omega)).trans aW.out) 0;have bf:=(f.cell (p:=⟨w.heap.size,0,none⟩) (by show w.heap.size<V.heap.size;omega)).trans cR;have bg:=fz0 ((f.block w.heap.size (by omega)).trans al.out) 0;have⟨bq,M⟩:=hyd2 X f;clear f X
      cases bz with
      | true=>
       gi_wp2
       exact q.out w2 M.out (by
        rintro⟨-,-,g',q1,q2⟩;rw[ai.out]at q1;injection q1 with q1;subst q1
        exact q2 (by have:=an.out;simpa using this)) _
      | false=>
       gi_wp2;exact aj.out w2 M.out ⟨bb,bd,g,ai.out,by have:=an.out;simpa using this⟩ _
     ·have F:=qQW hg;rw[F]at r;have⟨ai,aD⟩:=hyd2 hg F;clear F hg;gi_wp2_with (fail);refine⟨trivial,?_⟩;gi_at_call 75;refine(CallsIn.inRound la (callsIn_wide.2 (r.out V (Le.refl _)))).mono ?_;rintro e w1 ⟨rfl,i⟩;have bf:=(i.cell (p:=⟨w.heap.size,0,none⟩) (by show w.heap.size<V.heap.size;omega)).trans cR;have bg:=fz0 ((i.block w.heap.size (by omega)).trans al.out) 0;have t:=hyd1 i;clear i;gi_wp2_with (refine⟨trivial,?_⟩)
      exact q.out w1 t.out (by
       rintro⟨-,-,g',q1,q2⟩;rw[ai.out]at q1
       cases q1) _
  ·rintro D ys W hD rfl ⟨k1,k2,O,z,k4,k5,k6,k7⟩ R;have cR:=qAC O;have fR:=fz0 O 0
   have Z:qDL l=true:=(qHV _ _).2 (by
    have:=(k7 (qB7 _)).2
    rwa[List.length_finRange]at this)
   have aB:Below w.heap.size w W:=Q.trans k1.1;clear m k7;have⟨aC,al,S,ab,a5,aW⟩:=hyd6 aB O R Z k1 k4;clear k4 k1 Z R O aB;gi_wp2;refine qAI w.heap.size [{target:= .collected D,args:=#[]}] _ ⟨⟨D,rfl,by omega,?_,by simp⟩,trivial⟩ λw9 C o=>?_
   ·exact(Below.heap_setCell _ _ _ _ (show D≠w.heap.size by omega)).trans S.out
   ·have c9:=qAC (o _ _ (qAZ al.out) rfl);exact⟨.int .i64 0,by simp[results,Tryz.results37,go_sem,c9],by rw[az.out,if_pos ab.out],(aC.out.setCell (p:=⟨w.heap.size,0,none⟩) (Nat.le_refl _) _).trans C⟩
  ·rintro D cc ae W hD aK ⟨rfl,k1,k2,O⟩ R;have Z:=O aK;clear m O;have⟨a5,bt,S,ab⟩:=hyd4 k1 k2 R Z;clear Z R k2 k1;gi_wp2;refine qAI w.heap.size [{target:= .collected D,args:=#[]}] _ ⟨⟨D,rfl,by omega,S.out,by simp⟩,trivial⟩ λw9 C o=>?_;have c9:=qAC (o _ _ bt.out rfl);exact⟨.int .i64 20,by simp[results,Tryz.results37,go_sem,c9],by rw[az.out,if_neg (by rw[ab.out];simp)],a5.out.trans C⟩
end Go.Proofs.YtabfaobakmjiaaaGreat
namespace Go.Proofs.YtabfaobakmjiaaaGreat
set_option maxRecDepth 100000
set_option maxHeartbeats 4000000
open Go.RowKit Go.Lib
set_option linter.unusedVariables false
set_option linter.unusedSimpArgs false
attribute [local go_sem] Oper.semAt_some
attribute [local go_sem ↓] Go.wp_at_zero Go.wp_at_succ
end Go.Proofs.YtabfaobakmjiaaaGreat
namespace Go.Proofs.YtabfaobakmjiaaaGreat
set_option maxRecDepth 100000
set_option maxHeartbeats 4000000
open Go.RowKit Go.Shelf
set_option linter.unusedVariables false
set_option linter.unusedSimpArgs false
attribute [local go_sem] Oper.semAt_some
attribute [local go_sem ↓] Go.wp_at_zero Go.wp_at_succ
theorem qHT (l:List ArmA):(qC5 l=0/\l.length<=24/\qDL l=true)∨(qC5 l≠0/\(24<l.length∨qDL l=false)):=by
 unfold qC5
 by_cases h:24<l.length
 ·rw[if_pos h];exact .inr ⟨by decide,.inl h⟩
 ·rw[if_neg h]
  cases hp:qDL l with
  | true=>exact .inl ⟨by simp,by omega,rfl⟩
  | false=>exact .inr ⟨by simp,.inr rfl⟩
end Go.Proofs.YtabfaobakmjiaaaGreat

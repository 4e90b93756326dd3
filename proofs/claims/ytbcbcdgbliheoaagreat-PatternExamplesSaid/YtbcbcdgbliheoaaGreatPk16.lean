/- Aids for bench.search: frames with many unknown slots, codes taken out of a function, the plain run over phases. bench.search: what a round over the phases .. -/
import Derived.Test.YtbcbcdgbliheoaaGreatPk14
import Derived.Test.YtbcbcdgbliheoaaGreatPk15
namespace Go.Proofs.YtbcbcdgbliheoaaGreat
set_option maxRecDepth 100000
set_option maxHeartbeats 2000000
open Go.RowKit Go.Shelf Go.Sort Go.Lib
set_option linter.unusedVariables false
set_option linter.unusedSimpArgs false
theorem qAR (F:(Nat->Value)->Array Value) (t:Array Value) (h:t=F (λi=>t.getD i undef)):∃u,t=F u:=⟨_,h⟩
def qC4:Code->List Code
 | .loop c=>[c]
 | .seq a b=>qC4 a++qC4 b
 | .block _ c=>qC4 c
 | .scope c=>qC4 c
 | .cond _ a b=>qC4 a++qC4 b
 | _=>[]
def qCV:Code->List Code
 | .rangeFunc _ _ _ c=>[c]
 | .seq a b=>qCV a++qCV b
 | .block _ c=>qCV c
 | .scope c=>qCV c
 | .loop c=>qCV c
 | .cond _ a b=>qCV a++qCV b
 | _=>[]
def qBV (n:Nat):Code->List Code
 | .region m o d=>if m=n then[.region m o d]else[]
 | .seq a b=>match a with
  | .region m _ _=>if m=n then[.seq a b]else qBV n b
  | _=>qBV n a++qBV n b
 | .block _ c=>qBV n c
 | .scope c=>qBV n c
 | .loop c=>qBV n c
 | .cond _ a b=>qBV n a++qBV n b
 | _=>[]
def seqL:Code->Code
 | .seq a _=>a
 | c=>c
def seqR:Code->Code
 | .seq _ b=>b
 | c=>c
def qGp (T:Nat->Int) (st:Int×Bool) (j:Nat):Int×Bool:=(if j=0 then T 0 else st.1,st.2&&(T j==(if j=0 then T 0 else st.1)))
def runB (T:Nat->Int) (l:List Nat):Int×Bool:=l.foldl (qGp T) (0,true)
theorem qHp (T:Nat->Int) (l:List Nat) (j:Nat):runB T (l++[j])=qGp T (runB T l) j:=by unfold runB;rw[List.foldl_append];rfl
theorem qEv (T:Nat->Int):∀n,0<n->runB T (List.range n)=(T 0,(List.range n).all λj=>T j==T 0):=by
 intro n
 induction n with
 | zero=>intro h;omega
 | succ n ih=>
  intro _;rw[List.range_succ,qHp]
  rcases Nat.eq_zero_or_pos n with h|h
  ·subst h;simp[runB,qGp]
  ·rw[ih h];unfold qGp;rw[if_neg (by omega),List.all_append];simp
theorem qJe {N:Nat} {T:Nat->Int} {pre:List (Fin N)} (hp:pre<+:List.finRange N) (h:(runB T (pre.map (·.1))).2=false):((List.range N).all λj=>T j==T 0)=false:=by
 obtain⟨r,n⟩:=hp
 have k:(pre.map (·.1))++(r.map (·.1))=List.range N:=by
  rw[<-qCT N,<-List.map_append,n]
 have d:pre.length<=N:=by
  have:=congrArg List.length k;simp at this;omega
 have m:pre.map (·.1)=List.range pre.length:=by
  have l:=congrArg (List.take pre.length) k;rw[List.take_left' (by simp),List.take_range,Nat.min_eq_left d]at l;exact l
 have f:0<pre.length:=by
  rcases Nat.eq_zero_or_pos pre.length with h0|h0
  ·have:pre=[]:=List.eq_nil_of_length_eq_zero h0;subst this;simp[runB]at h
  ·exact h0
 rw[m,qEv T _ f]at h;simp only[List.all_eq_false]at h ⊢;obtain⟨x,t,i⟩:=h;exact⟨x,List.mem_range.2 (by have:=List.mem_range.1 t;omega),i⟩
theorem KeepsFrom.of_below {B:Nat} {W W':World} (h:Below W.heap.size W W'):KeepsFrom B W W':=
 ⟨h.size,λk o _ hk _=>(h.block k (gsl hk)).trans hk⟩
theorem Kept.of_below {n₀:Nat} {Bs:List Nat} {W W':World} (h:Below W.heap.size W W') (hn:n₀<=W.heap.size) (hBs:∀B∈Bs,B<W.heap.size):Kept n₀ Bs W W':=
 ⟨h.mono hn,λB hB=>h.block B (hBs B hB)⟩
theorem Kept.of_grown {n₀ X:Nat} {Bs:List Nat} {W W':World} (h:W.grownBy W' (some X)) (hn:n₀<=X) (hn2:n₀<=W.heap.size) (hBs:∀B∈Bs,B<W.heap.size/\B≠X):Kept n₀ Bs W W':=
 ⟨(Below.refl n₀ W).grown h hn2 (λk e=>by cases e;exact hn),λB hB=>h.block B (hBs B hB).1 (λe=>by cases e;exact(hBs X hB).2 rfl)⟩
theorem qJf {F:Fence} {n:Nat} {P:Program} {c:Code} {Q:Exit->Act->World->Prop} {a:Act} {W1:World} {v0 v1 v2 v3:Value} {t:TypeId}
  (h:∀W2,Below W1.heap.size W1 W2->W2.heap[W1.heap.size]? =some (.cells #[v0,v1,v2,v3] t)->W2.heap.size=W1.heap.size+1->c.wpIn F n P Q a W2):c.wpIn F n P Q a (W1.alloc (.cells #[v0,v1,v2,v3] t)):=
 h _ (alc1 _ _) (qAk _ _) (by simp)
theorem qDa {P:Program} {c:Code} {Q:Exit->Act->World->Prop} {a:Act} {W1:World} {v0 v1 v2 v3:Value} {t:TypeId}
  (h:∀W2,Below W1.heap.size W1 W2->W2.heap[W1.heap.size]? =some (.cells #[v0,v1,v2,v3] t)->W2.heap.size=W1.heap.size+1->c.wp P Q a W2):c.wp P Q a (W1.alloc (.cells #[v0,v1,v2,v3] t)):=
 h _ (alc1 _ _) (qAk _ _) (by simp)
theorem set4 {W:World} {X:Nat} {v0 v1 v2 v3 u0 u1 u2 u3:Value} {t:TypeId} (h:W.heap[X]? =some (.cells #[v0,v1,v2,v3] t)):((((W.setCell ⟨X,0,none⟩ u0).setCell ⟨X,1,none⟩ u1).setCell ⟨X,2,none⟩ u2).setCell ⟨X,3,none⟩ u3).heap[X]? =some (.cells #[u0,u1,u2,u3] t):=by
 have d:=qAy (i:=0) (u:=u0) h;have f:=qAy (i:=1) (u:=u1) d;have j:=qAy (i:=2) (u:=u2) f;have k:=qAy (i:=3) (u:=u3) j;rw[k]
 rfl
theorem qGq {W:World} {X:Nat} {u0 u1 u2 u3:Value} (hX:X<W.heap.size):W.grownBy ((((W.setCell ⟨X,0,none⟩ u0).setCell ⟨X,1,none⟩ u1).setCell ⟨X,2,none⟩ u2).setCell ⟨X,3,none⟩ u3) (some X):=
 ⟨rfl,rfl,rfl,by simp[World.setCell],λk hk hne=>by
  have hk':k≠X:=λe=>hne (by rw[e])
  exact(Below.heap_setCell _ _ _ _ hk').trans ((Below.heap_setCell _ _ _ _ hk').trans ((Below.heap_setCell _ _ _ _ hk').trans (Below.heap_setCell _ _ _ _ hk')))⟩
attribute [local go_sem] Oper.semAt_some
attribute [local go_sem ↓] Go.wp_at_zero Go.wp_at_succ
noncomputable def sBody:Code:=(qC4 ((Tryz.f30).body.getD .skip)).getD 0 .skip
noncomputable def kBody:Code:=(qC4 sBody).getD 0 .skip
noncomputable def fBody:Code:=(qC4 sBody).getD 1 .skip
noncomputable def rBody:Code:=(qCV kBody).getD 0 .skip
structure KEnv (p q:Prog) (b c B4 B5 B9 B11 B13:Nat) (s o:Nat) (k:Nat) (W:World):Prop where
 one:IsBench W b p
 two:IsBench W c q
 b4:W.heap[B4]? =some (.cells #[.pointer (some ⟨b,0,none⟩)] 62)
 b5:W.heap[B5]? =some (.cells #[.pointer (some ⟨c,0,none⟩)] 62)
 b9:W.heap[B9]? =some (.cells #[.int .i64 (s:Int)] 3)
 b11:W.heap[B11]? =some (.cells #[.int .i64 (o:Int)] 3)
 b13:W.heap[B13]? =some (.cells #[.int .i64 (k:Int)] 3)
theorem KEnv.below {p q:Prog} {b c B4 B5 B9 B11 B13 s o k:Nat} {W W':World} (h:KEnv p q b c B4 B5 B9 B11 B13 s o k W) (hb:Below W.heap.size W W'):KEnv p q b c B4 B5 B9 B11 B13 s o k W':=
 ⟨h.one.below hb,h.two.below hb,(hb.block _ (gsl h.b4)).trans h.b4,(hb.block _ (gsl h.b5)).trans h.b5,(hb.block _ (gsl h.b9)).trans h.b9,(hb.block _ (gsl h.b11)).trans h.b11,(hb.block _ (gsl h.b13)).trans h.b13⟩
structure RInv (T:Nat->Int) (k:Int) (mi ba:Bool) (X:Nat) (Bs:List Nat) (W0:World) (l:List Nat) (W:World):Prop where
 kept:Kept X Bs W0 W
 size:W0.heap.size<=W.heap.size
 box:W.heap[X]? =some (.cells #[.int .i64 k,.int .i64 (runB T l).1,.bool mi,.bool ba] 39)
 fits:(runB T l).2=true
structure RStop (T:Nat->Int) (X:Nat) (Bs:List Nat) (W0:World) (l:List Nat) (cc:Code) (W:World):Prop where
 kept:Kept X Bs W0 W
 size:W0.heap.size<=W.heap.size
 code:cc= .exit 3
 fails:(runB T l).2=false
theorem qAT {W:World} {X:Nat} {v0 v1 v2 v3:Value} {t:TypeId} (h:W.heap[X]? =some (.cells #[v0,v1,v2,v3] t)):
  W.cell? ⟨X,0,none⟩=some v0/\W.cell? ⟨X,1,none⟩=some v1/\W.cell? ⟨X,2,none⟩=some v2/\W.cell? ⟨X,3,none⟩=some v3:=
 ⟨cell_of_row W X 0 _ _ _ h,cell_of_row W X 1 _ _ _ h,cell_of_row W X 2 _ _ _ h,cell_of_row W X 3 _ _ _ h⟩
theorem qKd {W W2:World} {X Y:Nat} {v0 v1 v2 v3 y0 y1 y2 y3:Value} {t:TypeId} (hb:Below W.heap.size W W2) (hY:W.heap.size<=Y) (hX:X<W.heap.size) (hx:W2.heap[X]? =some (.cells #[v0,v1,v2,v3] t)) (n:Nat) (u:Value):
  Below W.heap.size W ((W2.drewN n).setCell ⟨Y,1,none⟩ u)/\((W2.drewN n).setCell ⟨Y,1,none⟩ u).heap[X]? =some (.cells #[v0,v1,v2,v3] t):=
 ⟨(qAF hb n).setCell (p:=⟨Y,1,none⟩) hY _,(Below.heap_setCell (W2.drewN n) ⟨Y,1,none⟩ u X (by show X≠Y;omega)).trans hx⟩
theorem qMm {T:Nat->Int} {k:Int} {mi ba:Bool} {X N0:Nat} {Bs:List Nat} {W0 W W3:World} {l l':List Nat} {t1:Int} (hI:RInv T k mi ba X Bs W0 l W) (hN:N0<=W0.heap.size) (hX:X<N0) (hBs:∀B∈Bs,B<W0.heap.size/\B≠X) (hb:Below W.heap.size W W3)
  (hx:W3.heap[X]? =some (.cells #[.int .i64 k,.int .i64 t1,.bool mi,.bool ba] 39)) (hT:runB T l'=(t1,true)):KeepsFrom N0 W W3/\Kept X Bs W W3/\RInv T k mi ba X Bs W0 l' W3:=by
 have h:=hI.size;have d:Kept X Bs W W3:=Kept.of_below hb (by omega) (λB f=>by have:=(hBs B f).1;omega);exact⟨KeepsFrom.of_below hb,d,hI.kept.trans d,Nat.le_trans h hb.size,by rw[hT];exact hx,by rw[hT]⟩
theorem qMn {T:Nat->Int} {k:Int} {mi ba:Bool} {X N0:Nat} {Bs:List Nat} {W0 W W3:World} {l l':List Nat} {t1:Int} (hI:RInv T k mi ba X Bs W0 l W) (hN:N0<=W0.heap.size) (hX:X<N0) (hBs:∀B∈Bs,B<W0.heap.size/\B≠X) (hb:Below W.heap.size W W3)
  (hT:runB T l'=(t1,false)):KeepsFrom N0 W W3/\RStop T X Bs W0 l' (.exit 3) W3:=by
 have h:=hI.size;have f:Kept X Bs W W3:=Kept.of_below hb (by omega) (λB d=>by have:=(hBs B d).1;omega);exact⟨KeepsFrom.of_below hb,hI.kept.trans f,Nat.le_trans h hb.size,rfl,by rw[hT]⟩
theorem qLn {T:Nat->Int} {k:Int} {mi ba:Bool} {X N0:Nat} {Bs:List Nat} {W0 W W3:World} {l l':List Nat} {t1:Int} {v0 v1 v2 v3:Value} (hI:RInv T k mi ba X Bs W0 l W) (hN:N0<=W0.heap.size) (hX:X<N0) (hBs:∀B∈Bs,B<W0.heap.size/\B≠X) (hb:Below W.heap.size W W3)
  (hx:W3.heap[X]? =some (.cells #[v0,v1,v2,v3] 39)) (hT:runB T l'=(t1,true)):
  KeepsFrom N0 W ((((W3.setCell ⟨X,0,none⟩ (.int .i64 k)).setCell ⟨X,1,none⟩ (.int .i64 t1)).setCell ⟨X,2,none⟩ (.bool mi)).setCell ⟨X,3,none⟩ (.bool ba))∧
   Kept X Bs W ((((W3.setCell ⟨X,0,none⟩ (.int .i64 k)).setCell ⟨X,1,none⟩ (.int .i64 t1)).setCell ⟨X,2,none⟩ (.bool mi)).setCell ⟨X,3,none⟩ (.bool ba))∧
   RInv T k mi ba X Bs W0 l' ((((W3.setCell ⟨X,0,none⟩ (.int .i64 k)).setCell ⟨X,1,none⟩ (.int .i64 t1)).setCell ⟨X,2,none⟩ (.bool mi)).setCell ⟨X,3,none⟩ (.bool ba)):=by
 have r:=hI.size;have m:=hb.size;have i:=(gsl hx);have h:=qGq (u0:= .int .i64 k) (u1:= .int .i64 t1) (u2:= .bool mi) (u3:= .bool ba) i;have n:Kept X Bs W W3:=Kept.of_below hb (by omega) (λB f=>by have:=(hBs B f).1;omega);have d:=n.trans (Kept.of_grown (Bs:=Bs) h (Nat.le_refl _) (by omega) (λB f=>⟨by have:=(hBs B f).1;omega,(hBs B f).2⟩));exact⟨(KeepsFrom.of_below hb).trans (KeepsFrom.of_grownBy h λj e=>by cases e;exact hX),d,hI.kept.trans d,by have:=h.size;omega,by rw[hT];exact set4 hx,by rw[hT]⟩
theorem qKe (p q:Prog) (hp:BenchFacts p) (hq:BenchFacts q) (b c B4 B5 B9 B11 B13 s o k X N0 l:Nat) (mi ba:Bool) (n:Nat) (pre:List (Fin n)) (x:Fin n) (Bs:List Nat) (W0 W:World) (t:Array Value)
  (j:Nat) (hj:j=x.1) (hn:n<=1152) (hk:k<=1152) (hs:s<=1000000) (ho:o<=1000000)
  (ht:∃u:Nat->Value,t=#[u 0,(u 1),(u 2),(u 3),.pointer (some ⟨B4,0,none⟩),.pointer (some ⟨B5,0,none⟩),(u 6),(u 7),(u 8),.pointer (some ⟨B9,0,none⟩),(u 10),.pointer (some ⟨B11,0,none⟩),(u 12),.pointer (some ⟨B13,0,none⟩),(u 14),(u 15),.pointer (some ⟨X,0,none⟩),.int .i64 (j:Nat),.int .i64 (qAS p j),(u 19),(u 20),(u 21),(u 22),(u 23),(u 24),(u 25),(u 26),(u 27),(u 28),(u 29),(u 30),(u 31),(u 32),(u 33),(u 34),(u 35),(u 36),(u 37),(u 38),(u 39),(u 40),(u 41),(u 42),(u 43),(u 44),(u 45),(u 46),(u 47),(u 48),(u 49),(u 50),(u 51),(u 52),(u 53),(u 54),(u 55),(u 56),(u 57),(u 58),(u 59),(u 60),(u 61),(u 62),(u 63),(u 64),(u 65),(u 66),(u 67),(u 68),(u 69),(u 70),(u 71),(u 72),(u 73),(u 74),(u 75),(u 76),(u 77),(u 78),(u 79),(u 80),(u 81),(u 82),(u 83),(u 84),(u 85),(u 86),(u 87),(u 88),(u 89),(u 90),(u 91),(u 92),(u 93),(u 94),(u 95),(u 96),(u 97),(u 98),(u 99),(u 100),(u 101),(u 102),(u 103),(u 104),(u 105),(u 106),(u 107),(u 108),(u 109),(u 110),(u 111),(u 112),(u 113),(u 114),(u 115),(u 116),(u 117),(u 118),(u 119),(u 120),(u 121),(u 122),(u 123),(u 124),(u 125),(u 126),(u 127),(u 128),(u 129),(u 130),(u 131),(u 132),(u 133),(u 134),(u 135),(u 136),(u 137),(u 138),(u 139),(u 140),(u 141),(u 142),(u 143),(u 144),(u 145),(u 146),(u 147),(u 148),(u 149),(u 150),(u 151),(u 152),(u 153),(u 154),(u 155),(u 156),(u 157),(u 158),(u 159),(u 160),(u 161),(u 162),(u 163),(u 164),(u 165),(u 166),(u 167),(u 168),(u 169),(u 170),(u 171),(u 172)]) (hE:KEnv p q b c B4 B5 B9 B11 B13 s o k W) (hX:X<N0) (hN:N0<=W0.heap.size) (hBs:∀B∈Bs,B<W0.heap.size/\B≠X)
  (h4:B4<X) (h5:B5<X) (h9:B9<X) (h11:B11<X) (h13:B13<X) (hT:∀i,qA3 p q k mi ba i=((if mi then(o:Int)+qAS p i else(s:Int) - qAS p i)+qAS q (if ba then(k:Int) - i else(k:Int)+i))%(per p:Int))
  (hI:RInv (qA3 p q k mi ba) k mi ba X Bs W0 (pre.map (·.1)) W):
  rBody.wpIn (Fence.wide.inRound l) (5 - 1 - 1) Tryz.prog (ownPostG N0 (Kept X Bs) (λpre W=>RInv (qA3 p q k mi ba) k mi ba X Bs W0 (pre.map (·.1)) W) (λcc pre W=>RStop (qA3 p q k mi ba) X Bs W0 (pre.map (·.1)) cc W) (pre++[x]) W) {tmps:=t,defers:=[]} W:=by
 obtain⟨u,rfl⟩:=ht
 conv=>arg 4;whnf
 have aV:=x.2;have aS:j<n:=by omega
 have ai:=qB2 hp;have aC:=qBn hp j;have e4:=qAH hE.b4;have e5:=qAH hE.b5;have e9:=qAH hE.b9;have ak:=qAH hE.b11;have al:=qAH hE.b13;obtain⟨x0,x1,x2,x3⟩:=qAT hI.box;obtain⟨y,hy⟩:∃y,qAS p j=y:=⟨_,rfl⟩;rw[hy]at aC ⊢;generalize htx:(runB (qA3 p q k mi ba) (pre.map (·.1))).1=tx at x1;have⟨a8,C,ax,L,aE,aj,aA⟩:=hyd7 hE hI hT ai hy htx hj;clear hj htx hy ai hT hI hE;have aU:=hq.ros1;have aT:=hp.ros1;obtain⟨A,T⟩:∃A:Int,A=(if mi then(o:Int)+y else(s:Int) - y):=⟨_,rfl⟩;obtain⟨D,V⟩:∃D:Int,D=(if ba then(k:Int) - j else(k:Int)+j):=⟨_,rfl⟩;have aa:=ax.out j;rw[aE.out,<-T,<-V]at aa;have aO: -1000096<=A/\A<=1000096:=by rw[T];split<;>omega
 have av: -1000000<=D/\D<=1000000:=by rw[V];split<;>omega
 have hz:=qBn hq D;have M:∀W,IsBench W c q->Calls Tryz.prog 24 #[.pointer (some ⟨c,0,none⟩),.int .i64 D] W λe w'=>e= .returned (.int .i64 (qAS q D))/\∃n,w'=W.drewN n:=λW h=>qEB c q D W h hq av.1 av.2;generalize qAS q D=z at aa hz M
 have ah:∀W:World,Calls Tryz.prog 23 #[.int .i64 (A+z),.int .i64 (per p)] W λe w'=>e= .returned (.int .i64 (qA3 p q k mi ba j))/\W=w':=λW=>by
  have h:=qBE (A+z) (per p) W (by have:=L.out;omega) (by have:=L.out;omega) (by unfold Mid;omega);rw[<-aa]at h;exact h
 have i1:IntKind.i64.wrap ((k:Int)+j)=(k:Int)+j:=IntWalk.i64_in _ (by omega);have i2:IntKind.i64.wrap ((s:Int) - y)=(s:Int) - y:=IntWalk.i64_in _ (by omega);have i5:IntKind.i64.wrap (A+z)=A+z:=IntWalk.i64_in _ (by omega);clear aa ax;have F:=qHp (qA3 p q k mi ba) (pre.map (·.1)) x.1;have ag:(pre++[x]).map (·.1)=pre.map (·.1)++[x.1]:=by simp
 rw[<-ag,<-aA.out]at F;unfold qGp at F;rw[aj.out,show(runB (qA3 p q k mi ba) (pre.map (·.1))).2=true from C.out.fits,Bool.true_and]at F;clear ag;have⟨aq,ap,aW,G,U,Z⟩:=hyd6 M ah hz F T V;clear V T F hz ah M
 cases mi<;>cases ba
 all_goals
  have T:=U.out;have V:=Z.out;clear U Z
  first |rw[if_pos rfl]at T|rw[if_neg (by decide)]at T
  first |rw[if_pos rfl]at V|rw[if_neg (by decide)]at V
  have⟨U,Z⟩:=hyd2 T V;clear V T;gi_wp2;refine qBw (by kernel_rfl) (by kernel_rfl) (by kernel_rfl) ?_
  repeat (go_big_quiet_step (fail))
  refine wpQuiet_nil ?_;intro _ ar;obtain⟨nq,O⟩:=ar;subst O;have m:=a8.out.below (qAF (Below.refl _ W) nq);have ao:=qAF (Below.refl W.heap.size W) nq;have Q:(W.drewN nq).heap[X]? =_:=C.out.box;clear e4 e5 e9 ak al x0 x1 x2 x3;rw[aj.out]at Q;generalize W.drewN nq=W1 at m ao Q ⊢;have e4:=qAH m.b4;have e5:=qAH m.b5;have e9:=qAH m.b9;have ak:=qAH m.b11;have al:=qAH m.b13;obtain⟨x0,x1,x2,x3⟩:=qAT Q;have⟨ad,J,R⟩:=hyd3 m ao Q;clear Q ao m;gi_wp2;rw[<-U.out,<-Z.out];refine qJf ?_;intro W2 ab I aG;have au:=J.out.size;have v:=(ab.block X (by have:=(gsl R.out);omega)).trans R.out;have E:=ad.out.below ab;have ae:Below W.heap.size W W2:=J.out.trans (ab.mono au);obtain⟨Y,am⟩:∃Y,W1.heap.size=Y:=⟨_,rfl⟩;rw[am]at I au aG ⊢;clear e4 e5 e9 ak al x0 x1 x2 x3 ad J R ab;have e4:=qAH E.b4;have e5:=qAH E.b5;obtain⟨_,_,-,-,-,-,-,-,-,-,-,c9⟩:=E.one.cells;replace c9:W2.cell? ⟨b,9,none⟩=some (.int .i64 (per p)):=c9;obtain⟨y0,y1,y2,y3⟩:=qAT I;have yf:=qAK I 1;obtain⟨x0,x1,x2,x3⟩:=qAT v;have f0:=qAK v 0;have f1:=qAK v 1;have f2:=qAK v 2;have f3:=qAK v 3;have a9:=(gsl C.out.box);have aQ:¬X=Y:=by omega
  have aR:¬Y=X:=by omega
  have⟨aw,an,az,aL,aM⟩:=hyd5 E ae v I am;clear am I v ae E;refine qBQ (qEs l) 11 (by kernel_rfl) (by kernel_rfl) (by kernel_rfl) ?_;simp only[List.take_succ_cons,List.take_zero,List.drop_succ_cons,List.drop_zero]
  repeat (go_big_quiet_step (first | (go_at_call 24;exact Calls.quiet_of (aq.out _ (aw.out.two.below (qAF (Below.refl _ _) _))))| (go_at_call 23;exact qBY (ap.out _))))
  refine wpQuiet_nil ?_;intro _ ar;obtain⟨nq,O⟩:=ar;subst O;obtain⟨af,a0⟩:=qKd (y0:=undef) (y1:=undef) (y2:=undef) (y3:=undef) an.out au a9 az.out nq (.int .i64 (qA3 p q k _ _ j));have f:=hyd1 af;clear af;have S:=hyd1 a0;clear a0
  by_cases h0:j=0
  ·have aB:((j:Int)==0)=true:=by simp[h0]
   have d:=G.out;rw[if_pos h0,h0,beq_self_eq_true]at d;rw[<-h0]at d;have⟨aN,r⟩:=hyd2 h0 d;clear d h0;gi_wp2;exact qLn C.out hN hX hBs f.out S.out r.out
  ·have aB:((j:Int)==0)=false:=by simp[h0]
   have d:=G.out;rw[if_neg h0]at d;clear G;generalize qA3 p q k _ _ j=tj at d f S ⊢
   by_cases H:tj=tx
   ·subst H;rw[beq_self_eq_true]at d;have r:=hyd1 d;clear d;gi_wp2;exact qMm C.out hN hX hBs f.out S.out r.out
   ·have aP:(tx==tj)=false:=by simpa using λh=>H h.symm
    have ay:(tj==tx)=false:=by simpa using H
    rw[ay]at d;have⟨r,aK⟩:=hyd2 d H;clear H d;gi_wp2;exact qMn C.out hN hX hBs f.out r.out
end Go.Proofs.YtbcbcdgbliheoaaGreat
namespace Go.Proofs.YtbcbcdgbliheoaaGreat
set_option maxRecDepth 100000
set_option maxHeartbeats 2000000
open Go.RowKit Go.Shelf Go.Sort Go.Lib
set_option linter.unusedVariables false
set_option linter.unusedSimpArgs false
attribute [local go_sem] Oper.semAt_some
attribute [local go_sem ↓] Go.wp_at_zero Go.wp_at_succ
def mvAt (p q:Prog) (k:Nat) (mi ba:Bool):Mv:=⟨k,qA3 p q k mi ba 0,mi,ba⟩
noncomputable def qN3:Code:=(qBV 13 kBody).getD 0 .skip
noncomputable def tHead:Code:=seqL qN3
noncomputable def tBlk:Code:=seqR qN3
theorem RInv.from {β:Type} {T:Nat->Int} {k:Int} {mi ba:Bool} {X N0:Nat} {Bs:List Nat} {W0:World} (f:β->List Nat) (hX:X<N0) (hN:N0<=W0.heap.size) (hBs:∀B∈Bs,B<N0):OwnFrom N0 (λs W=>RInv T k mi ba X Bs W0 (f s) W):=by
 rintro s Y Z r ⟨j,n,l,m⟩ h d;refine⟨j.trans ⟨(Below.refl _ _).grown h (by omega) λk e=>by have:=(d k e).1;omega,λB i=>h.block B (by have:=hBs B i;omega) (λe=>by have:=(d _ e.symm).1;have:=hBs B i;omega)⟩,Nat.le_trans n h.size,?_,m⟩;exact(h.block X (by omega) (λe=>by have:=(d _ e.symm).1;omega)).trans l
theorem RStop.from {β:Type} {T:Nat->Int} {X N0:Nat} {Bs:List Nat} {W0:World} (f:β->List Nat) (hX:X<N0) (hN:N0<=W0.heap.size) (hBs:∀B∈Bs,B<N0) (cc:Code):OwnFrom N0 (λs W=>RStop T X Bs W0 (f s) cc W):=by
 rintro s Y Z r ⟨j,n,l,m⟩ h d;exact⟨j.trans ⟨(Below.refl _ _).grown h (by omega) λk e=>by have:=(d k e).1;omega,λB i=>h.block B (by have:=hBs B i;omega) (λe=>by have:=(d _ e.symm).1;have:=hBs B i;omega)⟩,Nat.le_trans n h.size,l,m⟩
theorem qET (p q:Prog) (hp:BenchFacts p) (hq:BenchFacts q) (b c B4 B5 B9 B11 B13 s o k X KB how g n:Nat) (iz:Int) (cb:Array Value) (st ov mi ba:Bool) (v:Value) (wr W:World) (ds:List Deferred) (t:Array Value)
  (hn:n<=1152) (hn0:0<n) (hk:k<=1152) (hs:s<=1000000) (ho:o<=1000000)
  (ht:∃u:Nat->Value,t=#[u 0,(u 1),.int .u8 how,.func (.func g) #[] cb,.pointer (some ⟨B4,0,none⟩),.pointer (some ⟨B5,0,none⟩),(u 6),(u 7),.int .i64 (n:Nat),.pointer (some ⟨B9,0,none⟩),.bool st,.pointer (some ⟨B11,0,none⟩),.bool ov,.pointer (some ⟨B13,0,none⟩),v,(u 15),.pointer (some ⟨X,0,none⟩),(u 17),(u 18),(u 19),(u 20),(u 21),(u 22),(u 23),(u 24),(u 25),(u 26),(u 27),(u 28),(u 29),(u 30),(u 31),(u 32),(u 33),(u 34),(u 35),(u 36),(u 37),(u 38),(u 39),(u 40),(u 41),(u 42),(u 43),(u 44),(u 45),(u 46),(u 47),(u 48),(u 49),(u 50),(u 51),(u 52),(u 53),(u 54),(u 55),(u 56),(u 57),(u 58),(u 59),(u 60),(u 61),(u 62),(u 63),.int .i64 (n:Nat),.int .i64 (k:Nat),(u 66),(u 67),(u 68),(u 69),(u 70),(u 71),(u 72),(u 73),(u 74),(u 75),.slice (some ⟨KB,0,none⟩) 4 4,.int .i64 4,.int .i64 iz,(u 79),(u 80),(u 81),(u 82),(u 83),(u 84),(u 85),(u 86),(u 87),(u 88),(u 89),(u 90),(u 91),(u 92),(u 93),(u 94),(u 95),(u 96),(u 97),(u 98),(u 99),(u 100),(u 101),(u 102),(u 103),(u 104),(u 105),(u 106),(u 107),(u 108),(u 109),(u 110),(u 111),(u 112),(u 113),(u 114),(u 115),(u 116),(u 117),(u 118),(u 119),(u 120),(u 121),(u 122),(u 123),(u 124),(u 125),(u 126),(u 127),(u 128),(u 129),(u 130),(u 131),(u 132),(u 133),(u 134),(u 135),(u 136),(u 137),(u 138),(u 139),(u 140),(u 141),(u 142),(u 143),(u 144),(u 145),(u 146),(u 147),(u 148),(u 149),(u 150),(u 151),(u 152),(u 153),(u 154),(u 155),(u 156),(u 157),(u 158),(u 159),(u 160),(u 161),(u 162),(u 163),(u 164),(u 165),(u 166),(u 167),(u 168),(u 169),(u 170),(u 171),(u 172)]) (hE:KEnv p q b c B4 B5 B9 B11 B13 s o k wr) (hX:wr.heap.size=X) (hb:Below wr.heap.size wr W) (hW:W.heap.size=X+1) (hbox:W.heap[X]? =some (.cells #[.int .i64 k,.int .i64 0,.bool mi,.bool ba] 39))
  (hT:∀i,qA3 p q k mi ba i=((if mi then(o:Int)+qAS p i else(s:Int) - qAS p i)+qAS q (if ba then(k:Int) - i else(k:Int)+i))%(per p:Int))
  (F:Bool) (hF:qDk p q n k mi ba=F) (Q:Exit->Act->World->Prop)
  (hyes:F=true->∀t' D W',(∃u:Nat->Value,t'=#[u 0,(u 1),.int .u8 how,.func (.func g) #[] cb,.pointer (some ⟨B4,0,none⟩),.pointer (some ⟨B5,0,none⟩),(u 6),(u 7),.int .i64 (n:Nat),.pointer (some ⟨B9,0,none⟩),.bool st,.pointer (some ⟨B11,0,none⟩),.bool ov,.pointer (some ⟨B13,0,none⟩),v,(u 15),.pointer (some ⟨X,0,none⟩),(u 17),(u 18),(u 19),(u 20),(u 21),(u 22),(u 23),(u 24),(u 25),(u 26),(u 27),(u 28),(u 29),(u 30),(u 31),(u 32),(u 33),(u 34),(u 35),(u 36),(u 37),(u 38),(u 39),(u 40),(u 41),(u 42),(u 43),(u 44),(u 45),(u 46),(u 47),(u 48),(u 49),(u 50),(u 51),(u 52),(u 53),(u 54),(u 55),(u 56),(u 57),(u 58),(u 59),(u 60),(u 61),(u 62),(u 63),.int .i64 (n:Nat),.int .i64 (k:Nat),(u 66),(u 67),(u 68),(u 69),(u 70),(u 71),(u 72),(u 73),(u 74),(u 75),.slice (some ⟨KB,0,none⟩) 4 4,.int .i64 4,.int .i64 iz,(u 79),(u 80),(u 81),(u 82),(u 83),(u 84),(u 85),(u 86),(u 87),(u 88),(u 89),(u 90),(u 91),(u 92),(u 93),(u 94),(u 95),(u 96),(u 97),(u 98),(u 99),(u 100),(u 101),(u 102),(u 103),(u 104),(u 105),(u 106),(u 107),(u 108),(u 109),(u 110),(u 111),(u 112),(u 113),(u 114),(u 115),(u 116),(u 117),(u 118),(u 119),(u 120),(u 121),(u 122),(u 123),(u 124),(u 125),(u 126),(u 127),(u 128),(u 129),(u 130),(u 131),(u 132),(u 133),(u 134),(u 135),(u 136),(u 137),(u 138),(u 139),(u 140),(u 141),(u 142),(u 143),(u 144),(u 145),(u 146),(u 147),(u 148),(u 149),(u 150),(u 151),(u 152),(u 153),(u 154),(u 155),(u 156),(u 157),(u 158),(u 159),(u 160),(u 161),(u 162),(u 163),(u 164),(u 165),(u 166),(u 167),(u 168),(u 169),(u 170),(u 171),(u 172)])->Below X W W'->X<=D->W'.heap[D]? =some (.deferred (some []))->W'.heap[X]? =some (.cells #[.int .i64 k,.int .i64 (qA3 p q k mi ba 0),.bool mi,.bool ba] 39)->Q .normal {tmps:=t',defers:={target:= .collected D,args:=#[]}::ds} W')
  (hno:F=false->∀t' D W',(∃u:Nat->Value,t'=#[u 0,(u 1),.int .u8 how,.func (.func g) #[] cb,.pointer (some ⟨B4,0,none⟩),.pointer (some ⟨B5,0,none⟩),(u 6),(u 7),.int .i64 (n:Nat),.pointer (some ⟨B9,0,none⟩),.bool st,.pointer (some ⟨B11,0,none⟩),.bool ov,.pointer (some ⟨B13,0,none⟩),v,(u 15),.pointer (some ⟨X,0,none⟩),(u 17),(u 18),(u 19),(u 20),(u 21),(u 22),(u 23),(u 24),(u 25),(u 26),(u 27),(u 28),(u 29),(u 30),(u 31),(u 32),(u 33),(u 34),(u 35),(u 36),(u 37),(u 38),(u 39),(u 40),(u 41),(u 42),(u 43),(u 44),(u 45),(u 46),(u 47),(u 48),(u 49),(u 50),(u 51),(u 52),(u 53),(u 54),(u 55),(u 56),(u 57),(u 58),(u 59),(u 60),(u 61),(u 62),(u 63),.int .i64 (n:Nat),.int .i64 (k:Nat),(u 66),(u 67),(u 68),(u 69),(u 70),(u 71),(u 72),(u 73),(u 74),(u 75),.slice (some ⟨KB,0,none⟩) 4 4,.int .i64 4,.int .i64 iz,(u 79),(u 80),(u 81),(u 82),(u 83),(u 84),(u 85),(u 86),(u 87),(u 88),(u 89),(u 90),(u 91),(u 92),(u 93),(u 94),(u 95),(u 96),(u 97),(u 98),(u 99),(u 100),(u 101),(u 102),(u 103),(u 104),(u 105),(u 106),(u 107),(u 108),(u 109),(u 110),(u 111),(u 112),(u 113),(u 114),(u 115),(u 116),(u 117),(u 118),(u 119),(u 120),(u 121),(u 122),(u 123),(u 124),(u 125),(u 126),(u 127),(u 128),(u 129),(u 130),(u 131),(u 132),(u 133),(u 134),(u 135),(u 136),(u 137),(u 138),(u 139),(u 140),(u 141),(u 142),(u 143),(u 144),(u 145),(u 146),(u 147),(u 148),(u 149),(u 150),(u 151),(u 152),(u 153),(u 154),(u 155),(u 156),(u 157),(u 158),(u 159),(u 160),(u 161),(u 162),(u 163),(u 164),(u 165),(u 166),(u 167),(u 168),(u 169),(u 170),(u 171),(u 172)])->Below X W W'->X<=D->W'.heap[D]? =some (.deferred (some []))->Q (.exit 3) {tmps:=t',defers:={target:= .collected D,args:=#[]}::ds} W')
  (K:Act->World->Prop) (hK:∀a w,tBlk.wp Tryz.prog Q a w->K a w):tHead.wp Tryz.prog (Exit.then K Q) {tmps:=t,defers:=ds} W:=by
 obtain⟨u,rfl⟩:=ht
 conv=>arg 2;whnf
 have J:=hE.below hb;have e4:=qAH J.b4;have⟨j,ar,aj,U,S,Z,M,am⟩:=hyd8 hE J hT hF hyes hno hbox hX;have ak:=hyd1 hW;clear hW hX hbox hno hyes hF hT J hE;go_wp2_with (first | (go_at_call 29;((with_reducible refine(qHo _ _ _ _).mono ?_);rintro e w' ⟨rfl,rfl⟩)));obtain⟨H,V,an,G,E,C,A⟩:=qGn W (.cells #[.pointer (some ⟨b,0,none⟩)] 62) (.cells #[.int .i64 0] 3) (.cells #[.int .i64 n] 3);rw[V];clear V;have hX:=am.out;have al:=ak.out;have r:Below wr.heap.size wr H:=hb.trans (G.mono hb.size);have av:=hb.size
 conv=>arg 2;whnf
 go_wp2;generalize hL6:W.heap.size=L6 at A C E an al ⊢;have f:=qEb p hp b 0 n wr H (L6+1+1) (L6+1) L6 X j.out.one (by omega) (by omega) (by omega) (by omega) (by omega) (by omega) (by omega) r (qAH A) (qAH C) (qAH E);rw[show phAt p 0 n=qFs p n by funext i;simp[phAt,qFs]]at f;have ab:H.heap[X]? =_:=(G.block X (by omega)).trans M.out;have⟨ao,ap,aq,ac,L,z⟩:=hyd6 A C E ab r f;clear f r ab E C A;refine(wpIn_wide (n:=5)).1 ?_;refine wpIn_rangeFunc_ownG rfl (by omega) (gf:=54) (lb:=#[.pointer (some ⟨L6+1+1,0,none⟩),.pointer (some ⟨L6+1,0,none⟩),.pointer (some ⟨L6,0,none⟩)]) rfl trivial (enters_of Tryz.func54 (by kernel_rfl) rfl)
  z.out Kept.trans (Kept.put (by omega) (by simp;omega)) (Below.refl _ _) (λ_=>rfl)
  (λpre W=>RInv (qA3 p q k mi ba) k mi ba X [L6+1+1,L6+1,L6] H (pre.map (·.1)) W)
  (λcc pre W=>RStop (qA3 p q k mi ba) X [L6+1+1,L6+1,L6] H (pre.map (·.1)) cc W)
  (RInv.from _ (by omega) (Nat.le_refl _) (by simp;omega)) (λcc=>RStop.from _ (by omega) (Nat.le_refl _) (by simp;omega) cc) ⟨Kept.refl _ _ _,Nat.le_refl _,ac.out,rfl⟩
  ?_ ?_ ?_ ?_ ?_
 rotate_left
 ·intro l x W K hK;dsimp only[qFs];gi_wp2;exact hK
 ·rintro l pre x T d au;have ag:=j.out.below (L.out.trans (by rw[hX];exact d.kept.1));have y:∀{B:Nat} {o:Obj},wr.heap[B]? =some o->B<X:=λh=>by have:=(gsl h);omega
  have h4:=y j.out.b4;have h5:=y j.out.b5;have h9:=y j.out.b9;have ae:=y j.out.b11;have af:=y j.out.b13;exact qKe p q hp hq b c B4 B5 B9 B11 B13 s o k X H.heap.size l mi ba n pre x [L6+1+1,L6+1,L6] H T _ x.1 rfl hn hk hs ho (qAR _ _ (by kernel_rfl)) ag (by omega) (Nat.le_refl _) (by simp;omega) h4 h5 h9 ae af aj.out d
 ·rintro D ys T hD rfl d I;have m:=d.fits;rw[qCT n,qEv _ _ hn0]at m;have ai:F=true:=U.out.symm.trans m;have Y:=d.box;rw[qCT n,qEv _ _ hn0]at Y;exact S.out ai _ D T (qAR _ _ (by kernel_rfl)) ((G.mono (by omega)).trans d.kept.1) (by omega) I Y
 ·rintro D cc pre T hD aa R I;have m:qDk p q n k mi ba=false:=qJe aa R.fails;have ah:F=false:=U.out.symm.trans m;have O:=R.code;subst O;gi_wp2;exact Z.out ah _ D T (qAR _ _ (by kernel_rfl)) ((G.mono (by omega)).trans R.kept.1) (by omega) I
end Go.Proofs.YtbcbcdgbliheoaaGreat
namespace Go.Proofs.YtbcbcdgbliheoaaGreat
set_option maxRecDepth 100000
set_option maxHeartbeats 2000000
open Go.RowKit Go.Shelf Go.Sort Go.Lib
set_option linter.unusedVariables false
set_option linter.unusedSimpArgs false
attribute [local go_sem] Oper.semAt_some
attribute [local go_sem ↓] Go.wp_at_zero Go.wp_at_succ
def barF (H1 H2 st ov mi ba:Bool):Bool:=ba&&H2||mi&&H1||mi&& !ov|| !mi&& !st
theorem qFt (p q:Prog) (how:Nat) (mi ba:Bool):barB p q how mi ba=barF (how%2==0) (how / 2%2==0) (offB p q false) (offB p q true) mi ba:=rfl
def qDb (k:Nat):Array Value:=#[.int .i64 k,.int .i64 0,.bool false,.bool false,.int .i64 k,.int .i64 0,.bool false,.bool true,.int .i64 k,.int .i64 0,.bool true,.bool false,.int .i64 k,.int .i64 0,.bool true,.bool true]
def KSt (p q:Prog) (how g:Nat) (cb:Array Value) (st ov:Bool) (n k B4 B5 B9 B11 B13 KB:Nat) (W1:World) (ds0:List Deferred) (i:Nat) (a:Act) (wr:World):Prop:=
 ∃(t:Array Value) (ds':List Deferred) (v:Value) (iz:Int),a={tmps:=t,defers:=ds'++ds0}/\iz=i/\(∃u:Nat->Value,t=#[u 0,(u 1),.int .u8 how,.func (.func g) #[] cb,.pointer (some ⟨B4,0,none⟩),.pointer (some ⟨B5,0,none⟩),(u 6),(u 7),.int .i64 (n:Nat),.pointer (some ⟨B9,0,none⟩),.bool st,.pointer (some ⟨B11,0,none⟩),.bool ov,.pointer (some ⟨B13,0,none⟩),v,(u 15),(u 16),(u 17),(u 18),(u 19),(u 20),(u 21),(u 22),(u 23),(u 24),(u 25),(u 26),(u 27),(u 28),(u 29),(u 30),(u 31),(u 32),(u 33),(u 34),(u 35),(u 36),(u 37),(u 38),(u 39),(u 40),(u 41),(u 42),(u 43),(u 44),(u 45),(u 46),(u 47),(u 48),(u 49),(u 50),(u 51),(u 52),(u 53),(u 54),(u 55),(u 56),(u 57),(u 58),(u 59),(u 60),(u 61),(u 62),(u 63),.int .i64 (n:Nat),.int .i64 (k:Nat),(u 66),(u 67),(u 68),(u 69),(u 70),(u 71),(u 72),(u 73),(u 74),(u 75),.slice (some ⟨KB,0,none⟩) 4 4,.int .i64 4,.int .i64 iz,(u 79),(u 80),(u 81),(u 82),(u 83),(u 84),(u 85),(u 86),(u 87),(u 88),(u 89),(u 90),(u 91),(u 92),(u 93),(u 94),(u 95),(u 96),(u 97),(u 98),(u 99),(u 100),(u 101),(u 102),(u 103),(u 104),(u 105),(u 106),(u 107),(u 108),(u 109),(u 110),(u 111),(u 112),(u 113),(u 114),(u 115),(u 116),(u 117),(u 118),(u 119),(u 120),(u 121),(u 122),(u 123),(u 124),(u 125),(u 126),(u 127),(u 128),(u 129),(u 130),(u 131),(u 132),(u 133),(u 134),(u 135),(u 136),(u 137),(u 138),(u 139),(u 140),(u 141),(u 142),(u 143),(u 144),(u 145),(u 146),(u 147),(u 148),(u 149),(u 150),(u 151),(u 152),(u 153),(u 154),(u 155),(u 156),(u 157),(u 158),(u 159),(u 160),(u 161),(u 162),(u 163),(u 164),(u 165),(u 166),(u 167),(u 168),(u 169),(u 170),(u 171),(u 172)])/\Below W1.heap.size W1 wr/\Marks W1.heap.size wr ds'∧
  wr.ownsRow W1.heap.size 39 4 v (qAB p q how n k i).length (qAL (qAB p q how n k i))
theorem qDm {p q:Prog} {how n k i:Nat} (h:barB p q how (qBd i).1 (qBd i).2=true):qAB p q how n k (i+1)=qAB p q how n k i:=by
 rw[qEG];unfold qGk;rw[if_pos h];simp
theorem qEU {p q:Prog} {how n k i:Nat} (h:barB p q how (qBd i).1 (qBd i).2=false) (h2:qDk p q n k (qBd i).1 (qBd i).2=false):qAB p q how n k (i+1)=qAB p q how n k i:=by
 rw[qEG];unfold qGk;rw[if_neg (by simp[h]),if_neg (by simp[h2])];simp
theorem qDn {p q:Prog} {how n k i:Nat} (h:barB p q how (qBd i).1 (qBd i).2=false) (h2:qDk p q n k (qBd i).1 (qBd i).2=true):qAB p q how n k (i+1)=qAB p q how n k i++[mvAt p q k (qBd i).1 (qBd i).2]:=by
 rw[qEG];unfold qGk;rw[if_neg (by simp[h]),if_pos h2];rfl
theorem Marks.next {B:Nat} {w w':World} {ds:List Deferred} (h:Marks B w ds) (hb:Below w.heap.size w w'):Marks B w' ds:=
 h.keep λD _ hD=>(hb.block D (gsl hD)).trans hD
theorem Marks.lt {B:Nat} {w:World}:∀{ds:List Deferred},Marks B w ds->∀d∈ds,∃D,d={target:= .collected D,args:=#[]}/\D<w.heap.size
 | [],_,_,h=>by cases h
 | d::ds,⟨⟨D,hd,hB,hD,hne⟩,hr⟩,d',h=>by
  rcases List.mem_cons.1 h with rfl|h
  ·exact⟨D,hd,(gsl hD)⟩
  ·exact Marks.lt hr d' h
theorem Marks.cons {B X:Nat} {w w':World} {ds:List Deferred} (h:Marks B w' ds) (hlt:∀d∈ds,∃D,d={target:= .collected D,args:=#[]}/\D<X) {D:Nat} (hD:X<=D) (hB:B<=D) (hh:w'.heap[D]? =some (.deferred (some []))):
  Marks B w' ({target:= .collected D,args:=#[]}::ds):=
 ⟨⟨D,rfl,hB,hh,λd' hd' e=>by
  obtain⟨D',h1,h2⟩:=hlt d' hd';rw[h1]at e;injection e with e1;injection e1 with e1
  omega⟩,h⟩
theorem qEV {B X:Nat} {wr W' W3:World} {ds':List Deferred} {v:Value} {e size n:Nat} {xs:List Value} {o:Obj} (hm:Marks B wr ds') (hX:wr.heap.size=X) (hb:Below X wr W') (hrow:W'.ownsRow B e size v n xs) {D:Nat} (hD:X<=D) (hBX:B<=X)
  (hDK:W'.heap[D]? =some (.deferred (some []))) (hg:(W'.alloc o).grownBy W3 v.ownBlock):Marks B W3 ({target:= .collected D,args:=#[]}::ds'):=by
 have i:∀f,W'.heap[f]? =some (Obj.deferred (some []))->W3.heap[f]? =some (Obj.deferred (some [])):=λf h=>by
  have j:=(gsl h);exact(hg.block f (by simp;omega) (qI3 hrow h)).trans ((Below.heap_alloc _ _ _ j).trans h)
 refine Marks.cons (X:=X) (w:=wr) (hm.keep λf _ h=>i f ((hb.block f (by have:=(gsl h);omega)).trans h)) (λd l=>?_) hD (by omega) (i D hDK);obtain⟨f,k,m⟩:=hm.lt d l;exact⟨f,k,by omega⟩
theorem qCW (L:List Mv) (x:Mv):qAL (L++[x])=qAL L++x.enc:=by
 unfold qAL;rw[List.flatMap_append];simp
theorem new4 (W:World) (x:Mv) (e:TypeId):∀(j:Nat) (u:Value),x.enc[j]? =some u->(W.alloc (.cells #[.int .i64 x.cuts,.int .i64 x.turn,.bool x.mirror,.bool x.back] e)).cell? ((⟨W.heap.size,0,none⟩:Addr).add j)=some u:=by
 intro j u f;have h:j<4:=(List.getElem?_eq_some_iff.1 f).1;have d:(⟨W.heap.size,0,none⟩:Addr).add j=⟨W.heap.size,j,none⟩:=by unfold Addr.add;split<;>simp_all
 rw[d,World.cell?_alloc_at _ _ _ _ rfl]
 match j,h with
 | 0,_=>simpa[Mv.enc]using f
 | 1,_=>simpa[Mv.enc]using f
 | 2,_=>simpa[Mv.enc]using f
 | 3,_=>simpa[Mv.enc]using f
theorem qEc (x:Mv):∀u∈x.enc,u.oneCell'=true:=by
 intro u d;simp[Mv.enc]at d
 rcases d with rfl|rfl|rfl|rfl<;>rfl
theorem qF6:(Tryz.prog.info? 39).map (λi=>(i.zero,i.size,i.bytes))=some (some (.agg #[.int .i64 0,.int .i64 0,.bool false,.bool false]),4,24):=by kernel_rfl
theorem qMo (p q:Prog) (hp:BenchFacts p) (hq:BenchFacts q) (b c B4 B5 B9 B11 B13 s o k KB how g n:Nat) (cb:Array Value) (st ov H1 H2:Bool) (W1 wr:World) (ds0:List Deferred) (a:Act)
  (hn:n<=1152) (hn0:0<n) (hk:k<=1152) (hs:s<=1000000) (ho:o<=1000000) (hs1:s=offV p q false) (ho1:o=offV p q true) (hst:st=offB p q false) (hov:ov=offB p q true)
  (r1 r2:Int) (hr1:bits .and .u8 (how:Int) 1=r1) (hr2:bits .and .u8 (how:Int) 2=r2) (hH1:(r1==0)=H1) (hH2:(r2==0)=H2) (kH1:(how%2==0)=H1) (kH2:(how / 2%2==0)=H2)
  (hE1:KEnv p q b c B4 B5 B9 B11 B13 s o k W1) (hKB:W1.heap[KB]? =some (.cells (qDb k) 39)) (h:KSt p q how g cb st ov n k B4 B5 B9 B11 B13 KB W1 ds0 0 a wr) (Q:Exit->Act->World->Prop)
  (hnext:∀a' w',KSt p q how g cb st ov n k B4 B5 B9 B11 B13 KB W1 ds0 1 a' w'->Q .normal a' w'):kBody.wp Tryz.prog Q a wr:=by
 obtain⟨t,H,v,iz,rfl,bj,⟨u,rfl⟩,hb,hm,ap⟩:=h;obtain rfl:iz=0:=bj
 conv=>arg 2;whnf
 have a6:=hE1.below hb;have J:=(hb.block KB (gsl hKB)).trans hKB;have c0:wr.cell? ⟨KB,0+0,none⟩=some (.int .i64 k):=cell_of_row wr KB _ _ _ _ J;have c1:wr.cell? ⟨KB,0+1,none⟩=some (.int .i64 0):=cell_of_row wr KB _ _ _ _ J;have c2:wr.cell? ⟨KB,0+2,none⟩=some (.bool false):=cell_of_row wr KB _ _ _ _ J;have c3:wr.cell? ⟨KB,0+3,none⟩=some (.bool false):=cell_of_row wr KB _ _ _ _ J;simp only[Nat.reduceAdd]at c0 c1 c2 c3;have⟨br,bs,y,ab,G,a7,bv,aO⟩:=hyd8 hE1 hKB hb hm ap a6 J hs1;have⟨aI,aP,aJ,r,aK,aL,ag,ah⟩:=hyd8 ho1 hst hov hnext hr1 hr2 hH1 hH2;clear hH2 hH1 hr2 hr1 hnext hov hst ho1 hs1 J a6 ap hm hb hKB hE1;go_upto_region 12 with(fail);refine qDa ?_;intro W2 L V a3;clear c0 c1 c2 c3;obtain⟨x0,x1,x2,x3⟩:=qAT V;have hr1:=aK.out;have hr2:=aL.out;obtain⟨X,hX⟩:∃X,wr.heap.size=X:=⟨_,rfl⟩;rw[hX]at V a3 x0 x1 x2 x3 ⊢;obtain⟨BF,aq⟩:∃BF,barF H1 H2 st ov false false=BF:=⟨_,rfl⟩;have ai:barB p q how false false=BF:=by rw[qFt,kH1,kH2,<-aP.out,<-aJ.out];exact aq
 have aj:Below W1.heap.size W1 W2:=y.out.trans (L.mono y.out.size);have aG:=ab.out.next L;have U:=qAN G.out L;have⟨B,bz,b0,a8,a9,M,aU,au⟩:=hyd8 ai kH1 kH2 hX V L a3 aj;have⟨aH,ad⟩:=hyd2 aG U;clear U aG aj a3 L V hX kH2 kH1 ai
 cases BF with
 | true=>
  have j:=qDm (n:=n) (k:=k) (i:=0) B.out
  have R:∀(af:Int) t,af=1->(∃u:Nat->Value,t=#[u 0,(u 1),.int .u8 how,.func (.func g) #[] cb,.pointer (some ⟨B4,0,none⟩),.pointer (some ⟨B5,0,none⟩),(u 6),(u 7),.int .i64 (n:Nat),.pointer (some ⟨B9,0,none⟩),.bool st,.pointer (some ⟨B11,0,none⟩),.bool ov,.pointer (some ⟨B13,0,none⟩),v,(u 15),(u 16),(u 17),(u 18),(u 19),(u 20),(u 21),(u 22),(u 23),(u 24),(u 25),(u 26),(u 27),(u 28),(u 29),(u 30),(u 31),(u 32),(u 33),(u 34),(u 35),(u 36),(u 37),(u 38),(u 39),(u 40),(u 41),(u 42),(u 43),(u 44),(u 45),(u 46),(u 47),(u 48),(u 49),(u 50),(u 51),(u 52),(u 53),(u 54),(u 55),(u 56),(u 57),(u 58),(u 59),(u 60),(u 61),(u 62),(u 63),.int .i64 (n:Nat),.int .i64 (k:Nat),(u 66),(u 67),(u 68),(u 69),(u 70),(u 71),(u 72),(u 73),(u 74),(u 75),.slice (some ⟨KB,0,none⟩) 4 4,.int .i64 4,.int .i64 af,(u 79),(u 80),(u 81),(u 82),(u 83),(u 84),(u 85),(u 86),(u 87),(u 88),(u 89),(u 90),(u 91),(u 92),(u 93),(u 94),(u 95),(u 96),(u 97),(u 98),(u 99),(u 100),(u 101),(u 102),(u 103),(u 104),(u 105),(u 106),(u 107),(u 108),(u 109),(u 110),(u 111),(u 112),(u 113),(u 114),(u 115),(u 116),(u 117),(u 118),(u 119),(u 120),(u 121),(u 122),(u 123),(u 124),(u 125),(u 126),(u 127),(u 128),(u 129),(u 130),(u 131),(u 132),(u 133),(u 134),(u 135),(u 136),(u 137),(u 138),(u 139),(u 140),(u 141),(u 142),(u 143),(u 144),(u 145),(u 146),(u 147),(u 148),(u 149),(u 150),(u 151),(u 152),(u 153),(u 154),(u 155),(u 156),(u 157),(u 158),(u 159),(u 160),(u 161),(u 162),(u 163),(u 164),(u 165),(u 166),(u 167),(u 168),(u 169),(u 170),(u 171),(u 172)])->KSt p q how g cb st ov n k B4 B5 B9 B11 B13 KB W1 ds0 1 {tmps:=t,defers:=H++ds0} W2:=λaf t h1 h2=>
   ⟨t,H,v,af,rfl,h1,h2,au.out,aH.out,by have e:qAB p q how n k 1=qAB p q how n k 0:=j;rw[e];exact ad.out⟩
  have⟨ae,Z⟩:=hyd2 j R;clear R j
  cases st<;>first | (exfalso;simp[barF]at aq;done)|skip
  all_goals
   have hH1:=ag.out;have hH2:=ah.out;go_wp2;exact r.out _ _ (Z.out _ _ rfl (qAR _ _ (by kernel_rfl)))
 | false=>
  cases st<;>first | (exfalso;simp[barF]at aq;done)|skip
  all_goals
   have hH1:=ag.out;have hH2:=ah.out;go_upto_region 13 with(fail);obtain⟨F,hF⟩:∃F,qDk p q n k false false=F:=⟨_,rfl⟩;have I:=a8.out;refine qET p q hp hq b c B4 B5 B9 B11 B13 s o k X KB how g n 0 cb true ov false false v wr W2 (H++ds0) _ hn hn0 hk hs ho (qAR _ _ (by kernel_rfl)) a7.out a8.out M.out aU.out a9.out (λi=>by rw[aO.out,aI.out];rfl) F hF _ ?_ ?_ _ (by assumption)
   ·intro bg t' D W3 hu ar hD A av;obtain⟨u',rfl⟩:=hu;have m:=qDn (n:=n) (k:=k) (i:=0) B.out (hF.trans bg);have aF:=qC3 p q how n k 0;have l:=(M.out.mono (Nat.le_refl _)).trans (by rw[I];exact ar);have f:=qAN G.out l;have z:=y.out.trans (l.mono y.out.size);have O:W1.heap.size<=X:=by rw[<-I];exact y.out.size
    have aB:=l.size;obtain⟨mi,bk,aQ,aS,aV⟩:=info_parts qF6;obtain⟨x0,x1,x2,x3⟩:=qAT av;have T:=new4 W3 (mvAt p q k false false) 39;have ax:=qEc (mvAt p q k false false);have ao:=λ(o:Obj) (W4:World) (hg:(W3.alloc o).grownBy W4 v.ownBlock)=>qEV ab.out I (by rw[<-I];exact l) f hD O A hg;have aM:=f.lt;have a1:(mvAt p q k false false).enc =[.int .i64 k,.int .i64 (qA3 p q k false false 0),.bool false,.bool false]:=rfl;rw[a1]at T ax
    have ak:qAL (qAB p q how n k 1)=qAL (qAB p q how n k 0)++[.int .i64 k,.int .i64 (qA3 p q k false false 0),.bool false,.bool false]:=by
     have e:qAB p q how n k 1=_:=m;rw[e,qCW];rfl
    have S:(qAB p q how n k 1).length =(qAB p q how n k 0).length +1:=by
     have e:qAB p q how n k 1=_:=m;rw[e];simp
    have⟨ba,al,aA,x,C,bt,a5,a2⟩:=hyd8 m aF l f z av A T;have⟨aE,a0,aR,aT,aW,aN,bx,aw⟩:=hyd8 ax ao aQ aS aV aM a1 ak;have aa:=hyd1 S;clear S ak a1 aM aV aS aQ ao ax T A av z f l aF m;go_wp2_with (first | (at_builtin;go_must (refine wpList_append_own _ rfl _ _ 94 rfl W1.heap.size 39 mi _ 4 24 Tryz.underlying94 bk aR.out aT.out aW.out rfl (by decide) v _ _ rfl (x.out.alloc _) ⟨W3.heap.size,0,none⟩ 1 1 [.int .i64 k,.int .i64 (qA3 p q k false false 0),.bool false,.bool false] rfl rfl ?_ ?_ ?_ ?_ ?_ ?_)))
    ·exact a2.out
    ·exact aE.out
    ·have:=al.out;unfold maxLen;omega
    ·have:=al.out;omega
    ·have:=aB;simp;omega
    ·intro v4 W4 E Y _;have an:=a0.out _ W4 Y;have aC:Below W1.heap.size W1 W4:=(C.out.alloc (by omega) _).grown Y (by simp;omega) (λk e=>(aN.out k e).1);rw[<-aa.out,<-aw.out]at E;have⟨ac,az,aD,bu⟩:=hyd4 E an aC Y;clear Y aC an E;go_wp2;exact r.out _ _ ⟨_,_::H,v4,1,rfl,rfl,qAR _ _ (by kernel_rfl),aD.out,az.out,ac.out⟩
   ·intro bf t' D W3 hu ar hD A;obtain⟨u',rfl⟩:=hu;have j:=qEU (n:=n) (k:=k) (i:=0) B.out (hF.trans bf);have l:=(M.out.mono (Nat.le_refl _)).trans (by rw[I];exact ar);have f:=qAN G.out l;have z:=y.out.trans (l.mono y.out.size);have O:W1.heap.size<=X:=by rw[<-I];exact y.out.size
    have am:Marks W1.heap.size W3 ({target:= .collected D,args:=#[]}::H):=Marks.cons (X:=X) (w:=wr) (ab.out.next l) (λd hd=>by obtain⟨D',h1,h2⟩:=ab.out.lt d hd;exact⟨D',h1,by omega⟩) hD (by omega) A;have he:qAB p q how n k 1=qAB p q how n k 0:=j;rw[<-he]at f;have⟨ae,aA,x,C,a5,ay,b7⟩:=hyd7 j l f z A am he;clear he am A z f l j;go_wp2;exact r.out _ _ ⟨_,_::H,v,1,rfl,rfl,qAR _ _ (by kernel_rfl),C.out,ay.out,x.out⟩
theorem qMp (p q:Prog) (hp:BenchFacts p) (hq:BenchFacts q) (b c B4 B5 B9 B11 B13 s o k KB how g n:Nat) (cb:Array Value) (st ov H1 H2:Bool) (W1 wr:World) (ds0:List Deferred) (a:Act)
  (hn:n<=1152) (hn0:0<n) (hk:k<=1152) (hs:s<=1000000) (ho:o<=1000000) (hs1:s=offV p q false) (ho1:o=offV p q true) (hst:st=offB p q false) (hov:ov=offB p q true)
  (r1 r2:Int) (hr1:bits .and .u8 (how:Int) 1=r1) (hr2:bits .and .u8 (how:Int) 2=r2) (hH1:(r1==0)=H1) (hH2:(r2==0)=H2) (kH1:(how%2==0)=H1) (kH2:(how / 2%2==0)=H2)
  (hE1:KEnv p q b c B4 B5 B9 B11 B13 s o k W1) (hKB:W1.heap[KB]? =some (.cells (qDb k) 39)) (h:KSt p q how g cb st ov n k B4 B5 B9 B11 B13 KB W1 ds0 1 a wr) (Q:Exit->Act->World->Prop)
  (hnext:∀a' w',KSt p q how g cb st ov n k B4 B5 B9 B11 B13 KB W1 ds0 2 a' w'->Q .normal a' w'):kBody.wp Tryz.prog Q a wr:=by
 obtain⟨t,H,v,iz,rfl,bj,⟨u,rfl⟩,hb,hm,ap⟩:=h;obtain rfl:iz=1:=bj
 conv=>arg 2;whnf
 have a6:=hE1.below hb;have J:=(hb.block KB (gsl hKB)).trans hKB;have c0:wr.cell? ⟨KB,4+0,none⟩=some (.int .i64 k):=cell_of_row wr KB _ _ _ _ J;have c1:wr.cell? ⟨KB,4+1,none⟩=some (.int .i64 0):=cell_of_row wr KB _ _ _ _ J;have c2:wr.cell? ⟨KB,4+2,none⟩=some (.bool false):=cell_of_row wr KB _ _ _ _ J;have c3:wr.cell? ⟨KB,4+3,none⟩=some (.bool true):=cell_of_row wr KB _ _ _ _ J;simp only[Nat.reduceAdd]at c0 c1 c2 c3;have⟨br,bs,y,ab,G,a7,bv,aO⟩:=hyd8 hE1 hKB hb hm ap a6 J hs1;have⟨aI,aP,aJ,r,aK,aL,ag,ah⟩:=hyd8 ho1 hst hov hnext hr1 hr2 hH1 hH2;clear hH2 hH1 hr2 hr1 hnext hov hst ho1 hs1 J a6 ap hm hb hKB hE1;go_upto_region 12 with(fail);refine qDa ?_;intro W2 L V a3;clear c0 c1 c2 c3;obtain⟨x0,x1,x2,x3⟩:=qAT V;have hr1:=aK.out;have hr2:=aL.out;obtain⟨X,hX⟩:∃X,wr.heap.size=X:=⟨_,rfl⟩;rw[hX]at V a3 x0 x1 x2 x3 ⊢;obtain⟨BF,aq⟩:∃BF,barF H1 H2 st ov false true=BF:=⟨_,rfl⟩;have ai:barB p q how false true=BF:=by rw[qFt,kH1,kH2,<-aP.out,<-aJ.out];exact aq
 have aj:Below W1.heap.size W1 W2:=y.out.trans (L.mono y.out.size);have aG:=ab.out.next L;have U:=qAN G.out L;have⟨B,bz,b0,a8,a9,M,aU,au⟩:=hyd8 ai kH1 kH2 hX V L a3 aj;have⟨aH,ad⟩:=hyd2 aG U;clear U aG aj a3 L V hX kH2 kH1 ai
 cases BF with
 | true=>
  have j:=qDm (n:=n) (k:=k) (i:=1) B.out
  have R:∀(af:Int) t,af=2->(∃u:Nat->Value,t=#[u 0,(u 1),.int .u8 how,.func (.func g) #[] cb,.pointer (some ⟨B4,0,none⟩),.pointer (some ⟨B5,0,none⟩),(u 6),(u 7),.int .i64 (n:Nat),.pointer (some ⟨B9,0,none⟩),.bool st,.pointer (some ⟨B11,0,none⟩),.bool ov,.pointer (some ⟨B13,0,none⟩),v,(u 15),(u 16),(u 17),(u 18),(u 19),(u 20),(u 21),(u 22),(u 23),(u 24),(u 25),(u 26),(u 27),(u 28),(u 29),(u 30),(u 31),(u 32),(u 33),(u 34),(u 35),(u 36),(u 37),(u 38),(u 39),(u 40),(u 41),(u 42),(u 43),(u 44),(u 45),(u 46),(u 47),(u 48),(u 49),(u 50),(u 51),(u 52),(u 53),(u 54),(u 55),(u 56),(u 57),(u 58),(u 59),(u 60),(u 61),(u 62),(u 63),.int .i64 (n:Nat),.int .i64 (k:Nat),(u 66),(u 67),(u 68),(u 69),(u 70),(u 71),(u 72),(u 73),(u 74),(u 75),.slice (some ⟨KB,0,none⟩) 4 4,.int .i64 4,.int .i64 af,(u 79),(u 80),(u 81),(u 82),(u 83),(u 84),(u 85),(u 86),(u 87),(u 88),(u 89),(u 90),(u 91),(u 92),(u 93),(u 94),(u 95),(u 96),(u 97),(u 98),(u 99),(u 100),(u 101),(u 102),(u 103),(u 104),(u 105),(u 106),(u 107),(u 108),(u 109),(u 110),(u 111),(u 112),(u 113),(u 114),(u 115),(u 116),(u 117),(u 118),(u 119),(u 120),(u 121),(u 122),(u 123),(u 124),(u 125),(u 126),(u 127),(u 128),(u 129),(u 130),(u 131),(u 132),(u 133),(u 134),(u 135),(u 136),(u 137),(u 138),(u 139),(u 140),(u 141),(u 142),(u 143),(u 144),(u 145),(u 146),(u 147),(u 148),(u 149),(u 150),(u 151),(u 152),(u 153),(u 154),(u 155),(u 156),(u 157),(u 158),(u 159),(u 160),(u 161),(u 162),(u 163),(u 164),(u 165),(u 166),(u 167),(u 168),(u 169),(u 170),(u 171),(u 172)])->KSt p q how g cb st ov n k B4 B5 B9 B11 B13 KB W1 ds0 2 {tmps:=t,defers:=H++ds0} W2:=λaf t h1 h2=>
   ⟨t,H,v,af,rfl,h1,h2,au.out,aH.out,by have e:qAB p q how n k 2=qAB p q how n k 1:=j;rw[e];exact ad.out⟩
  have⟨ae,Z⟩:=hyd2 j R;clear R j
  cases H2<;>cases st<;>first | (exfalso;simp[barF]at aq;done)|skip
  all_goals
   have hH1:=ag.out;have hH2:=ah.out;go_wp2;exact r.out _ _ (Z.out _ _ rfl (qAR _ _ (by kernel_rfl)))
 | false=>
  cases H2<;>cases st<;>first | (exfalso;simp[barF]at aq;done)|skip
  all_goals
   have hH1:=ag.out;have hH2:=ah.out;go_upto_region 13 with(fail);obtain⟨F,hF⟩:∃F,qDk p q n k false true=F:=⟨_,rfl⟩;have I:=a8.out;refine qET p q hp hq b c B4 B5 B9 B11 B13 s o k X KB how g n 1 cb true ov false true v wr W2 (H++ds0) _ hn hn0 hk hs ho (qAR _ _ (by kernel_rfl)) a7.out a8.out M.out aU.out a9.out (λi=>by rw[aO.out,aI.out];rfl) F hF _ ?_ ?_ _ (by assumption)
   ·intro bg t' D W3 hu ar hD A av;obtain⟨u',rfl⟩:=hu;have m:=qDn (n:=n) (k:=k) (i:=1) B.out (hF.trans bg);have aF:=qC3 p q how n k 1;have l:=(M.out.mono (Nat.le_refl _)).trans (by rw[I];exact ar);have f:=qAN G.out l;have z:=y.out.trans (l.mono y.out.size);have O:W1.heap.size<=X:=by rw[<-I];exact y.out.size
    have aB:=l.size;obtain⟨mi,bk,aQ,aS,aV⟩:=info_parts qF6;obtain⟨x0,x1,x2,x3⟩:=qAT av;have T:=new4 W3 (mvAt p q k false true) 39;have ax:=qEc (mvAt p q k false true);have ao:=λ(o:Obj) (W4:World) (hg:(W3.alloc o).grownBy W4 v.ownBlock)=>qEV ab.out I (by rw[<-I];exact l) f hD O A hg;have aM:=f.lt;have a1:(mvAt p q k false true).enc =[.int .i64 k,.int .i64 (qA3 p q k false true 0),.bool false,.bool true]:=rfl;rw[a1]at T ax
    have ak:qAL (qAB p q how n k 2)=qAL (qAB p q how n k 1)++[.int .i64 k,.int .i64 (qA3 p q k false true 0),.bool false,.bool true]:=by
     have e:qAB p q how n k 2=_:=m;rw[e,qCW];rfl
    have S:(qAB p q how n k 2).length =(qAB p q how n k 1).length +1:=by
     have e:qAB p q how n k 2=_:=m;rw[e];simp
    have⟨ba,al,aA,x,C,bt,a5,a2⟩:=hyd8 m aF l f z av A T;have⟨aE,a0,aR,aT,aW,aN,bx,aw⟩:=hyd8 ax ao aQ aS aV aM a1 ak;have aa:=hyd1 S;clear S ak a1 aM aV aS aQ ao ax T A av z f l aF m;go_wp2_with (first | (at_builtin;go_must (refine wpList_append_own _ rfl _ _ 94 rfl W1.heap.size 39 mi _ 4 24 Tryz.underlying94 bk aR.out aT.out aW.out rfl (by decide) v _ _ rfl (x.out.alloc _) ⟨W3.heap.size,0,none⟩ 1 1 [.int .i64 k,.int .i64 (qA3 p q k false true 0),.bool false,.bool true] rfl rfl ?_ ?_ ?_ ?_ ?_ ?_)))
    ·exact a2.out
    ·exact aE.out
    ·have:=al.out;unfold maxLen;omega
    ·have:=al.out;omega
    ·have:=aB;simp;omega
    ·intro v4 W4 E Y _;have an:=a0.out _ W4 Y;have aC:Below W1.heap.size W1 W4:=(C.out.alloc (by omega) _).grown Y (by simp;omega) (λk e=>(aN.out k e).1);rw[<-aa.out,<-aw.out]at E;have⟨ac,az,aD,bu⟩:=hyd4 E an aC Y;clear Y aC an E;go_wp2;exact r.out _ _ ⟨_,_::H,v4,2,rfl,rfl,qAR _ _ (by kernel_rfl),aD.out,az.out,ac.out⟩
   ·intro bf t' D W3 hu ar hD A;obtain⟨u',rfl⟩:=hu;have j:=qEU (n:=n) (k:=k) (i:=1) B.out (hF.trans bf);have l:=(M.out.mono (Nat.le_refl _)).trans (by rw[I];exact ar);have f:=qAN G.out l;have z:=y.out.trans (l.mono y.out.size);have O:W1.heap.size<=X:=by rw[<-I];exact y.out.size
    have am:Marks W1.heap.size W3 ({target:= .collected D,args:=#[]}::H):=Marks.cons (X:=X) (w:=wr) (ab.out.next l) (λd hd=>by obtain⟨D',h1,h2⟩:=ab.out.lt d hd;exact⟨D',h1,by omega⟩) hD (by omega) A;have he:qAB p q how n k 2=qAB p q how n k 1:=j;rw[<-he]at f;have⟨ae,aA,x,C,a5,ay,b7⟩:=hyd7 j l f z A am he;clear he am A z f l j;go_wp2;exact r.out _ _ ⟨_,_::H,v,2,rfl,rfl,qAR _ _ (by kernel_rfl),C.out,ay.out,x.out⟩
theorem qMq (p q:Prog) (hp:BenchFacts p) (hq:BenchFacts q) (b c B4 B5 B9 B11 B13 s o k KB how g n:Nat) (cb:Array Value) (st ov H1 H2:Bool) (W1 wr:World) (ds0:List Deferred) (a:Act)
  (hn:n<=1152) (hn0:0<n) (hk:k<=1152) (hs:s<=1000000) (ho:o<=1000000) (hs1:s=offV p q false) (ho1:o=offV p q true) (hst:st=offB p q false) (hov:ov=offB p q true)
  (r1 r2:Int) (hr1:bits .and .u8 (how:Int) 1=r1) (hr2:bits .and .u8 (how:Int) 2=r2) (hH1:(r1==0)=H1) (hH2:(r2==0)=H2) (kH1:(how%2==0)=H1) (kH2:(how / 2%2==0)=H2)
  (hE1:KEnv p q b c B4 B5 B9 B11 B13 s o k W1) (hKB:W1.heap[KB]? =some (.cells (qDb k) 39)) (h:KSt p q how g cb st ov n k B4 B5 B9 B11 B13 KB W1 ds0 2 a wr) (Q:Exit->Act->World->Prop)
  (hnext:∀a' w',KSt p q how g cb st ov n k B4 B5 B9 B11 B13 KB W1 ds0 3 a' w'->Q .normal a' w'):kBody.wp Tryz.prog Q a wr:=by
 obtain⟨t,H,v,iz,rfl,bj,⟨u,rfl⟩,hb,hm,ap⟩:=h;obtain rfl:iz=2:=bj
 conv=>arg 2;whnf
 have a6:=hE1.below hb;have J:=(hb.block KB (gsl hKB)).trans hKB;have c0:wr.cell? ⟨KB,8+0,none⟩=some (.int .i64 k):=cell_of_row wr KB _ _ _ _ J;have c1:wr.cell? ⟨KB,8+1,none⟩=some (.int .i64 0):=cell_of_row wr KB _ _ _ _ J;have c2:wr.cell? ⟨KB,8+2,none⟩=some (.bool true):=cell_of_row wr KB _ _ _ _ J;have c3:wr.cell? ⟨KB,8+3,none⟩=some (.bool false):=cell_of_row wr KB _ _ _ _ J;simp only[Nat.reduceAdd]at c0 c1 c2 c3;have⟨br,bs,y,ab,G,a7,bv,aO⟩:=hyd8 hE1 hKB hb hm ap a6 J hs1;have⟨aI,aP,aJ,r,aK,aL,ag,ah⟩:=hyd8 ho1 hst hov hnext hr1 hr2 hH1 hH2;clear hH2 hH1 hr2 hr1 hnext hov hst ho1 hs1 J a6 ap hm hb hKB hE1;go_upto_region 12 with(fail);refine qDa ?_;intro W2 L V a3;clear c0 c1 c2 c3;obtain⟨x0,x1,x2,x3⟩:=qAT V;have hr1:=aK.out;have hr2:=aL.out;obtain⟨X,hX⟩:∃X,wr.heap.size=X:=⟨_,rfl⟩;rw[hX]at V a3 x0 x1 x2 x3 ⊢;obtain⟨BF,aq⟩:∃BF,barF H1 H2 st ov true false=BF:=⟨_,rfl⟩;have ai:barB p q how true false=BF:=by rw[qFt,kH1,kH2,<-aP.out,<-aJ.out];exact aq
 have aj:Below W1.heap.size W1 W2:=y.out.trans (L.mono y.out.size);have aG:=ab.out.next L;have U:=qAN G.out L;have⟨B,bz,b0,a8,a9,M,aU,au⟩:=hyd8 ai kH1 kH2 hX V L a3 aj;have⟨aH,ad⟩:=hyd2 aG U;clear U aG aj a3 L V hX kH2 kH1 ai
 cases BF with
 | true=>
  have j:=qDm (n:=n) (k:=k) (i:=2) B.out
  have R:∀(af:Int) t,af=3->(∃u:Nat->Value,t=#[u 0,(u 1),.int .u8 how,.func (.func g) #[] cb,.pointer (some ⟨B4,0,none⟩),.pointer (some ⟨B5,0,none⟩),(u 6),(u 7),.int .i64 (n:Nat),.pointer (some ⟨B9,0,none⟩),.bool st,.pointer (some ⟨B11,0,none⟩),.bool ov,.pointer (some ⟨B13,0,none⟩),v,(u 15),(u 16),(u 17),(u 18),(u 19),(u 20),(u 21),(u 22),(u 23),(u 24),(u 25),(u 26),(u 27),(u 28),(u 29),(u 30),(u 31),(u 32),(u 33),(u 34),(u 35),(u 36),(u 37),(u 38),(u 39),(u 40),(u 41),(u 42),(u 43),(u 44),(u 45),(u 46),(u 47),(u 48),(u 49),(u 50),(u 51),(u 52),(u 53),(u 54),(u 55),(u 56),(u 57),(u 58),(u 59),(u 60),(u 61),(u 62),(u 63),.int .i64 (n:Nat),.int .i64 (k:Nat),(u 66),(u 67),(u 68),(u 69),(u 70),(u 71),(u 72),(u 73),(u 74),(u 75),.slice (some ⟨KB,0,none⟩) 4 4,.int .i64 4,.int .i64 af,(u 79),(u 80),(u 81),(u 82),(u 83),(u 84),(u 85),(u 86),(u 87),(u 88),(u 89),(u 90),(u 91),(u 92),(u 93),(u 94),(u 95),(u 96),(u 97),(u 98),(u 99),(u 100),(u 101),(u 102),(u 103),(u 104),(u 105),(u 106),(u 107),(u 108),(u 109),(u 110),(u 111),(u 112),(u 113),(u 114),(u 115),(u 116),(u 117),(u 118),(u 119),(u 120),(u 121),(u 122),(u 123),(u 124),(u 125),(u 126),(u 127),(u 128),(u 129),(u 130),(u 131),(u 132),(u 133),(u 134),(u 135),(u 136),(u 137),(u 138),(u 139),(u 140),(u 141),(u 142),(u 143),(u 144),(u 145),(u 146),(u 147),(u 148),(u 149),(u 150),(u 151),(u 152),(u 153),(u 154),(u 155),(u 156),(u 157),(u 158),(u 159),(u 160),(u 161),(u 162),(u 163),(u 164),(u 165),(u 166),(u 167),(u 168),(u 169),(u 170),(u 171),(u 172)])->KSt p q how g cb st ov n k B4 B5 B9 B11 B13 KB W1 ds0 3 {tmps:=t,defers:=H++ds0} W2:=λaf t h1 h2=>
   ⟨t,H,v,af,rfl,h1,h2,au.out,aH.out,by have e:qAB p q how n k 3=qAB p q how n k 2:=j;rw[e];exact ad.out⟩
  have⟨ae,Z⟩:=hyd2 j R;clear R j
  cases H1<;>cases ov<;>first | (exfalso;simp[barF]at aq;done)|skip
  all_goals
   have hH1:=ag.out;have hH2:=ah.out;go_wp2;exact r.out _ _ (Z.out _ _ rfl (qAR _ _ (by kernel_rfl)))
 | false=>
  cases H1<;>cases ov<;>first | (exfalso;simp[barF]at aq;done)|skip
  all_goals
   have hH1:=ag.out;have hH2:=ah.out;go_upto_region 13 with(fail);obtain⟨F,hF⟩:∃F,qDk p q n k true false=F:=⟨_,rfl⟩;have I:=a8.out;refine qET p q hp hq b c B4 B5 B9 B11 B13 s o k X KB how g n 2 cb st true true false v wr W2 (H++ds0) _ hn hn0 hk hs ho (qAR _ _ (by kernel_rfl)) a7.out a8.out M.out aU.out a9.out (λi=>by rw[aO.out,aI.out];rfl) F hF _ ?_ ?_ _ (by assumption)
   ·intro bg t' D W3 hu ar hD A av;obtain⟨u',rfl⟩:=hu;have m:=qDn (n:=n) (k:=k) (i:=2) B.out (hF.trans bg);have aF:=qC3 p q how n k 2;have l:=(M.out.mono (Nat.le_refl _)).trans (by rw[I];exact ar);have f:=qAN G.out l;have z:=y.out.trans (l.mono y.out.size);have O:W1.heap.size<=X:=by rw[<-I];exact y.out.size
    have aB:=l.size;obtain⟨mi,bk,aQ,aS,aV⟩:=info_parts qF6;obtain⟨x0,x1,x2,x3⟩:=qAT av;have T:=new4 W3 (mvAt p q k true false) 39;have ax:=qEc (mvAt p q k true false);have ao:=λ(o:Obj) (W4:World) (hg:(W3.alloc o).grownBy W4 v.ownBlock)=>qEV ab.out I (by rw[<-I];exact l) f hD O A hg;have aM:=f.lt;have a1:(mvAt p q k true false).enc =[.int .i64 k,.int .i64 (qA3 p q k true false 0),.bool true,.bool false]:=rfl;rw[a1]at T ax
    have ak:qAL (qAB p q how n k 3)=qAL (qAB p q how n k 2)++[.int .i64 k,.int .i64 (qA3 p q k true false 0),.bool true,.bool false]:=by
     have e:qAB p q how n k 3=_:=m;rw[e,qCW];rfl
    have S:(qAB p q how n k 3).length =(qAB p q how n k 2).length +1:=by
     have e:qAB p q how n k 3=_:=m;rw[e];simp
    have⟨ba,al,aA,x,C,bt,a5,a2⟩:=hyd8 m aF l f z av A T;have⟨aE,a0,aR,aT,aW,aN,bx,aw⟩:=hyd8 ax ao aQ aS aV aM a1 ak;have aa:=hyd1 S;clear S ak a1 aM aV aS aQ ao ax T A av z f l aF m;go_wp2_with (first | (at_builtin;go_must (refine wpList_append_own _ rfl _ _ 94 rfl W1.heap.size 39 mi _ 4 24 Tryz.underlying94 bk aR.out aT.out aW.out rfl (by decide) v _ _ rfl (x.out.alloc _) ⟨W3.heap.size,0,none⟩ 1 1 [.int .i64 k,.int .i64 (qA3 p q k true false 0),.bool true,.bool false] rfl rfl ?_ ?_ ?_ ?_ ?_ ?_)))
    ·exact a2.out
    ·exact aE.out
    ·have:=al.out;unfold maxLen;omega
    ·have:=al.out;omega
    ·have:=aB;simp;omega
    ·intro v4 W4 E Y _;have an:=a0.out _ W4 Y;have aC:Below W1.heap.size W1 W4:=(C.out.alloc (by omega) _).grown Y (by simp;omega) (λk e=>(aN.out k e).1);rw[<-aa.out,<-aw.out]at E;have⟨ac,az,aD,bu⟩:=hyd4 E an aC Y;clear Y aC an E;go_wp2;exact r.out _ _ ⟨_,_::H,v4,3,rfl,rfl,qAR _ _ (by kernel_rfl),aD.out,az.out,ac.out⟩
   ·intro bf t' D W3 hu ar hD A;obtain⟨u',rfl⟩:=hu;have j:=qEU (n:=n) (k:=k) (i:=2) B.out (hF.trans bf);have l:=(M.out.mono (Nat.le_refl _)).trans (by rw[I];exact ar);have f:=qAN G.out l;have z:=y.out.trans (l.mono y.out.size);have O:W1.heap.size<=X:=by rw[<-I];exact y.out.size
    have am:Marks W1.heap.size W3 ({target:= .collected D,args:=#[]}::H):=Marks.cons (X:=X) (w:=wr) (ab.out.next l) (λd hd=>by obtain⟨D',h1,h2⟩:=ab.out.lt d hd;exact⟨D',h1,by omega⟩) hD (by omega) A;have he:qAB p q how n k 3=qAB p q how n k 2:=j;rw[<-he]at f;have⟨ae,aA,x,C,a5,ay,b7⟩:=hyd7 j l f z A am he;clear he am A z f l j;go_wp2;exact r.out _ _ ⟨_,_::H,v,3,rfl,rfl,qAR _ _ (by kernel_rfl),C.out,ay.out,x.out⟩
theorem qMr (p q:Prog) (hp:BenchFacts p) (hq:BenchFacts q) (b c B4 B5 B9 B11 B13 s o k KB how g n:Nat) (cb:Array Value) (st ov H1 H2:Bool) (W1 wr:World) (ds0:List Deferred) (a:Act)
  (hn:n<=1152) (hn0:0<n) (hk:k<=1152) (hs:s<=1000000) (ho:o<=1000000) (hs1:s=offV p q false) (ho1:o=offV p q true) (hst:st=offB p q false) (hov:ov=offB p q true)
  (r1 r2:Int) (hr1:bits .and .u8 (how:Int) 1=r1) (hr2:bits .and .u8 (how:Int) 2=r2) (hH1:(r1==0)=H1) (hH2:(r2==0)=H2) (kH1:(how%2==0)=H1) (kH2:(how / 2%2==0)=H2)
  (hE1:KEnv p q b c B4 B5 B9 B11 B13 s o k W1) (hKB:W1.heap[KB]? =some (.cells (qDb k) 39)) (h:KSt p q how g cb st ov n k B4 B5 B9 B11 B13 KB W1 ds0 3 a wr) (Q:Exit->Act->World->Prop)
  (hnext:∀a' w',KSt p q how g cb st ov n k B4 B5 B9 B11 B13 KB W1 ds0 4 a' w'->Q .normal a' w'):kBody.wp Tryz.prog Q a wr:=by
 obtain⟨t,H,v,iz,rfl,bj,⟨u,rfl⟩,hb,hm,ap⟩:=h;obtain rfl:iz=3:=bj
 conv=>arg 2;whnf
 have a6:=hE1.below hb;have J:=(hb.block KB (gsl hKB)).trans hKB;have c0:wr.cell? ⟨KB,12+0,none⟩=some (.int .i64 k):=cell_of_row wr KB _ _ _ _ J;have c1:wr.cell? ⟨KB,12+1,none⟩=some (.int .i64 0):=cell_of_row wr KB _ _ _ _ J;have c2:wr.cell? ⟨KB,12+2,none⟩=some (.bool true):=cell_of_row wr KB _ _ _ _ J;have c3:wr.cell? ⟨KB,12+3,none⟩=some (.bool true):=cell_of_row wr KB _ _ _ _ J;simp only[Nat.reduceAdd]at c0 c1 c2 c3;have⟨br,bs,y,ab,G,a7,bv,aO⟩:=hyd8 hE1 hKB hb hm ap a6 J hs1;have⟨aI,aP,aJ,r,aK,aL,ag,ah⟩:=hyd8 ho1 hst hov hnext hr1 hr2 hH1 hH2;clear hH2 hH1 hr2 hr1 hnext hov hst ho1 hs1 J a6 ap hm hb hKB hE1;go_upto_region 12 with(fail);refine qDa ?_;intro W2 L V a3;clear c0 c1 c2 c3;obtain⟨x0,x1,x2,x3⟩:=qAT V;have hr1:=aK.out;have hr2:=aL.out;obtain⟨X,hX⟩:∃X,wr.heap.size=X:=⟨_,rfl⟩;rw[hX]at V a3 x0 x1 x2 x3 ⊢;obtain⟨BF,aq⟩:∃BF,barF H1 H2 st ov true true=BF:=⟨_,rfl⟩;have ai:barB p q how true true=BF:=by rw[qFt,kH1,kH2,<-aP.out,<-aJ.out];exact aq
 have aj:Below W1.heap.size W1 W2:=y.out.trans (L.mono y.out.size);have aG:=ab.out.next L;have U:=qAN G.out L;have⟨B,bz,b0,a8,a9,M,aU,au⟩:=hyd8 ai kH1 kH2 hX V L a3 aj;have⟨aH,ad⟩:=hyd2 aG U;clear U aG aj a3 L V hX kH2 kH1 ai
 cases BF with
 | true=>
  have j:=qDm (n:=n) (k:=k) (i:=3) B.out
  have R:∀(af:Int) t,af=4->(∃u:Nat->Value,t=#[u 0,(u 1),.int .u8 how,.func (.func g) #[] cb,.pointer (some ⟨B4,0,none⟩),.pointer (some ⟨B5,0,none⟩),(u 6),(u 7),.int .i64 (n:Nat),.pointer (some ⟨B9,0,none⟩),.bool st,.pointer (some ⟨B11,0,none⟩),.bool ov,.pointer (some ⟨B13,0,none⟩),v,(u 15),(u 16),(u 17),(u 18),(u 19),(u 20),(u 21),(u 22),(u 23),(u 24),(u 25),(u 26),(u 27),(u 28),(u 29),(u 30),(u 31),(u 32),(u 33),(u 34),(u 35),(u 36),(u 37),(u 38),(u 39),(u 40),(u 41),(u 42),(u 43),(u 44),(u 45),(u 46),(u 47),(u 48),(u 49),(u 50),(u 51),(u 52),(u 53),(u 54),(u 55),(u 56),(u 57),(u 58),(u 59),(u 60),(u 61),(u 62),(u 63),.int .i64 (n:Nat),.int .i64 (k:Nat),(u 66),(u 67),(u 68),(u 69),(u 70),(u 71),(u 72),(u 73),(u 74),(u 75),.slice (some ⟨KB,0,none⟩) 4 4,.int .i64 4,.int .i64 af,(u 79),(u 80),(u 81),(u 82),(u 83),(u 84),(u 85),(u 86),(u 87),(u 88),(u 89),(u 90),(u 91),(u 92),(u 93),(u 94),(u 95),(u 96),(u 97),(u 98),(u 99),(u 100),(u 101),(u 102),(u 103),(u 104),(u 105),(u 106),(u 107),(u 108),(u 109),(u 110),(u 111),(u 112),(u 113),(u 114),(u 115),(u 116),(u 117),(u 118),(u 119),(u 120),(u 121),(u 122),(u 123),(u 124),(u 125),(u 126),(u 127),(u 128),(u 129),(u 130),(u 131),(u 132),(u 133),(u 134),(u 135),(u 136),(u 137),(u 138),(u 139),(u 140),(u 141),(u 142),(u 143),(u 144),(u 145),(u 146),(u 147),(u 148),(u 149),(u 150),(u 151),(u 152),(u 153),(u 154),(u 155),(u 156),(u 157),(u 158),(u 159),(u 160),(u 161),(u 162),(u 163),(u 164),(u 165),(u 166),(u 167),(u 168),(u 169),(u 170),(u 171),(u 172)])->KSt p q how g cb st ov n k B4 B5 B9 B11 B13 KB W1 ds0 4 {tmps:=t,defers:=H++ds0} W2:=λaf t h1 h2=>
   ⟨t,H,v,af,rfl,h1,h2,au.out,aH.out,by have e:qAB p q how n k 4=qAB p q how n k 3:=j;rw[e];exact ad.out⟩
  have⟨ae,Z⟩:=hyd2 j R;clear R j
  cases H1<;>cases H2<;>cases ov<;>first | (exfalso;simp[barF]at aq;done)|skip
  all_goals
   have hH1:=ag.out;have hH2:=ah.out;go_wp2;exact r.out _ _ (Z.out _ _ rfl (qAR _ _ (by kernel_rfl)))
 | false=>
  cases H1<;>cases H2<;>cases ov<;>first | (exfalso;simp[barF]at aq;done)|skip
  all_goals
   have hH1:=ag.out;have hH2:=ah.out;go_upto_region 13 with(fail);obtain⟨F,hF⟩:∃F,qDk p q n k true true=F:=⟨_,rfl⟩;have I:=a8.out;refine qET p q hp hq b c B4 B5 B9 B11 B13 s o k X KB how g n 3 cb st true true true v wr W2 (H++ds0) _ hn hn0 hk hs ho (qAR _ _ (by kernel_rfl)) a7.out a8.out M.out aU.out a9.out (λi=>by rw[aO.out,aI.out];rfl) F hF _ ?_ ?_ _ (by assumption)
   ·intro bg t' D W3 hu ar hD A av;obtain⟨u',rfl⟩:=hu;have m:=qDn (n:=n) (k:=k) (i:=3) B.out (hF.trans bg);have aF:=qC3 p q how n k 3;have l:=(M.out.mono (Nat.le_refl _)).trans (by rw[I];exact ar);have f:=qAN G.out l;have z:=y.out.trans (l.mono y.out.size);have O:W1.heap.size<=X:=by rw[<-I];exact y.out.size
    have aB:=l.size;obtain⟨mi,bk,aQ,aS,aV⟩:=info_parts qF6;obtain⟨x0,x1,x2,x3⟩:=qAT av;have T:=new4 W3 (mvAt p q k true true) 39;have ax:=qEc (mvAt p q k true true);have ao:=λ(o:Obj) (W4:World) (hg:(W3.alloc o).grownBy W4 v.ownBlock)=>qEV ab.out I (by rw[<-I];exact l) f hD O A hg;have aM:=f.lt;have a1:(mvAt p q k true true).enc =[.int .i64 k,.int .i64 (qA3 p q k true true 0),.bool true,.bool true]:=rfl;rw[a1]at T ax
    have ak:qAL (qAB p q how n k 4)=qAL (qAB p q how n k 3)++[.int .i64 k,.int .i64 (qA3 p q k true true 0),.bool true,.bool true]:=by
     have e:qAB p q how n k 4=_:=m;rw[e,qCW];rfl
    have S:(qAB p q how n k 4).length =(qAB p q how n k 3).length +1:=by
     have e:qAB p q how n k 4=_:=m;rw[e];simp
    have⟨ba,al,aA,x,C,bt,a5,a2⟩:=hyd8 m aF l f z av A T;have⟨aE,a0,aR,aT,aW,aN,bx,aw⟩:=hyd8 ax ao aQ aS aV aM a1 ak;have aa:=hyd1 S;clear S ak a1 aM aV aS aQ ao ax T A av z f l aF m;go_wp2_with (first | (at_builtin;go_must (refine wpList_append_own _ rfl _ _ 94 rfl W1.heap.size 39 mi _ 4 24 Tryz.underlying94 bk aR.out aT.out aW.out rfl (by decide) v _ _ rfl (x.out.alloc _) ⟨W3.heap.size,0,none⟩ 1 1 [.int .i64 k,.int .i64 (qA3 p q k true true 0),.bool true,.bool true] rfl rfl ?_ ?_ ?_ ?_ ?_ ?_)))
    ·exact a2.out
    ·exact aE.out
    ·have:=al.out;unfold maxLen;omega
    ·have:=al.out;omega
    ·have:=aB;simp;omega
    ·intro v4 W4 E Y _;have an:=a0.out _ W4 Y;have aC:Below W1.heap.size W1 W4:=(C.out.alloc (by omega) _).grown Y (by simp;omega) (λk e=>(aN.out k e).1);rw[<-aa.out,<-aw.out]at E;have⟨ac,az,aD,bu⟩:=hyd4 E an aC Y;clear Y aC an E;go_wp2;exact r.out _ _ ⟨_,_::H,v4,4,rfl,rfl,qAR _ _ (by kernel_rfl),aD.out,az.out,ac.out⟩
   ·intro bf t' D W3 hu ar hD A;obtain⟨u',rfl⟩:=hu;have j:=qEU (n:=n) (k:=k) (i:=3) B.out (hF.trans bf);have l:=(M.out.mono (Nat.le_refl _)).trans (by rw[I];exact ar);have f:=qAN G.out l;have z:=y.out.trans (l.mono y.out.size);have O:W1.heap.size<=X:=by rw[<-I];exact y.out.size
    have am:Marks W1.heap.size W3 ({target:= .collected D,args:=#[]}::H):=Marks.cons (X:=X) (w:=wr) (ab.out.next l) (λd hd=>by obtain⟨D',h1,h2⟩:=ab.out.lt d hd;exact⟨D',h1,by omega⟩) hD (by omega) A;have he:qAB p q how n k 4=qAB p q how n k 3:=j;rw[<-he]at f;have⟨ae,aA,x,C,a5,ay,b7⟩:=hyd7 j l f z A am he;clear he am A z f l j;go_wp2;exact r.out _ _ ⟨_,_::H,v,4,rfl,rfl,qAR _ _ (by kernel_rfl),C.out,ay.out,x.out⟩
end Go.Proofs.YtbcbcdgbliheoaaGreat
namespace Go.Proofs.YtbcbcdgbliheoaaGreat
set_option maxRecDepth 100000
set_option maxHeartbeats 2000000
open Go.RowKit Go.Shelf Go.Sort Go.Lib
set_option linter.unusedVariables false
set_option linter.unusedSimpArgs false
attribute [local go_sem] Oper.semAt_some
attribute [local go_sem ↓] Go.wp_at_zero Go.wp_at_succ
theorem qIm (w:World):Calls Tryz.prog 98 #[.slice none 0 0,.int .i64 0,.int .i64 0,.func (.func 57) #[] #[]] w λe w'=>e= .returned (.tuple #[])/\w=w':=by
 go_enter Tryz.func98,Tryz.ntmps98;go_wp2;refine wp_loop_rounds 1 ?_;rw[rounds_succ];go_wp2;go_end0;exact⟨rfl,rfl⟩
theorem qJg (w:World):Calls Tryz.prog 80 #[.slice none 0 0,.int .i64 0,.func (.func 57) #[] #[]] w λe w'=>e= .returned (.tuple #[])/\w=w':=by
 go_enter Tryz.func80,Tryz.ntmps80;go_wp2;refine wp_loop_rounds 1 ?_;rw[rounds_succ];go_wp2_with (first | (go_at_call 98;((with_reducible refine(qIm _).mono ?_);rintro e w' ⟨rfl,rfl⟩)));refine wp_loop_rounds 1 ?_;rw[rounds_succ];go_wp2;go_end0;exact⟨rfl,rfl⟩
theorem qMs (w:World):Calls Tryz.prog 56 #[.slice none 0 0,.func (.func 57) #[] #[]] w λe w'=>e= .returned (.tuple #[])/\w=w':=by
 go_enter Tryz.func56,Tryz.ntmps56;go_wp2_with (first | (go_at_call 80;((with_reducible refine(qJg _).mono ?_);rintro e w' ⟨rfl,rfl⟩)));go_end0;exact⟨rfl,rfl⟩
theorem qMt (base:Nat) (v:Value) (L:List Mv) (w:World) (h:w.ownsRow base 39 4 v L.length (qAL L)) (hL:L.length<=19):
  Calls Tryz.prog 56 #[v,.func (.func 57) #[] #[]] w λe w'=>e= .returned (.tuple #[])/\w'.ownsRow base 39 4 v (qCU L).length (qAL (qCU L))/\w.grownBy w' v.ownBlock:=by
 rcases h.2 with⟨rfl,h0⟩| ⟨g,cap,cur,rfl,hb,hh,_⟩
 ·have d:L=[]:=List.eq_nil_of_length_eq_zero h0;subst d;refine(qMs w).mono ?_;rintro e w' ⟨rfl,rfl⟩;exact⟨rfl,by rw[show qCU []=[]by apply List.eq_nil_of_length_eq_zero;rw[qCC];rfl];exact World.ownsRow_nil _ _ _ _,World.grownBy.refl _ _⟩
 ·have f:=(gsl hh);have x:=qIO g cap L.toArray w (qLi h) f (by simpa using hL);refine Calls.mono x ?_;rintro e w' ⟨rfl,n,z,rfl⟩
  have j:(Sort.insertionSort (ltOf qDj) L.toArray 0 L.toArray.size).size =L.length:=by
   have:=qCC L;unfold qCU at this;simpa using this
  obtain⟨l,r,t⟩:=qK9 h (Sort.insertionSort (ltOf qDj) L.toArray 0 L.toArray.size) j n z;refine⟨rfl,?_,rfl,rfl,rfl,r,λk y i=>t k y (λe=>i (by rw[e];rfl))⟩;have m:(Sort.insertionSort (ltOf qDj) L.toArray 0 L.toArray.size).toList =qCU L:=by unfold qCU;simp
  rw[m]at l;rw[qCC];exact l
theorem qMu (p q:Prog) (b c B4 B5 B9 B11 B13 KB how g n k:Nat) (cb:Array Value) (st ov:Bool) (W1 wr:World) (ds0:List Deferred) (a:Act)
  (h:KSt p q how g cb st ov n k B4 B5 B9 B11 B13 KB W1 ds0 4 a wr) (Q:Exit->Act->World->Prop) (hend:∀a' w',KSt p q how g cb st ov n k B4 B5 B9 B11 B13 KB W1 ds0 4 a' w'->Q (.exit 2) a' w'):kBody.wp Tryz.prog Q a wr:=by
 obtain⟨t,j,v,z,rfl,m,⟨u,rfl⟩,x,y,d⟩:=h;obtain rfl:z=4:=m
 conv=>arg 2;whnf
 have⟨f,l,r,i⟩:=hyd4 hend x y d;clear d y x hend;go_wp2;exact f.out _ _ ⟨_,j,v,4,rfl,rfl,qAR _ _ (by kernel_rfl),l.out,r.out,i.out⟩
theorem qKf (p q:Prog) (hp:BenchFacts p) (hq:BenchFacts q) (b c B4 B5 B9 B11 B13 s o k KB how g n:Nat) (cb:Array Value) (st ov:Bool) (W1:World) (ds0:List Deferred) (a:Act)
  (hn:n<=1152) (hn0:0<n) (hk:k<=1152) (hs:s<=1000000) (ho:o<=1000000) (hs1:s=offV p q false) (ho1:o=offV p q true) (hst:st=offB p q false) (hov:ov=offB p q true) (hhow:how<=3)
  (hE1:KEnv p q b c B4 B5 B9 B11 B13 s o k W1) (hKB:W1.heap[KB]? =some (.cells (qDb k) 39)) (h:KSt p q how g cb st ov n k B4 B5 B9 B11 B13 KB W1 ds0 0 a W1) (Q:Exit->Act->World->Prop)
  (hend:∀a' w',KSt p q how g cb st ov n k B4 B5 B9 B11 B13 KB W1 ds0 4 a' w'->Q (.exit 2) a' w'):(Code.loop kBody).wp Tryz.prog Q a W1:=by
 have A:∀i a' w',KSt p q how g cb st ov n k B4 B5 B9 B11 B13 KB W1 ds0 i a' w'->(intOf (a'.tmps.getD 78 undef)).toNat =i:=by
  rintro i a' w' ⟨t,D,v,F,rfl,B,⟨u,rfl⟩,_⟩;show(intOf (Value.int .i64 F)).toNat =i;rw[B];simp[intOf]
 obtain⟨y,z,r,x,l,m⟩:∃y z:Int,bits .and .u8 (how:Int) 1=y/\bits .and .u8 (how:Int) 2=z/\(y==0)=(how%2==0)/\(z==0)=(how / 2%2==0):=by
  obtain rfl|rfl|rfl|rfl:how=0∨how=1∨how=2∨how=3:=by omega
  ·exact⟨0,0,by decide,by decide,by decide,by decide⟩
  ·exact⟨1,0,by decide,by decide,by decide,by decide⟩
  ·exact⟨0,2,by decide,by decide,by decide,by decide⟩
  ·exact⟨1,2,by decide,by decide,by decide,by decide⟩
 refine wp_loop (λa' w'=>∃i,i<=4/\KSt p q how g cb st ov n k B4 B5 B9 B11 B13 KB W1 ds0 i a' w') (λa' _=>4 - (intOf (a'.tmps.getD 78 undef)).toNat) ⟨0,by omega,h⟩ ?_;rintro a' w' ⟨i,H,hK⟩
 have step:∀d f,i<4->KSt p q how g cb st ov n k B4 B5 B9 B11 B13 KB W1 ds0 (i+1) d f->Exit.then (λC G=>(∃i,i<=4/\KSt p q how g cb st ov n k B4 B5 B9 B11 B13 KB W1 ds0 i C G)/\4 - (intOf (C.tmps.getD 78 undef)).toNat <4 - (intOf (a'.tmps.getD 78 undef)).toNat) Q .normal d f:=by
  intro d f E j;refine⟨⟨i+1,by omega,j⟩,?_⟩;rw[A _ _ _ j,A _ _ _ hK];omega
 obtain rfl|rfl|rfl|rfl|rfl:i=0∨i=1∨i=2∨i=3∨i=4:=by omega
 ·exact qMo p q hp hq b c B4 B5 B9 B11 B13 s o k KB how g n cb st ov _ _ W1 w' ds0 a' hn hn0 hk hs ho hs1 ho1 hst hov y z r x l m rfl rfl hE1 hKB hK _ (λd f j=>step d f (by omega) j)
 ·exact qMp p q hp hq b c B4 B5 B9 B11 B13 s o k KB how g n cb st ov _ _ W1 w' ds0 a' hn hn0 hk hs ho hs1 ho1 hst hov y z r x l m rfl rfl hE1 hKB hK _ (λd f j=>step d f (by omega) j)
 ·exact qMq p q hp hq b c B4 B5 B9 B11 B13 s o k KB how g n cb st ov _ _ W1 w' ds0 a' hn hn0 hk hs ho hs1 ho1 hst hov y z r x l m rfl rfl hE1 hKB hK _ (λd f j=>step d f (by omega) j)
 ·exact qMr p q hp hq b c B4 B5 B9 B11 B13 s o k KB how g n cb st ov _ _ W1 w' ds0 a' hn hn0 hk hs ho hs1 ho1 hst hov y z r x l m rfl rfl hE1 hKB hK _ (λd f j=>step d f (by omega) j)
 ·exact qMu p q b c B4 B5 B9 B11 B13 KB how g n k cb st ov W1 w' ds0 a' hK _ hend
end Go.Proofs.YtbcbcdgbliheoaaGreat
namespace Go.Proofs.YtbcbcdgbliheoaaGreat
set_option maxRecDepth 100000
set_option maxHeartbeats 2000000
open Go.RowKit Go.Shelf Go.Sort Go.Lib
set_option linter.unusedVariables false
set_option linter.unusedSimpArgs false
attribute [local go_sem] Oper.semAt_some
attribute [local go_sem ↓] Go.wp_at_zero Go.wp_at_succ
structure BenOk (p q:Prog) (b c N:Nat) (Own:World->Nat->Prop) (Ben:World->Prop):Prop where
 one:∀W,Ben W->IsBench W b p
 two:∀W,Ben W->IsBench W c q
 next:∀W W',Ben W->Below W.heap.size W W'->Ben W'
 step:∀W W',Ben W->Below N W W'->qEu Own W W'->Ben W'
structure SStB (T84 T3:TypeId) (N:Nat) (w0:World) (Ben:World->Prop) (B4 B5 B9 B11 b c:Nat) (s o:Nat) (Own:World->Nat->Prop) (Inv:List Mv->World->Prop) (pre:List Mv) (W:World):Prop where
 below:Below N w0 W
 nle:N<=W.heap.size
 ben:Ben W
 inv:Inv pre W
 b4:W.heap[B4]? =some (.cells #[.pointer (some ⟨b,0,none⟩)] T84)/\¬Own W B4
 b5:W.heap[B5]? =some (.cells #[.pointer (some ⟨c,0,none⟩)] T84)/\¬Own W B5
 b9:W.heap[B9]? =some (.cells #[.int .i64 (s:Int)] T3)/\¬Own W B9
 b11:W.heap[B11]? =some (.cells #[.int .i64 (o:Int)] T3)/\¬Own W B11
section
variable {P:Program} {p q:Prog} {N g:Nat} {cb:Array Value} {goes:Bool} {T84 T3:TypeId} {w0:World} {Ben:World->Prop} {B4 B5 B9 B11 b c s o:Nat} {Own:World->Nat->Prop} {Inv:List Mv->World->Prop} {pre:List Mv} {W W':World}
theorem SStB.next (hK:BenOk p q b c N Own Ben) (hR:Recv P N g cb goes Own Inv) (h:SStB T84 T3 N w0 Ben B4 B5 B9 B11 b c s o Own Inv pre W) (hb:Below W.heap.size W W'):SStB T84 T3 N w0 Ben B4 B5 B9 B11 b c s o Own Inv pre W':=by
 have f:=hR.frame pre W W' h.inv hb.size (λk d=>hb.block k (hR.own pre W k h.inv d).2);have i:∀{B:Nat} {x:Obj},W.heap[B]? =some x->W'.heap[B]? =some x:=λj=>(hb.block _ (gsl j)).trans j;exact⟨h.below.trans (hb.mono h.nle),Nat.le_trans h.nle hb.size,hK.next _ _ h.ben hb,f.1,⟨i h.b4.1,λd=>h.b4.2 (f.2 _ d)⟩,⟨i h.b5.1,λd=>h.b5.2 (f.2 _ d)⟩,⟨i h.b9.1,λd=>h.b9.2 (f.2 _ d)⟩,⟨i h.b11.1,λd=>h.b11.2 (f.2 _ d)⟩⟩
theorem SStB.step (hK:BenOk p q b c N Own Ben) (h:SStB T84 T3 N w0 Ben B4 B5 B9 B11 b c s o Own Inv pre W) {x:Mv} (hi:Inv (pre++[x]) W') (hb:Below N W W') (hs:qEu Own W W') (ho:∀k,Own W' k->Own W k∨W.heap.size<=k):SStB T84 T3 N w0 Ben B4 B5 B9 B11 b c s o Own Inv (pre++[x]) W':=by
 have d:∀{B:Nat} {x:Obj},W.heap[B]? =some x/\¬Own W B->W'.heap[B]? =some x/\¬Own W' B:=λ{B x} f=>by
  have i:=(gsl f.1);exact⟨(hs _ i f.2).trans f.1,λj=>(ho _ j).elim f.2 (λj=>by omega)⟩
 exact⟨h.below.trans hb,Nat.le_trans h.nle hb.size,hK.step _ _ h.ben hb hs,hi,d h.b4,d h.b5,d h.b9,d h.b11⟩
end
def FSt (goes:Bool) (Own:World->Nat->Prop) (Inv:List Mv->World->Prop) (N:Nat) (Ben:World->Prop) (w0:World) (b c s o how g:Nat) (cb:Array Value) (st ov:Bool) (n k B4 B5 B9 B11 base:Nat) (pre L:List Mv) (v:Value) (ds:List Deferred) (i:Nat) (a:Act) (W:World):Prop:=
 ∃(t:Array Value) (iz:Int),a={tmps:=t,defers:=ds}/\iz=i/\(∃u:Nat->Value,t=#[u 0,(u 1),.int .u8 how,.func (.func g) #[] cb,.pointer (some ⟨B4,0,none⟩),.pointer (some ⟨B5,0,none⟩),(u 6),(u 7),.int .i64 (n:Nat),.pointer (some ⟨B9,0,none⟩),.bool st,.pointer (some ⟨B11,0,none⟩),.bool ov,(u 13),(u 14),(u 15),(u 16),(u 17),(u 18),(u 19),(u 20),(u 21),(u 22),(u 23),(u 24),(u 25),(u 26),(u 27),(u 28),(u 29),(u 30),(u 31),(u 32),(u 33),(u 34),(u 35),(u 36),(u 37),(u 38),(u 39),(u 40),(u 41),(u 42),(u 43),(u 44),(u 45),(u 46),(u 47),(u 48),(u 49),(u 50),(u 51),(u 52),(u 53),(u 54),(u 55),(u 56),(u 57),(u 58),(u 59),(u 60),(u 61),(u 62),(u 63),.int .i64 (n:Nat),.int .i64 (k:Nat),(u 66),(u 67),(u 68),(u 69),(u 70),(u 71),(u 72),(u 73),(u 74),(u 75),(u 76),(u 77),(u 78),(u 79),(u 80),(u 81),(u 82),(u 83),(u 84),(u 85),(u 86),(u 87),(u 88),(u 89),(u 90),(u 91),(u 92),(u 93),(u 94),(u 95),(u 96),(u 97),(u 98),(u 99),(u 100),(u 101),(u 102),(u 103),(u 104),(u 105),(u 106),(u 107),(u 108),(u 109),(u 110),(u 111),(u 112),(u 113),(u 114),(u 115),(u 116),(u 117),(u 118),(u 119),(u 120),(u 121),(u 122),(u 123),(u 124),(u 125),(u 126),(u 127),(u 128),(u 129),(u 130),(u 131),(u 132),(u 133),(u 134),(u 135),(u 136),(u 137),(u 138),(u 139),(u 140),(u 141),(u 142),(u 143),(u 144),(u 145),(u 146),(u 147),(u 148),(u 149),(u 150),(u 151),(u 152),(u 153),(u 154),(u 155),(u 156),(u 157),(u 158),(u 159),(u 160),v,.int .i64 (L.length:Nat),.int .i64 iz,(u 164),(u 165),(u 166),(u 167),(u 168),(u 169),(u 170),(u 171),(u 172)])/\SStB 62 3 N w0 Ben B4 B5 B9 B11 b c s o Own Inv (pre++L.take i) W∧
  W.ownsRow base 39 4 v L.length (qAL L)/\(∀r,v.ownBlock=some r->¬Own W r)/\OMarks Own N W ds/\(goes=false->pre++L.take i=[])
theorem qHq {W:World} {base e g c:Nat} {L:List Mv} (h:W.ownsRow base e 4 (.slice (some ⟨g,0,none⟩) L.length c) L.length (qAL L)) {i:Nat} (hi:i<L.length):
  W.cell? ⟨g,i*4,none⟩=some (.int .i64 L[i].cuts)/\W.cell? ⟨g,i*4+1,none⟩=some (.int .i64 L[i].turn)/\W.cell? ⟨g,i*4+2,none⟩=some (.bool L[i].mirror)/\W.cell? ⟨g,i*4+3,none⟩=some (.bool L[i].back):=by
 have d:∀t,t<4->W.cell? ⟨g,i*4+t,none⟩=some ((Mv.enc L[i])[t]!):=λt k=>by
  rw[h.cellAt (i*4+t) (by omega),qD3 L (i*4+t) (by omega)];have f:(i*4+t) / 4=i:=by omega
  have j:(i*4+t)%4=t:=by omega
  rw[f,j,getElem!_pos L i hi]
 exact⟨d 0 (by omega),d 1 (by omega),d 2 (by omega),d 3 (by omega)⟩
theorem qJh {p q:Prog} (goes:Bool) (Own:World->Nat->Prop) (Inv:List Mv->World->Prop) (N:Nat) (Ben:World->Prop) (w0:World) (b c s o how g:Nat) (cb:Array Value) (st ov:Bool) (n k B4 B5 B9 B11 base:Nat) (pre L:List Mv) (v:Value) (ds:List Deferred) (i:Nat) (a:Act) (W:World)
  (hR:Recv Tryz.prog N g cb goes Own Inv) (hK:BenOk p q b c N Own Ben) (hpl:pre.length+L.length<=10000) (hi:i<=L.length) (h:FSt goes Own Inv N Ben w0 b c s o how g cb st ov n k B4 B5 B9 B11 base pre L v ds i a W) (Q:Exit->Act->World->Prop) (id:Nat)
  (hnext:i<L.length->∀a' w',FSt goes Own Inv N Ben w0 b c s o how g cb st ov n k B4 B5 B9 B11 base pre L v ds (i+1) a' w'->Q .normal a' w')
  (hend:i=L.length->∀a' w',FSt goes Own Inv N Ben w0 b c s o how g cb st ov n k B4 B5 B9 B11 base pre L v ds L.length a' w'->Q (.exit 6) a' w')
  (hret:i<L.length->goes=false->∀t' w',pre++L.take i=[]->SStB 62 3 N w0 Ben B4 B5 B9 B11 b c s o Own Inv (pre++L.take (i+1)) w'->OMarks Own N w' ds->Q .ret {tmps:=t',defers:=ds} w'):
  fBody.wp Tryz.prog Q a W:=by
 obtain⟨t,iz,rfl,aa,⟨u,rfl⟩,hS,d,T,U,R⟩:=h
 conv=>arg 2;whnf
 have aH:L.length<=10000:=by omega
 by_cases S:i<L.length
 ·have a2:(iz:Int)<(L.length:Int):=by omega
  have hv:∃C cp,v= .slice (some ⟨C,0,none⟩) L.length cp/\C<W.heap.size:=by
   rcases d.2 with⟨rfl,h0⟩| ⟨g',cap,cur,rfl,hb,hh,_⟩
   ·omega
   ·exact⟨g',cap,rfl,(gsl hh)⟩
  obtain⟨C,cp,rfl,a0⟩:=hv;obtain⟨c0,c1,c2,c3⟩:=qHq d S;have ad:L.take (i+1)=L.take i++[L[i]]:=by rw[List.take_add_one,List.getElem?_eq_getElem S];rfl
  generalize hx:L[i]=x at c0 c1 c2 c3 ad;obtain⟨xc,xt,xm,xb⟩:=x;have aB:=hR.enters;subst aa;have l:=trivial;clear hend l;have⟨ak,B,m,F,H,E,A,J⟩:=hyd8 hR hS d T U R hnext hret;have⟨an,aK⟩:=hyd2 ad hx;clear hx ad hret hnext R U T d hS hR;go_upto_region 32 with(fail);refine qDa ?_;intro W2 f O ae;clear c0 c1 c2 c3;obtain⟨x0,x1,x2,x3⟩:=qAT O;obtain⟨X,hX⟩:∃X,W.heap.size=X:=⟨_,rfl⟩;rw[hX]at O ae x0 x1 x2 x3 ⊢;have hR:=ak.out;have Z:=SStB.next hK hR B.out f;have M:=qAN m.out f;have aj:∀k,Own W2 k->Own W k:=(hR.frame _ W W2 B.out.inv f.size (λk hk=>f.block k (hR.own _ W k B.out.inv hk).2)).2;have G:¬Own W2 C:=λhk=>F.out C rfl (aj C hk);have Y:=OMarks.next hR B.out.inv H.out f;have V:C<W2.heap.size:=Nat.lt_of_lt_of_le a0 f.size;have ab:(pre++L.take i).length <=10000:=by simp;omega
  have D:=hR.call _ ⟨xc,xt,xm,xb⟩ W2 Z.inv ab
  have y:Calls Tryz.prog g (#[.agg #[.int .i64 xc,.int .i64 xt,.bool xm,.bool xb]]++cb) W2 λe w'=>e= .returned (.bool goes)/\SStB 62 3 N w0 Ben B4 B5 B9 B11 b c s o Own Inv (pre++L.take (i+1)) w'/\w'.ownsRow base 39 4 (.slice (some ⟨C,0,none⟩) L.length cp) L.length (qAL L)/\(∀r,Value.ownBlock (.slice (some ⟨C,0,none⟩) L.length cp)=some r->¬Own w' r)/\OMarks Own N w' ds:=by
   refine D.mono ?_;rintro e w' ⟨rfl,a1,az,ac,I⟩;refine⟨rfl,?_,qMi M (ac C V G),?_,Y.step ac I⟩
   ·rw[an.out,<-List.append_assoc]at*;exact SStB.step hK Z a1 az ac I
   ·intro r hr;injection hr with hr;subst hr;intro hk;exact(I C hk).elim G (λhk=>by omega)
  clear hR Z M aj G Y D V;have⟨j,aI,a9,aA,aC⟩:=hyd5 y hX O f ae;clear ae f O hX y
  cases goes with
  | true=>
   go_wp2_with (refine j.out.mono ?_;rintro e w' ⟨rfl,k1,k2,k3,k4⟩;have af:=Lib.hid k1;have aq:=Lib.hid k2;have au:=Lib.hid k3;have ag:=Lib.hid k4;clear k1 k2 k3 k4);exact A.out S _ _ ⟨_,(i:Int)+1,rfl,by simp,qAR _ _ (by kernel_rfl),af.out,aq.out,au.out,ag.out,λh=>by cases h⟩
  | false=>
   go_wp2_with (refine j.out.mono ?_;rintro e w' ⟨rfl,k1,k2,k3,k4⟩;have af:=Lib.hid k1;have aq:=Lib.hid k2;have au:=Lib.hid k3;have ag:=Lib.hid k4;clear k1 k2 k3 k4);exact J.out S (by first |rfl|trivial) _ _ (E.out (by first |rfl|trivial)) af.out ag.out
 ·have al:i=L.length:=by omega
  have a2:¬(iz:Int)<(L.length:Int):=by omega
  have⟨ak,B,m,F,H,E,A,J⟩:=hyd8 hR hS d T U R hnext hret;have⟨am,z,l⟩:=hyd3 aa al hend;clear hend al aa hret hnext R U T d hS hR;go_wp2;exact l.out z.out _ _ ⟨_,iz,rfl,by rw[am.out,z.out],qAR _ _ (by kernel_rfl),by rw[<-z.out];exact B.out,m.out,F.out,H.out,by rw[<-z.out];exact E.out⟩
theorem qKg {p q:Prog} (goes:Bool) (Own:World->Nat->Prop) (Inv:List Mv->World->Prop) (N:Nat) (Ben:World->Prop) (w0:World) (b c s o how g:Nat) (cb:Array Value) (st ov:Bool) (n k B4 B5 B9 B11 base:Nat) (pre L:List Mv) (v:Value) (ds:List Deferred) (a:Act) (W:World)
  (hR:Recv Tryz.prog N g cb goes Own Inv) (hK:BenOk p q b c N Own Ben) (hpl:pre.length+L.length<=10000) (h:FSt goes Own Inv N Ben w0 b c s o how g cb st ov n k B4 B5 B9 B11 base pre L v ds 0 a W) (Q:Exit->Act->World->Prop)
  (hend:∀a' w',FSt goes Own Inv N Ben w0 b c s o how g cb st ov n k B4 B5 B9 B11 base pre L v ds L.length a' w'->Q (.exit 6) a' w')
  (hret:goes=false->∀i t' w',i<L.length->pre++L.take i=[]->SStB 62 3 N w0 Ben B4 B5 B9 B11 b c s o Own Inv (pre++L.take (i+1)) w'->OMarks Own N w' ds->Q .ret {tmps:=t',defers:=ds} w'):
  (Code.loop fBody).wp Tryz.prog Q a W:=by
 have j:∀i a' w',FSt goes Own Inv N Ben w0 b c s o how g cb st ov n k B4 B5 B9 B11 base pre L v ds i a' w'->(intOf (a'.tmps.getD 163 undef)).toNat =i:=by
  rintro i a' w' ⟨t,C,rfl,m,⟨u,rfl⟩,_⟩;show(intOf (Value.int .i64 C)).toNat =i;rw[m];simp[intOf]
 refine wp_loop (λa' w'=>∃i,i<=L.length/\FSt goes Own Inv N Ben w0 b c s o how g cb st ov n k B4 B5 B9 B11 base pre L v ds i a' w') (λa' _=>L.length - (intOf (a'.tmps.getD 163 undef)).toNat) ⟨0,by omega,h⟩ ?_;rintro a' w' ⟨i,B,x⟩;refine qJh goes Own Inv N Ben w0 b c s o how g cb st ov n k B4 B5 B9 B11 base pre L v ds i a' w' hR hK hpl B x _ 0 ?_ ?_ ?_
 ·intro f r l d;refine⟨⟨i+1,by omega,d⟩,?_⟩;rw[j _ _ _ d,j _ _ _ x];omega
 ·intro _ r l d;exact hend r l d
 ·intro f A t' l y d z;exact hret A i t' l f y d z
end Go.Proofs.YtbcbcdgbliheoaaGreat
namespace Go.Proofs.YtbcbcdgbliheoaaGreat
set_option maxRecDepth 100000
set_option maxHeartbeats 2000000
open Go.RowKit Go.Shelf Go.Sort Go.Lib
set_option linter.unusedVariables false
set_option linter.unusedSimpArgs false
attribute [local go_sem] Oper.semAt_some
attribute [local go_sem ↓] Go.wp_at_zero Go.wp_at_succ
def SRel (p q:Prog) (goes:Bool) (Own:World->Nat->Prop) (Inv:List Mv->World->Prop) (N:Nat) (Ben:World->Prop) (w0:World) (b c s o how g:Nat) (cb:Array Value) (st ov:Bool) (n B4 B5 B9 B11:Nat) (k:Nat) (a:Act) (W:World):Prop:=
 ∃(t:Array Value) (ds:List Deferred) (iz:Int),a={tmps:=t,defers:=ds}/\iz=k/\(∃u:Nat->Value,t=#[u 0,(u 1),.int .u8 how,.func (.func g) #[] cb,.pointer (some ⟨B4,0,none⟩),.pointer (some ⟨B5,0,none⟩),(u 6),(u 7),.int .i64 (n:Nat),.pointer (some ⟨B9,0,none⟩),.bool st,.pointer (some ⟨B11,0,none⟩),.bool ov,(u 13),(u 14),(u 15),(u 16),(u 17),(u 18),(u 19),(u 20),(u 21),(u 22),(u 23),(u 24),(u 25),(u 26),(u 27),(u 28),(u 29),(u 30),(u 31),(u 32),(u 33),(u 34),(u 35),(u 36),(u 37),(u 38),(u 39),(u 40),(u 41),(u 42),(u 43),(u 44),(u 45),(u 46),(u 47),(u 48),(u 49),(u 50),(u 51),(u 52),(u 53),(u 54),(u 55),(u 56),(u 57),(u 58),(u 59),(u 60),(u 61),(u 62),(u 63),.int .i64 (n:Nat),.int .i64 iz,(u 66),(u 67),(u 68),(u 69),(u 70),(u 71),(u 72),(u 73),(u 74),(u 75),(u 76),(u 77),(u 78),(u 79),(u 80),(u 81),(u 82),(u 83),(u 84),(u 85),(u 86),(u 87),(u 88),(u 89),(u 90),(u 91),(u 92),(u 93),(u 94),(u 95),(u 96),(u 97),(u 98),(u 99),(u 100),(u 101),(u 102),(u 103),(u 104),(u 105),(u 106),(u 107),(u 108),(u 109),(u 110),(u 111),(u 112),(u 113),(u 114),(u 115),(u 116),(u 117),(u 118),(u 119),(u 120),(u 121),(u 122),(u 123),(u 124),(u 125),(u 126),(u 127),(u 128),(u 129),(u 130),(u 131),(u 132),(u 133),(u 134),(u 135),(u 136),(u 137),(u 138),(u 139),(u 140),(u 141),(u 142),(u 143),(u 144),(u 145),(u 146),(u 147),(u 148),(u 149),(u 150),(u 151),(u 152),(u 153),(u 154),(u 155),(u 156),(u 157),(u 158),(u 159),(u 160),(u 161),(u 162),(u 163),(u 164),(u 165),(u 166),(u 167),(u 168),(u 169),(u 170),(u 171),(u 172)])/\SStB 62 3 N w0 Ben B4 B5 B9 B11 b c s o Own Inv (qBU p q how n k) W∧
  OMarks Own N W ds/\(goes=false->qBU p q how n k=[])
theorem qOK {P:Program} {cc:Code} {Q:Exit->Act->World->Prop} {a:Act} {W:World} {o1 o2:Obj} (h:∀W1,Below W.heap.size W W1->W1.heap[W.heap.size]? =some o1->W1.heap[W.heap.size+1]? =some o2->W1.heap.size=W.heap.size+2->cc.wp P Q a W1):cc.wp P Q a ((W.alloc o1).alloc o2):=
 h _ (alc2 _ _ _) ((Below.heap_alloc _ _ _ (by simp)).trans (heap_alloc_new _ _)) (by have h:=heap_alloc_new (W.alloc o1) o2;rw[World.size_alloc]at h;exact h) (by simp)
theorem qF7 (p q:Prog) (how n k:Nat):(qBe p q how n k).length <=4:=by
 unfold qBe;rw[qCC];exact qC3 p q how n k 4
theorem qIn (p q:Prog) (how n:Nat):∀k,(qBU p q how n k).length <=4*k:=by
 intro k
 induction k with
 | zero=>simp[qBU]
 | succ k ih=>rw[qDl,List.length_append];have:=qF7 p q how n k;omega
theorem OMarks.more {P:Program} {n0 g:Nat} {cb:Array Value} {goes:Bool} {Own:World->Nat->Prop} {Inv:List Mv->World->Prop} {pre:List Mv} {B:Nat} {W1 W':World} (hR:Recv P n0 g cb goes Own Inv) (hI:Inv pre W1) (hb:Below W1.heap.size W1 W') (hB:B<=W1.heap.size) {ds0:List Deferred} (h0:OMarks Own B W1 ds0):
  ∀{ds:List Deferred},Marks W1.heap.size W' ds->OMarks Own B W' (ds++ds0)
 | [],_=>OMarks.next hR hI h0 hb
 | d::ds,⟨⟨D,hd,hD1,hD,hne⟩,hr⟩=>by
  refine⟨⟨D,hd,by omega,hD,λhk=>?_,λd' hd' e=>?_⟩,OMarks.more hR hI hb hB h0 hr⟩
  ·have h1:=(hR.frame _ _ _ hI hb.size (λk hk=>hb.block k (hR.own _ _ k hI hk).2)).2 D hk;have:=(hR.own _ _ D hI h1).2;omega
  ·rcases List.mem_append.1 hd' with h|h
   ·exact hne d' h e
   ·obtain⟨D',h1,h2⟩:=h0.lt d' h;rw[hd,h1]at e;injection e with e1;injection e1 with e1;omega
theorem qIo (p q:Prog) (hp:BenchFacts p) (hq:BenchFacts q) (goes:Bool) (Own:World->Nat->Prop) (Inv:List Mv->World->Prop) (N:Nat) (Ben:World->Prop) (w0:World) (b c s o how g:Nat) (cb:Array Value) (st ov:Bool) (n B4 B5 B9 B11:Nat) (k:Nat) (a:Act) (W:World)
  (hR:Recv Tryz.prog N g cb goes Own Inv) (hK:BenOk p q b c N Own Ben) (hn:n<=1152) (hn0:0<n) (hs:s<=1000000) (ho:o<=1000000) (hs1:s=offV p q false) (ho1:o=offV p q true) (hst:st=offB p q false) (hov:ov=offB p q true) (hhow:how<=3)
  (hk:k<=n) (h:SRel p q goes Own Inv N Ben w0 b c s o how g cb st ov n B4 B5 B9 B11 k a W) (Q:Exit->Act->World->Prop)
  (hnext:k<n->∀a' w',SRel p q goes Own Inv N Ben w0 b c s o how g cb st ov n B4 B5 B9 B11 (k+1) a' w'->Q .normal a' w')
  (hend:k=n->∀a' w',SRel p q goes Own Inv N Ben w0 b c s o how g cb st ov n B4 B5 B9 B11 n a' w'->Q (.exit 0) a' w')
  (hret:goes=false->k<n->∀i t' ds w',i<(qBe p q how n k).length ->qBU p q how n k++(qBe p q how n k).take i=[]->SStB 62 3 N w0 Ben B4 B5 B9 B11 b c s o Own Inv (qBU p q how n k++(qBe p q how n k).take (i+1)) w'->OMarks Own N w' ds->Q .ret {tmps:=t',defers:=ds} w'):
  sBody.wp Tryz.prog Q a W:=by
 obtain⟨t,ds,iz,rfl,aj,⟨u,rfl⟩,hS,R,M⟩:=h
 conv=>arg 2;whnf
 by_cases av:k<n
 ·subst aj;have aA:((k:Int))<(n:Int):=by omega
  clear hend;have⟨ap,L,G,E,y,I,Z,U⟩:=hyd8 hR hS R M hnext hret hs1 ho1;have⟨aa,Y⟩:=hyd2 hst hov;clear hov hst ho1 hs1 hret hnext M R hS hR;go_wp2
  go_step3
  go_wp2
  go_step3
  go_wp2;refine qOK ?_;intro m ae C ac am;obtain⟨X,hX⟩:∃X,W.heap.size=X:=⟨_,rfl⟩;rw[hX]at C ac am ⊢;have hR:=ap.out;have d:=SStB.next hK hR L.out ae;have H:=OMarks.next hR L.out.inv G.out ae;have an:KEnv p q b c B4 B5 B9 B11 X s o k m:=⟨hK.one _ d.ben,hK.two _ d.ben,d.b4.1,d.b5.1,d.b9.1,d.b11.1,C⟩;refine qKf p q hp hq b c B4 B5 B9 B11 X s o k (X+1) how g n cb st ov m ds _ hn hn0 (by omega) hs ho Z.out U.out aa.out Y.out hhow an ac ?_ _ ?_
  ·exact⟨_,[],.slice none 0 0,0,rfl,rfl,qAR _ _ (by kernel_rfl),Below.refl _ _,trivial,World.ownsRow_nil _ _ _ _⟩
  rintro a2 W2 ⟨t2,ab,v,aZ,rfl,S,⟨u2,rfl⟩,B,O,f⟩;have a5:=SStB.next hK hR d B;have ax:=OMarks.more hR d.inv B d.nle H O;have a4:=qC3 p q how n k 4;have l:=qMt m.heap.size v (qAB p q how n k 4) W2 f (by omega);have hcut:qCU (qAB p q how n k 4)=qBe p q how n k:=rfl;rw[hcut]at l;have ag:=d.nle;have al:=f.lt;have ao:∀W',Below m.heap.size m W'->∀r,Own W' r->r<m.heap.size:=λW' hb r hr=>(hR.own _ m r d.inv ((hR.frame _ m W' d.inv hb.size (λk hk=>hb.block k (hR.own _ m k d.inv hk).2)).2 r hr)).2;have aw:=O;have j:(qCU (qAB p q how n k 4)).length =(qAB p q how n k 4).length :=qCC _;rw[hcut]at j
  have z:Calls Tryz.prog 56 #[v,.func (.func 57) #[] #[]] W2 λe w'=>e= .returned (.tuple #[])/\SStB 62 3 N w0 Ben B4 B5 B9 B11 b c s o Own Inv (qBU p q how n k) w'/\w'.ownsRow m.heap.size 39 4 v (qBe p q how n k).length (qAL (qBe p q how n k))/\(∀r,v.ownBlock=some r->¬Own w' r)/\OMarks Own N w' (ab++ds):=by
   refine l.mono ?_;rintro e w' ⟨rfl,hr,hg⟩;have af:Below m.heap.size m w':=B.grown hg B.size (λk e=>(al k e).1);have aB:Marks m.heap.size w' ab:=O.keep λD _ hD=>(hg.block D (gsl hD) (qI3 f hD)).trans hD;exact⟨rfl,SStB.next hK hR d af,hr,λr hv hk=>by have:=ao w' af r hk;have:=(al r hv).1;omega,OMarks.more hR d.inv af ag H aB⟩
  have aE:∃A cp,v= .slice A (qBe p q how n k).length cp:=by
   rw[j]
   rcases f.2 with⟨rfl,h0⟩| ⟨g',cap,cur,rfl,_⟩
   ·exact⟨none,0,by rw[h0]⟩
   ·exact⟨_,cap,rfl⟩
  obtain⟨vA,vc,rfl⟩:=aE;have aC:=qIn p q how n k;have a7:=qF7 p q how n k;clear l f O aw ax a5 ao al H d an ac C ae hcut a4;have⟨J,a0,aW,aN,aM,aL,a8⟩:=hyd7 z j hX am ag B S;clear S B ag am hX j z;go_wp2_with (first | (go_at_call 56;refine J.out.mono ?_;rintro e w' ⟨rfl,k1,k2,k3,k4⟩;have aF:=Lib.hid k1;have aG:=Lib.hid k2;have aH:=Lib.hid k3;have aI:=Lib.hid k4;clear k1 k2 k3 k4));refine qKg goes Own Inv N Ben w0 b c s o how g cb st ov n k B4 B5 B9 B11 m.heap.size (qBU p q how n k) (qBe p q how n k) (.slice vA (qBe p q how n k).length vc) (ab++ds) _ w' hR hK (by omega) ?_ _ ?_ ?_
  ·exact⟨_,0,rfl,rfl,qAR _ _ (by kernel_rfl),by rw[List.take_zero,List.append_nil];exact aF.out,aG.out,aH.out,aI.out,by rw[List.take_zero,List.append_nil];exact E.out⟩
  ·rintro a3 W3 ⟨t3,ba,rfl,T,⟨u3,rfl⟩,ad,_,_,V,F⟩;rw[List.take_of_length_le (Nat.le_refl _),<-qDl]at ad F;have⟨aq,ak,ai,a9⟩:=hyd4 ad V F T;clear T F V ad;go_wp2;rw[Exit.noGoto_normal];go_wp2;exact y.out av _ _ ⟨_,_,(k:Int)+1,rfl,by simp,qAR _ _ (by kernel_rfl),aq.out,ak.out,ai.out⟩
  ·intro hg i t' w3 hi h1 h2 h3;exact I.out hg av i t' _ w3 hi h1 h2 h3
 ·have ar:k=n:=by omega
  have aA:¬(iz:Int)<(n:Int):=by omega
  have⟨ap,L,G,E,y,I,au,x⟩:=hyd8 hR hS R M hnext hret aj ar;have⟨ah,Z,U,aa,Y⟩:=hyd5 hend hs1 ho1 hst hov;clear hov hst ho1 hs1 hend ar aj hret hnext M R hS hR;go_wp2;exact ah.out x.out _ _ ⟨_,_,iz,rfl,by rw[au.out,x.out],qAR _ _ (by kernel_rfl),by have h:=L.out;rw[x.out]at h;exact h,G.out,by have h:=E.out;rw[x.out]at h;exact h⟩
end Go.Proofs.YtbcbcdgbliheoaaGreat
namespace Go.Proofs.YtbcbcdgbliheoaaGreat
set_option maxRecDepth 100000
set_option maxHeartbeats 2000000
open Go.RowKit Go.Shelf Go.Sort Go.Lib
set_option linter.unusedVariables false
set_option linter.unusedSimpArgs false
attribute [local go_sem] Oper.semAt_some
attribute [local go_sem ↓] Go.wp_at_zero Go.wp_at_succ
theorem qKh (p q:Prog) (how n k:Nat):∀d,∃r,qBU p q how n (k+d)=qBU p q how n k++r:=by
 intro d
 induction d with
 | zero=>exact⟨[],by simp⟩
 | succ d ih=>
  obtain⟨r,f⟩:=ih;exact⟨r++qBe p q how n (k+d),by rw[<-Nat.add_assoc,qDl,f,List.append_assoc]⟩
theorem qLo {p q:Prog} {how n k i:Nat} (hk:k<n) (hi:i<(qBe p q how n k).length) (h:qBU p q how n k++(qBe p q how n k).take i=[]) (ha:qBR p q how=qBU p q how n n):
  qBU p q how n k++(qBe p q how n k).take (i+1)=qBk false (qBR p q how):=by
 obtain⟨f,l⟩:=List.append_eq_nil_iff.1 h
 have d:i=0:=by
  have m:=congrArg List.length l;rw[List.length_take,List.length_nil]at m;omega
 subst d;obtain⟨r,j⟩:=qKh p q how n (k+1) (n - (k+1));rw[show k+1+(n - (k+1))=n by omega,qDl,f,List.nil_append]at j;rw[f,ha,j];unfold qBk;rw[List.nil_append,if_neg (by decide),List.take_append_of_le_length (by omega)]
theorem qKC (p q:Prog) (m:Bool) (h:1<=per p):offV p q m<=per p:=by
 unfold offV
 split
 ·exact Nat.le_of_lt (Nat.mod_lt _ h)
 ·omega
theorem qHr {n0 g:Nat} {cb:Array Value} {goes:Bool} {Own:World->Nat->Prop} {Inv:List Mv->World->Prop} {pre:List Mv} {W w9:World} (hR:Recv Tryz.prog n0 g cb goes Own Inv) (hI:Inv pre W) (hs:W.heap.size<=w9.heap.size) (hk:∀(k:Nat) (o:Obj),W.heap[k]? =some o->o.isCells=true->w9.heap[k]? =some o):Inv pre w9:=
 (hR.frame pre W w9 hI hs λk h=>by obtain⟨o,ho,hc⟩:=hR.cells pre W k hI h;exact(hk k o ho hc).trans ho.symm).1
theorem qGr (p q:Prog) (b c how:Nat) (g:Nat) (cb:Array Value) (goes:Bool) (Own:World->Nat->Prop) (Inv:List Mv->World->Prop) (N:Nat) (Ben:World->Prop) (wz w:World) (hK:BenOk p q b c N Own Ben) (hben:Ben w) (hp:BenchFacts p) (hq:BenchFacts q) (hhow:how<=3)
  (hR:Recv Tryz.prog N g cb goes Own Inv) (hwz0:Below N wz w) (hnz:N<=w.heap.size) (hI:Inv [] w):
  Calls Tryz.prog 30 #[.pointer (some ⟨b,0,none⟩),.pointer (some ⟨c,0,none⟩),.int .u8 how,.func (.func g) #[] cb] w λe w'=>e= .returned (.tuple #[])/\Below N wz w'/\Inv (qBk goes (qBR p q how)) w':=by
 have hw:Below w.heap.size w w:=Below.refl _ _;have af:=hK.one _ hben;have aj:=hK.two _ hben;have hB:=Lib.hid af;have hC:=Lib.hid aj;have bf:=af.lt;have bj:=aj.lt;have b2:=hw.size;obtain⟨_,_,-,-,-,-,-,-,-,c7,-,c9⟩:=af.cells;obtain⟨_,_,-,-,-,-,-,-,-,d7,-,d9⟩:=aj.cells;replace c9:w.cell? ⟨b,9,none⟩=some (.int .i64 (per p)):=c9;replace d9:w.cell? ⟨c,9,none⟩=some (.int .i64 (per q)):=d9
 have R:∀W,Below w.heap.size w W->(W.cell? ⟨b,7,none⟩=some (.int .i64 p.ros.length)/\W.cell? ⟨b,9,none⟩=some (.int .i64 (per p)))/\(W.cell? ⟨c,7,none⟩=some (.int .i64 q.ros.length)/\W.cell? ⟨c,9,none⟩=some (.int .i64 (per q))):=λW h=>
  ⟨⟨(h.cell (p:=⟨b,7,none⟩) bf).trans c7,(h.cell (p:=⟨b,9,none⟩) bf).trans c9⟩,(h.cell (p:=⟨c,7,none⟩) bj).trans d7,(h.cell (p:=⟨c,9,none⟩) bj).trans d9⟩
 have bO:=hp.ros1;have bP:=hq.ros1;have bo:=qB2 hp;have bp:=qB2 hq;have bh:=(qCo hp).2.2;have bi:=(qCo hq).2.2;have aA:∀W,Below w.heap.size w W->Calls Tryz.prog 26 #[.pointer (some ⟨b,0,none⟩)] W λe w'=>e= .returned (.int .i64 (qAD p))/\∃k,w'=W.drewN k:=λW h=>qD9 b p W (af.below h) hp;have aB:∀W,Below w.heap.size w W->Calls Tryz.prog 26 #[.pointer (some ⟨c,0,none⟩)] W λe w'=>e= .returned (.int .i64 (qAD q))/\∃k,w'=W.drewN k:=λW h=>qD9 c q W (aj.below h) hq;clear af aj c7 c9 d7 d9
 obtain⟨W4,bx,br,aP,E,F⟩:∃W4,(w.alloc (.cells #[.pointer (some ⟨b,0,none⟩)] 62)).alloc (.cells #[.pointer (some ⟨c,0,none⟩)] 62)=W4/\W4.heap.size=w.heap.size+2/\Below w.heap.size w W4/\W4.heap[w.heap.size]? =some (.cells #[.pointer (some ⟨b,0,none⟩)] 62)/\W4.heap[w.heap.size+1]? =some (.cells #[.pointer (some ⟨c,0,none⟩)] 62):=
  ⟨_,rfl,by simp,alc2 _ _ _,(Below.heap_alloc _ _ _ (by simp)).trans (heap_alloc_new _ _),by have h:=heap_alloc_new (w.alloc (.cells #[.pointer (some ⟨b,0,none⟩)] 62)) (.cells #[.pointer (some ⟨c,0,none⟩)] 62);rw[World.size_alloc]at h;exact h⟩
 have be:Below w.heap.size w W4:=hw.trans (aP.mono b2);have t4:=qAH E;have t5:=qAH F;have⟨ak,al,M,v,bQ,J,aG,a5⟩:=hyd8 R aA aB hR hw hI br aP;have⟨z,A,ag,T,bE,a9,bD⟩:=hyd7 E F be bo bp bh bi;clear bi bh bp bo be F E aP br hI hw hR aB aA R;refine(callsIn_wide (n:=5)).1 ?_;refine callsIn_of_wp_marks Tryz.func30 rfl trivial ?_ rfl;simp only[Tryz.ntmps30,List.size_toArray,List.length_cons,List.length_nil,Nat.reduceAdd,Nat.reduceSub,Array.replicate_succ,Array.replicate_zero,List.push_toArray,List.append_toArray,List.nil_append,List.cons_append];refine wpIn_wide.2 ?_;go_wp2_with (first | (go_at_call 26;((with_reducible refine(al.out _ ag.out).mono ?_);rintro e w' ⟨rfl,nd,rfl⟩)));clear bx;have E:(W4.drewN nd).heap[w.heap.size]? =_:=z.out;have F:(W4.drewN nd).heap[w.heap.size+1]? =_:=A.out;have aX:(W4.drewN nd).heap.size =w.heap.size+2:=aG.out;have aQ:=qAF a5.out nd;have I:=qAF ag.out nd;clear z A aG a5 ag t4 t5;generalize W4.drewN nd=W5 at E F aX aQ I ⊢;have t4:=qAH E;have t5:=qAH F;obtain⟨⟨c7,c9⟩,⟨d7,d9⟩⟩:=ak.out W5 I;have bd:∀n,Below w.heap.size w (W5.drewN n):=λn=>qAF I n;obtain⟨X1,V⟩:∃X,((p.ros.length:Int) != (q.ros.length:Int))=X:=⟨_,rfl⟩;obtain⟨X2,Y⟩:∃X,((per p:Int) != (per q:Int))=X:=⟨_,rfl⟩;obtain⟨X3,Z⟩:∃X,((qAD p:Int) != (qAD q:Int))=X:=⟨_,rfl⟩
 have S:(X1=true∨X2=true∨X3=true)->∀W,Below w.heap.size w W->Inv (qBk goes (qBR p q how)) W:=by
  intro h W bg
  have hl:qGl p q=false:=by
   unfold qGl
   rcases h with rfl|rfl|rfl
   ·simp at V;simp;intro e;exact absurd (by exact_mod_cast e) V
   ·simp at Y;simp;intro _ e;exact absurd (by exact_mod_cast e) Y
   ·simp at Z;simp;intro _ _ e;exact absurd (by exact_mod_cast e) Z
  have ha:qBR p q how=[]:=by unfold qBR;rw[hl];rfl
  rw[ha,qLj];exact(v.out.frame [] w W J.out bg.size (λk hk=>bg.block k (v.out.own [] w k J.out hk).2)).1
 have⟨z,A,aH,H,aS,r,f⟩:=hyd7 E F aX aQ I bd S;clear S bd I aQ aX F E
 cases X1 with
 | true=>
  go_wp2;go_quiet (fail);have G:=f.out (by simp) (W5.drewN nq) (qAF H.out nq);have l:=r.out nq;generalize W5.drewN nq=W6 at G l ⊢;clear t4 t5 c7 c9 d7 d9;go_wp2;exact⟨_,results_none rfl _ _ _,rfl,hwz0.trans (l.mono hnz),G⟩
 | false=>
  cases X2 with
  | true=>
   go_wp2;go_quiet (fail);have G:=f.out (by simp) (W5.drewN nq) (qAF H.out nq);have l:=r.out nq;generalize W5.drewN nq=W6 at G l ⊢;clear t4 t5 c7 c9 d7 d9;go_wp2;exact⟨_,results_none rfl _ _ _,rfl,hwz0.trans (l.mono hnz),G⟩
  | false=>
   cases X3 with
   | true=>
    go_wp2;go_quiet (first | (go_at_call 26;with_reducible exact Calls.quiet_of (M.out _ (r.out _))));have G:=f.out (by simp) (W5.drewN nq) (qAF H.out nq);have l:=r.out nq;generalize W5.drewN nq=W6 at G l ⊢;clear t4 t5 c7 c9 d7 d9;go_wp2;exact⟨_,results_none rfl _ _ _,rfl,hwz0.trans (l.mono hnz),G⟩
   | false=>
    go_wp2;go_quiet (first | (go_at_call 26;with_reducible exact Calls.quiet_of (M.out _ (r.out _))));have ao:p.ros.length=q.ros.length:=by simp at V;exact_mod_cast V
    have aE:per p=per q:=by simp at Y;exact_mod_cast Y
    have aC:qAD p=qAD q:=by simp at Z;exact_mod_cast Z
    have bn:∀(m:Bool) W,Below w.heap.size w W->Calls Tryz.prog 55 #[.pointer (some ⟨b,0,none⟩),.pointer (some ⟨c,0,none⟩),.bool m] W λe w'=>e= .returned (.tuple #[.int .i64 (offV p q m:Nat),.bool (offB p q m)])/\Below W.heap.size W w':=λm W h=>qLh b c p q m W (hB.out.below h) (hC.out.below h) hp hq ao;have E:(W5.drewN nq).heap[w.heap.size]? =_:=z.out;have F:(W5.drewN nq).heap[w.heap.size+1]? =_:=A.out;have ab:(W5.drewN nq).heap.size =w.heap.size+2:=aH.out;have aR:=qAF H.out nq;have ah:=r.out nq;clear z A aH H aS r f t4 t5 c7 c9 d7 d9;generalize W5.drewN nq=W6 at E F ab aR ah ⊢;have t4:=qAH E;have t5:=qAH F;have⟨bA,bB,bC,aU,aW,aT,ap,z⟩:=hyd8 V Y Z ao aE aC bn E;have⟨A,U,a6,D⟩:=hyd4 F ab aR ah;clear ah aR ab F E bn aC aE ao Z Y V;go_wp2_with (first | (go_at_call 55;((with_reducible refine(ap.out false _ D.out).mono ?_);rintro e w' ⟨rfl,L⟩;have aa:=L.alloc L.size (.cells #[.int .i64 (offV p q false:Nat)] 3);have h9:=qAk w' (.cells #[.int .i64 (offV p q false:Nat)] 3);have ar:=L.size;have e4:=qAH ((aa.block _ (by have:=U.out;omega)).trans z.out);have e5:=qAH ((aa.block _ (by have:=U.out;omega)).trans A.out);clear L t4 t5)));have ac:(w'.alloc (.cells #[.int .i64 (offV p q false:Nat)] 3)).heap.size =w'.heap.size+1:=by simp
    generalize w'.alloc (.cells #[.int .i64 (offV p q false:Nat)] 3)=W8 at aa h9 e4 e5 ac ⊢;generalize w'.heap.size=B9 at h9 ar ac ⊢;clear w';have a8:=D.out.trans (aa.mono D.out.size);have⟨a7,bb,aI,aJ,ai⟩:=hyd5 aa h9 ac ar a8;clear a8 ar ac h9 aa;clear e4 e5;go_wp2_with (first | (go_at_call 55;((with_reducible refine(ap.out true _ ai.out).mono ?_);rintro e w' ⟨rfl,L⟩)));have Q:=L.alloc L.size (.cells #[.int .i64 (offV p q true:Nat)] 3);have aw:=qAk w' (.cells #[.int .i64 (offV p q true:Nat)] 3);have aF:=L.size;have aq:(w'.alloc (.cells #[.int .i64 (offV p q true:Nat)] 3)).heap.size =w'.heap.size+1:=by simp
    clear L;generalize w'.alloc (.cells #[.int .i64 (offV p q true:Nat)] 3)=W10 at Q aw aq ⊢;generalize w'.heap.size=B11 at aw aF aq ⊢;clear w';have ac:=aI.out;have ar:=aJ.out;have ab:=U.out;have C:Below W6.heap.size W6 W10:=a7.out.trans (Q.mono (by omega));have d:Below w.heap.size w W10:=a6.out.trans (C.mono (by omega));have a3:∀k,Own W10 k->Own w k:=(v.out.frame [] w W10 J.out d.size (λk hk=>d.block k (v.out.own [] w k J.out hk).2)).2;have a1:Inv [] W10:=(v.out.frame [] w W10 J.out d.size (λk hk=>d.block k (v.out.own [] w k J.out hk).2)).1;have x:∀k,Own W10 k->k<w.heap.size:=λk hk=>(v.out.own [] w k J.out (a3 k hk)).2;obtain⟨B4,ae⟩:∃B,w.heap.size=B:=⟨_,rfl⟩;rw[ae]at ab x;have E:=z.out;have F:=A.out;rw[ae]at E F
    have bq:SStB 62 3 N wz Ben B4 (B4+1) B9 B11 b c (offV p q false) (offV p q true) Own Inv [] W10:=
     ⟨hwz0.trans (d.mono hnz),Nat.le_trans hnz d.size,hK.next w W10 hben d,a1,⟨(C.block _ (by omega)).trans E,λh=>by have:=x _ h;omega⟩,⟨(C.block _ (by omega)).trans F,λh=>by have:=x _ h;omega⟩,⟨(Q.block _ (by omega)).trans bb.out,λh=>by have:=x _ h;omega⟩,⟨aw,λh=>by have:=x _ h;omega⟩⟩
    have bK:b<B4:=by omega
    have bL:c<B4:=by omega
    rw[ae];clear Q aw aF aq ac ar ab C d a3 a1 x E F a7 bb aI aJ ai z A U a6 D ap al M;have b9:=hyd1 ae;clear ae
    have j:qBR p q how=qBU p q how (qAD p) (qAD p):=by
     have hl:qGl p q=true:=by unfold qGl;simp[aU.out,aW.out,aT.out]
     unfold qBR;rw[if_pos hl]
    have bl:offV p q false<=1000000:=by have h1:=qKC p q false T.out.1;have h2:=T.out.2.1;omega
    have bm:offV p q true<=1000000:=by have h1:=qKC p q true T.out.1;have h2:=T.out.2.1;omega
    refine wp_loop (λa wr=>∃k,k<=qAD p/\SRel p q goes Own Inv N Ben wz b c (offV p q false) (offV p q true) how g cb (offB p q false) (offB p q true) (qAD p) B4 (B4+1) B9 B11 k a wr) (λa _=>qAD p - (intOf (a.tmps.getD 65 undef)).toNat) ?_ ?_
    ·exact⟨0,Nat.zero_le _,_,[],0,rfl,rfl,qAR _ _ (by kernel_rfl),bq,trivial,λ_=>rfl⟩
    ·clear bq;rintro a wr ⟨k,hk,hS⟩
     have az:∀k a W,SRel p q goes Own Inv N Ben wz b c (offV p q false) (offV p q true) how g cb (offB p q false) (offB p q true) (qAD p) B4 (B4+1) B9 B11 k a W->(intOf (a.tmps.getD 65 undef)).toNat =k:=by
      rintro k a W ⟨t,ds,iz,rfl,b0,⟨u,rfl⟩,_⟩;show(intOf (Value.int .i64 iz)).toNat =k;rw[b0];simp[intOf]
     refine qIo p q hp hq goes Own Inv N Ben wz b c (offV p q false) (offV p q true) how g cb (offB p q false) (offB p q true) (qAD p) B4 (B4+1) B9 B11 k a wr v.out hK a9.out.2 a9.out.1 bl bm rfl rfl rfl rfl hhow hk hS _ ?_ ?_ ?_
     ·intro bk a2 w2 h2;refine⟨⟨k+1,by omega,h2⟩,?_⟩;rw[az _ _ _ h2,az _ _ _ hS];omega
     ·rintro bN a2 w2 ⟨t2,aO,bS,rfl,-,⟨u2,rfl⟩,bc,aD,an⟩
      have y:qBk goes (qBR p q how)=qBU p q how (qAD p) (qAD p):=by
       rw[j]
       cases goes with
       | true=>rfl
       | false=>rw[an rfl];rfl
      clear hS az;have⟨ay,am,a4,aV,bz⟩:=hyd5 j y bc aD an;clear an aD bc y j;go_wp2;refine qAf N aO w2 aV.out.marks λw9 L O=>?_;exact⟨_,results_none rfl _ _ _,rfl,a4.out.below.trans L,by rw[am.out];exact qHr v.out a4.out.inv L.size O⟩
     ·rintro rfl bk i t' aO w2 hi h1 h2 h3;have y:=qLo bk hi h1 j;rw[y]at h2;clear hS az;have⟨ay,am,ba,bw,bG⟩:=hyd5 j y h2 h3 h1;clear h1 h3 h2 y j;go_wp2;refine qAf N aO w2 bw.out.marks λw9 L O=>?_;exact⟨_,results_none rfl _ _ _,rfl,ba.out.below.trans L,qHr v.out ba.out.inv L.size O⟩
theorem qLp (p q:Prog) (b c how:Nat) (g:Nat) (cb:Array Value) (goes:Bool) (Own:World->Nat->Prop) (Inv:List Mv->World->Prop) (w0 w:World) (hb0:IsBench w0 b p) (hc0:IsBench w0 c q) (hp:BenchFacts p) (hq:BenchFacts q) (hhow:how<=3)
  (hR:Recv Tryz.prog w0.heap.size g cb goes Own Inv) (hw:Below w0.heap.size w0 w) (hI:Inv [] w):
  Calls Tryz.prog 30 #[.pointer (some ⟨b,0,none⟩),.pointer (some ⟨c,0,none⟩),.int .u8 how,.func (.func g) #[] cb] w λe w'=>e= .returned (.tuple #[])/\Below w0.heap.size w0 w'/\Inv (qBk goes (qBR p q how)) w':=
 qGr p q b c how g cb goes Own Inv w0.heap.size (λW=>Below w0.heap.size w0 W) w0 w ⟨λW h=>hb0.below h,λW h=>hc0.below h,λW W' h hb=>h.trans (hb.mono h.size),λW W' h hb _=>h.trans hb⟩ hw hp hq hhow hR hw hw.size hI
end Go.Proofs.YtbcbcdgbliheoaaGreat

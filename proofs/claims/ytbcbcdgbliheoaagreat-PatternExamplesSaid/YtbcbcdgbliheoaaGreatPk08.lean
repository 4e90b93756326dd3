/- Programs (layer 4): what their values are; Check. pattern.mounted: a valid program at work. The reference of layer 3: Lifted, Moved, Least. The reference of .. -/
import Derived.Test.YtbcbcdgbliheoaaGreatPk07
import Derived.StillTailTactics
namespace Go.Proofs.YtbcbcdgbliheoaaGreat
set_option maxRecDepth 100000
set_option maxHeartbeats 4000000
open Go.RowKit
set_option linter.unusedVariables false
set_option linter.unusedSimpArgs false

structure Prog where
 ros:List Int
 rub:List Int
 start:Int
 throw:Int
 adv:Int
 shifts:List Int
def IsProg (w:World) (v:Value) (p:Prog):Prop:=
 ∃v0 v1 v5,v= .agg #[v0,v1,.int .i64 p.start,.int .i64 p.throw,.int .i64 p.adv,v5]/\Ints w v0 p.ros/\Ints w v1 p.rub/\Ints w v5 p.shifts
theorem IsProg.below {w w':World} {v:Value} {p:Prog} (h:IsProg w v p) (hb:Below w.heap.size w w'):IsProg w' v p:=by
 obtain⟨g,i,j,f,b,c,d⟩:=h;exact⟨g,i,j,f,b.below hb,c.below hb,d.below hb⟩
def qGd (n:Nat) (x:Int):Bool:=qA0 x 0 ((n:Int) - 1)
def qEo (p:Prog):Bool:=qA0 p.start 0 10000&&(qA0 p.throw 1 16&&(qA0 p.adv (-1000) 1000&&(qA0 p.shifts.length 1 12&&p.shifts.all (qGd p.ros.length))))
def qAJ (p:Prog):Int:=if qBx p.ros p.rub≠0 then qBx p.ros p.rub else if qEo p then 0 else 40

theorem qIb (x:Int) (n:Nat) (A:Option Addr) (c B:Nat) (w:World) (hn:n<=1000) (hc:w.cell? ⟨B,0,none⟩=some (.slice A n c)):
  Calls Tryz.prog 50 (#[.int .i64 x]++#[.pointer (some ⟨B,0,none⟩)]) w λe w'=>e= .returned (.bool (!qGd n x))/\w=w':=by
 unfold qGd;show Calls Tryz.prog 50 #[.int .i64 x,.pointer (some ⟨B,0,none⟩)] w _;go_enter Tryz.func50,Tryz.ntmps50;go_wp2_with (first | (go_at_call 22;refine(qAI _ _ _ _).mono ?_;rintro e w' ⟨rfl,rfl⟩));go_ret;exact⟨rfl,rfl⟩
theorem qCz (v:Value) (p:Prog) (w:World) (hv:IsProg w v p) (E:Int) (hE:qAJ p=E):
  Calls Tryz.prog 20 #[v] w λe w'=>e= .returned (.int .i64 E)/\Below w.heap.size w w':=by
 obtain⟨v0,v1,v5,rfl,O,P,Q⟩:=hv;have m:=Lib.hid O;have n:=Lib.hid P;have M:=Lib.hid Q;obtain⟨T,c0,rfl,ae,I,_,_⟩:=O;obtain⟨A1,c1,rfl,af,J,_,_⟩:=P;obtain⟨U,c5,rfl,ag,L,_,_⟩:=Q;unfold maxLen at I J L;obtain⟨B,R⟩:∃B,qBF p.ros=B:=⟨_,rfl⟩;obtain⟨C,S⟩:∃C,qB5 p.rub p.ros.length=C:=⟨_,rfl⟩;have⟨d,g,q⟩:=hyd3 R S hE;clear R S hE
 cases B with
 | false=>
  obtain rfl:E=30:=by
   have h:=q.out;unfold qAJ qBx at h;rw[d.out]at h;simpa using h.symm
  go_enter Tryz.func20,Tryz.ntmps20;go_wp2_with (first | (go_at_call 48;refine(qAp _ p.ros _ (m.out.below (alc1 _ _)) false d.out).mono ?_;rintro e w' ⟨rfl,rfl⟩));go_ret;exact⟨rfl,alc1 _ _⟩
 | true=>
  cases C with
  | false=>
   obtain rfl:E=31:=by
    have h:=q.out;unfold qAJ qBx at h;rw[d.out,g.out]at h;simpa using h.symm
   go_enter Tryz.func20,Tryz.ntmps20;go_wp2_with (first | (go_at_call 48;refine(qAp _ p.ros _ (m.out.below (alc1 _ _)) true d.out).mono ?_;rintro e w' ⟨rfl,rfl⟩)| (go_at_call 49;refine(qAl _ p.rub _ _ (n.out.below (alc1 _ _)) false g.out).mono ?_;rintro e w' ⟨rfl,rfl⟩));go_ret;exact⟨rfl,alc1 _ _⟩
  | true=>
   have r:(if qEo p then(0:Int)else 40)=E:=by
    have h:=q.out;unfold qAJ qBx at h;rw[d.out,g.out]at h;simpa using h
   have G:p.ros.length<=1000:=by
    have:=d.out;unfold qBF at this;simp only[Bool.and_eq_true,decide_eq_true_eq]at this;omega
   unfold qEo at r;obtain⟨V,s⟩:∃X,qA0 p.start 0 10000=X:=⟨_,rfl⟩;obtain⟨Y,t⟩:∃X,qA0 p.throw 1 16=X:=⟨_,rfl⟩;obtain⟨Z,y⟩:∃X,qA0 p.adv (-1000) 1000=X:=⟨_,rfl⟩;obtain⟨X4,z⟩:∃X,qA0 p.shifts.length 1 12=X:=⟨_,rfl⟩;obtain⟨N,A⟩:∃X,p.shifts.all (qGd p.ros.length)=X:=⟨_,rfl⟩;rw[s,t,y,z,A]at r;have⟨i,j,k,l,F⟩:=hyd5 s t y z A
   have o:∀W,Below w.heap.size w W->∀H,W.cell? ⟨H,0,none⟩=some (.slice T p.ros.length c0)->Calls Tryz.prog 33 #[.slice U p.shifts.length c5,.func (.func 50) #[] #[.pointer (some ⟨H,0,none⟩)]] W λe w'=>e= .returned (.bool (!N))/\W=w':=by
    intro W hb H D;have h:=qBb (λx=> !qGd p.ros.length x) 50 #[.pointer (some ⟨H,0,none⟩)] _ p.shifts W (M.out.below hb) (λ_ _=>by kernel_rfl) (λx _=>qIb x _ _ _ _ _ G D);rw[qJz,F.out]at h;exact h
   have c:=hyd1 o;have ah:∀(fn:Fn) (first cap:Array Value) (w:World),(Instr.makeFunc fn first cap).run Tryz.prog w= .ok (.func fn first cap) w:=λ_ _ _ _=>rfl;clear s t y z A q o;have f:=Lib.hid r;clear r
   cases V with
   | false=>
    have b:=f.out;simp at b;subst b;clear f;go_enter Tryz.func20,Tryz.ntmps20;go_wp2_with (first | (go_at_call 48;refine(qAp _ p.ros _ (m.out.below (alc1 _ _)) true d.out).mono ?_;rintro e w' ⟨rfl,rfl⟩)| (go_at_call 49;refine(qAl _ p.rub _ _ (n.out.below (alc1 _ _)) true g.out).mono ?_;rintro e w' ⟨rfl,rfl⟩)| (go_at_call 22;refine(qAI _ _ _ _).mono ?_;rintro e w' ⟨rfl,rfl⟩;(first |rw[i.out]|rw[j.out]|rw[k.out]|rw[l.out]))| (go_at_call 33;refine(c.out _ (alc1 _ _) _ (World.cell?_alloc_at _ _ _ _ rfl)).mono ?_;rintro e w' ⟨rfl,rfl⟩));go_ret;exact⟨rfl,alc1 _ _⟩
   | true=>
    cases Y with
    | false=>
     have b:=f.out;simp at b;subst b;clear f;go_enter Tryz.func20,Tryz.ntmps20;go_wp2_with (first | (go_at_call 48;refine(qAp _ p.ros _ (m.out.below (alc1 _ _)) true d.out).mono ?_;rintro e w' ⟨rfl,rfl⟩)| (go_at_call 49;refine(qAl _ p.rub _ _ (n.out.below (alc1 _ _)) true g.out).mono ?_;rintro e w' ⟨rfl,rfl⟩)| (go_at_call 22;refine(qAI _ _ _ _).mono ?_;rintro e w' ⟨rfl,rfl⟩;(first |rw[i.out]|rw[j.out]|rw[k.out]|rw[l.out]))| (go_at_call 33;refine(c.out _ (alc1 _ _) _ (World.cell?_alloc_at _ _ _ _ rfl)).mono ?_;rintro e w' ⟨rfl,rfl⟩));go_ret;exact⟨rfl,alc1 _ _⟩
    | true=>
     cases Z with
     | false=>
      have b:=f.out;simp at b;subst b;clear f;go_enter Tryz.func20,Tryz.ntmps20;go_wp2_with (first | (go_at_call 48;refine(qAp _ p.ros _ (m.out.below (alc1 _ _)) true d.out).mono ?_;rintro e w' ⟨rfl,rfl⟩)| (go_at_call 49;refine(qAl _ p.rub _ _ (n.out.below (alc1 _ _)) true g.out).mono ?_;rintro e w' ⟨rfl,rfl⟩)| (go_at_call 22;refine(qAI _ _ _ _).mono ?_;rintro e w' ⟨rfl,rfl⟩;(first |rw[i.out]|rw[j.out]|rw[k.out]|rw[l.out]))| (go_at_call 33;refine(c.out _ (alc1 _ _) _ (World.cell?_alloc_at _ _ _ _ rfl)).mono ?_;rintro e w' ⟨rfl,rfl⟩));go_ret;exact⟨rfl,alc1 _ _⟩
     | true=>
      cases X4 with
      | false=>
       have b:=f.out;simp at b;subst b;clear f;go_enter Tryz.func20,Tryz.ntmps20;go_wp2_with (first | (go_at_call 48;refine(qAp _ p.ros _ (m.out.below (alc1 _ _)) true d.out).mono ?_;rintro e w' ⟨rfl,rfl⟩)| (go_at_call 49;refine(qAl _ p.rub _ _ (n.out.below (alc1 _ _)) true g.out).mono ?_;rintro e w' ⟨rfl,rfl⟩)| (go_at_call 22;refine(qAI _ _ _ _).mono ?_;rintro e w' ⟨rfl,rfl⟩;(first |rw[i.out]|rw[j.out]|rw[k.out]|rw[l.out]))| (go_at_call 33;refine(c.out _ (alc1 _ _) _ (World.cell?_alloc_at _ _ _ _ rfl)).mono ?_;rintro e w' ⟨rfl,rfl⟩));go_ret;exact⟨rfl,alc1 _ _⟩
      | true=>
       cases N
       all_goals
        have b:=f.out;simp at b;subst b;clear f;go_enter Tryz.func20,Tryz.ntmps20;go_wp2_with (first | (go_at_call 48;refine(qAp _ p.ros _ (m.out.below (alc1 _ _)) true d.out).mono ?_;rintro e w' ⟨rfl,rfl⟩)| (go_at_call 49;refine(qAl _ p.rub _ _ (n.out.below (alc1 _ _)) true g.out).mono ?_;rintro e w' ⟨rfl,rfl⟩)| (go_at_call 22;refine(qAI _ _ _ _).mono ?_;rintro e w' ⟨rfl,rfl⟩;(first |rw[i.out]|rw[j.out]|rw[k.out]|rw[l.out]))| (go_at_call 33;refine(c.out _ (alc1 _ _) _ (World.cell?_alloc_at _ _ _ _ rfl)).mono ?_;rintro e w' ⟨rfl,rfl⟩));go_ret;exact⟨rfl,alc1 _ _⟩
theorem Arr.look {α:Type} {f:α->Value} {w:World} {A:Option Addr} {n c:Nat} {xs:List α} (h:Arr f w (.slice A n c) xs) {k:Nat} (hk:k<xs.length):
  ∃b off,A=some ⟨b,off,none⟩/\b<w.heap.size/\w.cell? ⟨b,off+k,none⟩=some (f xs[k]):=by
 obtain⟨m,o,l,_,_,_,j⟩:=h;injection l with h1 h2 h3;subst h1;obtain⟨b,off,d,g,i⟩:=j (by omega);exact⟨b,off,d,g,i k hk⟩
def qAw (s:List Int) (k:Nat):Int:=(s.take k).sum
def qBK (s:List Int) (k i:Nat):Int:=if i<=k then qAw s i else 0
def qAq (p:Prog) (v0 v1 v5 vl:Value) (k:Nat):Array Value:=
 #[v0,v1,.int .i64 p.start,.int .i64 p.throw,.int .i64 p.adv,v5,vl,.int .i64 p.ros.length,.int .i64 p.shifts.length,.int .i64 (qB1 (qAP p.ros p.rub)),
  .int .i64 (qBK p.shifts k 0),.int .i64 (qBK p.shifts k 1),.int .i64 (qBK p.shifts k 2),.int .i64 (qBK p.shifts k 3),.int .i64 (qBK p.shifts k 4),.int .i64 (qBK p.shifts k 5),.int .i64 (qBK p.shifts k 6),
  .int .i64 (qBK p.shifts k 7),.int .i64 (qBK p.shifts k 8),.int .i64 (qBK p.shifts k 9),.int .i64 (qBK p.shifts k 10),.int .i64 (qBK p.shifts k 11),.int .i64 (qBK p.shifts k 12)]
def IsBench (w:World) (b:Nat) (p:Prog):Prop:=
 ∃v0 v1 v5 vl,w.heap[b]? =some (.cells (qAq p v0 v1 v5 vl p.shifts.length) 68)/\Ints w v0 p.ros/\Ints w v1 p.rub/\Ints w v5 p.shifts/\Ints w vl (qAP p.ros p.rub)
theorem IsBench.below {w w':World} {b:Nat} {p:Prog} (h:IsBench w b p) (hb:Below w.heap.size w w'):IsBench w' b p:=by
 obtain⟨k,l,m,n,d,f,g,i,j⟩:=h
 have c:b<w.heap.size:=by
  rcases Nat.lt_or_ge b w.heap.size with h|h
  ·exact h
  ·simp[h]at d
 exact⟨k,l,m,n,(hb.block b c).trans d,f.below hb,g.below hb,i.below hb,j.below hb⟩
theorem qL3 {w w1:World} {a:Obj} (h:Below (w.alloc a).heap.size (w.alloc a) w1):Below w.heap.size w w1/\w.heap.size<w1.heap.size/\w1.heap[w.heap.size]? =some a/\w.heap.size<=w1.heap.size:=by
 have b:w.heap.size<(w.alloc a).heap.size :=by simp
 exact⟨(alc1 _ _).trans (h.mono (Nat.le_of_lt b)),Nat.lt_of_lt_of_le b h.size,(h.block _ b).trans (qAk _ _),Nat.le_of_lt (Nat.lt_of_lt_of_le b h.size)⟩
theorem qAx {W:World} {B:Nat} {t:TypeId} {v0 v1 v2 v3 v4 v5:Value} (h:W.heap[B]? =some (.cells #[v0,v1,v2,v3,v4,v5] t)):
  W.cell? ⟨B,0,none⟩=some v0/\W.cell? ⟨B,1,none⟩=some v1/\W.cell? ⟨B,2,none⟩=some v2/\W.cell? ⟨B,3,none⟩=some v3/\W.cell? ⟨B,4,none⟩=some v4/\W.cell? ⟨B,5,none⟩=some v5:=
 ⟨cell_of_row W B 0 _ _ _ h,cell_of_row W B 1 _ _ _ h,cell_of_row W B 2 _ _ _ h,cell_of_row W B 3 _ _ _ h,cell_of_row W B 4 _ _ _ h,cell_of_row W B 5 _ _ _ h⟩
theorem progB_iff {p:Prog}:qEo p=true↔(0<=p.start/\p.start<=10000)/\(1<=p.throw/\p.throw<=16)/\(-1000<=p.adv/\p.adv<=1000)/\(1<=p.shifts.length/\p.shifts.length<=12)/\∀i (h:i<p.shifts.length),0<=p.shifts[i]/\p.shifts[i]<p.ros.length:=by
 unfold qEo;simp only[Bool.and_eq_true,within_iff,List.all_eq_true,qGd];constructor
 ·rintro⟨b,c,d,g,f⟩;exact⟨b,c,d,by omega,λi h=>by have:=f _ (List.getElem_mem h);omega⟩
 ·rintro⟨b,c,d,g,f⟩;refine⟨b,c,d,by omega,λx k=>?_⟩;obtain⟨i,j,rfl⟩:=List.mem_iff_getElem.1 k;have:=f i j;omega
theorem qEp (s:List Int) (k:Nat) (h:k<s.length):qAw s (k+1)=qAw s k+s[k]:=by
 unfold qAw;rw[List.take_succ_eq_append_getElem h,List.sum_append];simp
theorem qGU (s:List Int) (n:Nat) (h:∀i (h:i<s.length),0<=s[i]/\s[i]<n):∀k,k<=s.length->0<=qAw s k/\qAw s k<=n*k:=by
 intro k
 induction k with
 | zero=>intro _;simp[qAw]
 | succ k ih=>
  intro d;have b:=ih (by omega);have c:=h k (by omega);rw[qEp _ _ (by omega)];have:(n:Int)*((k+1:Nat):Int)=n*k+n:=by rw[Int.natCast_add,Int.mul_add];simp
  omega
theorem qFY {y:Int} {n k:Nat} (h:0<=y/\y<=n*k) (hn:n<=96) (hk:k<=12):0<=y/\y<=1152:=by
 have c:n*k<=96*12:=Nat.mul_le_mul hn hk;have b:((n*k:Nat):Int)<=1152:=by omega
 rw[Int.natCast_mul]at b;exact⟨h.1,by omega⟩
theorem qMe (p:Prog) (v0 v1 v5 vl:Value) (k i:Nat) (h:i<13):(qAq p v0 v1 v5 vl k)[10+i]? =some (.int .i64 (qBK p.shifts k i)):=by
 obtain rfl|rfl|rfl|rfl|rfl|rfl|rfl|rfl|rfl|rfl|rfl|rfl|rfl:i=0∨i=1∨i=2∨i=3∨i=4∨i=5∨i=6∨i=7∨i=8∨i=9∨i=10∨i=11∨i=12:=by omega
 all_goals rfl
theorem qCt {W:World} {B:Nat} {t:TypeId} {p:Prog} {v0 v1 v5 vl:Value} {k:Nat} (h:W.heap[B]? =some (.cells (qAq p v0 v1 v5 vl k) t)) (i:Nat) (hi:i<13):
  W.cell? ⟨B,10+i,none⟩=some (.int .i64 (qBK p.shifts k i)):=(cell_of_row W B _ _ _ _ h).trans (qMe _ _ _ _ _ _ _ hi)
theorem qDA {W:World} {B:Nat} {cs:Array Value} {t:TypeId} (h:W.heap[B]? =some (.cells cs t)) (i:Nat):W.frozen? ⟨B,i,none⟩=false:=by simp[World.frozen?,h]
theorem qGe (p:Prog) (v0 v1 v5 vl:Value) (k:Nat) (h:k<12):(qAq p v0 v1 v5 vl k).setIfInBounds (10+(k+1)) (.int .i64 (qAw p.shifts (k+1)))=qAq p v0 v1 v5 vl (k+1):=by
 obtain rfl|rfl|rfl|rfl|rfl|rfl|rfl|rfl|rfl|rfl|rfl|rfl:k=0∨k=1∨k=2∨k=3∨k=4∨k=5∨k=6∨k=7∨k=8∨k=9∨k=10∨k=11:=by omega
 all_goals rfl
theorem qAy {W:World} {B i:Nat} {cs:Array Value} {u:Value} {t:TypeId} (h:W.heap[B]? =some (.cells cs t)):(W.setCell ⟨B,i,none⟩ u).heap[B]? =some (.cells (cs.setIfInBounds i u) t):=by
 simp only[World.setCell,Array.getElem?_modify,h];simp
theorem qEq {p:Prog} (h:qAJ p=0):qBF p.ros=true/\qB5 p.rub p.ros.length=true/\qEo p=true:=by
 unfold qAJ qBx at h
 cases h1:qBF p.ros<;>cases h2:qB5 p.rub p.ros.length<;>cases h3:qEo p<;>simp_all
theorem qAM (v:Value) (p:Prog) (w:World) (hv:IsProg w v p) (E:Int) (hE:qAJ p=E):
  Calls Tryz.prog 21 #[v] w λe w'=>∃v',e= .returned (.tuple #[v',.int .i64 E])/\Below w.heap.size w w'/\(E≠0->v'= .pointer none)∧
   (E=0->∃b,v'= .pointer (some ⟨b,0,none⟩)/\w.heap.size<=b/\IsBench w' b p):=by
 have S:=Lib.hid hv;have B:=hyd1 hE;obtain⟨v0,v1,v5,rfl,Y,Z,h5⟩:=hv
 by_cases o:E=0
 ·subst o;have g:=qEq B.out;have⟨m,I,J⟩:=hyd3 Y Z h5;obtain⟨A0,c0,rfl,a2,aA,_,_⟩:=Y;obtain⟨A1,c1,rfl,a3,aB,_,_⟩:=Z;obtain⟨A5,c5,rfl,a4,aC,_,aE⟩:=h5;clear hE;have ac:qBx p.ros p.rub=0:=by unfold qBx;rw[g.1,g.2.1];rfl
  have ah:=Lib.hid (qDT g.1 g.2.1);go_enter Tryz.func21,Tryz.ntmps21;go_wp2_with (first | (go_at_call 20;refine(qCz _ p _ (S.out.below (alc1 _ _)) 0 B.out).mono ?_;rintro e w1 ⟨rfl,q⟩;obtain⟨n,G,F,L⟩:=qL3 q;obtain⟨p0,p1,p2,p3,p4,p5⟩:=qAx F;clear q)| (go_at_call 51;refine(qGK _ _ p.ros p.rub _ (m.out.below n) (I.out.below n) 0 ac).mono ?_;rintro e w2 ⟨vl,rfl,r,P,-⟩;have A:=n.trans (r.mono L);have V:=(r.block w.heap.size G).trans F;have H:=Nat.lt_of_lt_of_le G r.size;have t:=Lib.hid (Arr.of_own (P rfl));obtain⟨lA,lc,T,ag,a9,_,_⟩:=t.out;rw[qAQ]at T ag;subst T;clear P r F G L p0 p1 p2 p3 p4 p5 n)| (go_at_call 52;refine(qFH _ _ _ t.out ah.out).mono ?_;rintro e z ⟨rfl,j⟩;have f:=A.trans (j.mono A.size);have aj:=(j.block w.heap.size H).trans V;have aJ:=Nat.lt_of_lt_of_le H j.size;have af:=Lib.hid (t.out.below j);obtain⟨p0,p1,p2,p3,p4,p5⟩:=qAx aj;clear j V H t A));have hP:=progB_iff.1 g.2.2;have al:=hP.2.2.2.1;have c:=f.size;have Q:=(rosOk_iff.1 g.1)
  go_loopw [48] (λi wr=>∃k:Nat,k<=p.shifts.length/\i= .int .i64 k/\Below z.heap.size z wr/\z.heap.size<wr.heap.size∧
   Hid (wr.heap[z.heap.size]? =some (.cells (qAq p (.slice A0 p.ros.length c0) (.slice A1 p.rub.length c1) (.slice A5 p.shifts.length c5) (.slice lA p.ros.length lc) k) 68))) (λi _=>p.shifts.length - (intOf i).toNat)
  case atStart=>exact⟨0,by omega,rfl,alc1 _ _,by simp,Lib.hid ((qAk _ _).trans (by simp[qAq,qBK,qAw]))⟩
  case round=>
   obtain⟨k,hk,rfl,d,U,l⟩:=hrel
   by_cases D:k<p.shifts.length
   ·obtain⟨b,aM,rfl,a1,O⟩:=(J.out.below (f.trans (d.mono c))).look D;obtain⟨ad,ae⟩:=hP.2.2.2.2 k D;have C:=qCt l.out k (by omega);rw[show qBK p.shifts k k=qAw p.shifts k from if_pos (Nat.le_refl _)]at C;have N:=qDA l.out;have R:=qGU p.shifts p.ros.length (λi hi=>hP.2.2.2.2 i hi) k (by omega);generalize hx:p.shifts[k]=x at O ad ae;have ai:=hyd1 hx;clear hx;generalize hy:qAw p.shifts k=y at C R;have ak:=hyd1 hy;clear hy;go_wp2;have a6:(k:Int)<13:=by omega
    have a7:(k:Int)+1<13:=by omega
    have a8:(0:Int)<=(k:Int)+1:=by omega
    have aF:IntKind.i64.wrap (k:Int)=(k:Int):=IntWalk.i64_in _ (by omega);have aG:IntKind.i64.wrap ((k:Int)+1)=(k:Int)+1:=IntWalk.i64_in _ (by omega);have aI:0<=y/\y<=1152:=qFY R Q.2.1 (by omega);have aH:IntKind.i64.wrap (y+x)=y+x:=IntWalk.i64_in _ (by omega)
    go_still_tail 14,(by kernel_rfl)
    change wpList _ _ _ _ _ wr.drew;have M:Below z.heap.size z wr.drew:=d.drew;have s:Hid (wr.drew.heap[z.heap.size]? =_):=l;have X:z.heap.size<wr.drew.heap.size:=U;clear l d U C N O;generalize wr.drew=w4 at M s X ⊢;have a0:=qCt s.out (k+1) (by omega);have N:=qDA s.out;go_wp2;go_roundw
    case rel=>exact⟨k+1,by omega,by go_num,M.setCell (p:=⟨z.heap.size,10+(k+1),none⟩) (Nat.le_refl _) _,by simpa[World.setCell]using X,Lib.hid ((qAy s.out).trans (by rw[<-ai.out,<-ak.out,<-qEp _ _ D,qGe _ _ _ _ _ _ (by omega)]))⟩
    case measure=>simp[intOf];omega
   ·obtain rfl:k=p.shifts.length:=by omega
    go_wp2;go_ret2;exact⟨_,rfl,f.trans (d.mono c),λh=>absurd rfl h,λ_=>⟨_,rfl,c,_,_,_,_,l.out,m.out.below (f.trans (d.mono c)),I.out.below (f.trans (d.mono c)),J.out.below (f.trans (d.mono c)),af.out.below d⟩⟩
 ·have aD:(E != 0)=true:=by simpa using o
  have m:=hyd1 o;clear Y Z h5 hE o;go_enter Tryz.func21,Tryz.ntmps21;go_wp2_with (first | (go_at_call 20;refine(qCz _ p _ (S.out.below (alc1 _ _)) E B.out).mono ?_;rintro e w' ⟨rfl,q⟩));go_ret2;exact⟨_,rfl,(alc1 _ _).trans (q.mono (by simp)),λ_=>rfl,λh=>absurd h m.out⟩
def qAS (p:Prog) (j:Int):Int:=(j / (p.shifts.length:Int)*qAw p.shifts p.shifts.length+qAw p.shifts (j%(p.shifts.length:Int)).toNat)%(p.ros.length:Int)
structure BenchFacts (p:Prog):Prop where
 ros0:3<=p.ros.length
 ros1:p.ros.length<=96
 start:0<=p.start/\p.start<=10000
 throw:1<=p.throw/\p.throw<=16
 adv: -1000<=p.adv/\p.adv<=1000
 sh0:1<=p.shifts.length
 sh1:p.shifts.length<=12
 sh:∀i (h:i<p.shifts.length),0<=p.shifts[i]/\p.shifts[i]<p.ros.length
 ros:qBF p.ros=true
 rub:qB5 p.rub p.ros.length=true
theorem qAr {p:Prog} (h:qAJ p=0):BenchFacts p:=by
 obtain⟨c,l,m⟩:=qEq h;obtain⟨d,f,g,b,i⟩:=progB_iff.1 m;obtain⟨j,k,_⟩:=rosOk_iff.1 c;exact⟨j,k,d,f,g,b.1,b.2,i,c,l⟩
theorem BenchFacts.sum {p:Prog} (h:BenchFacts p) (k:Nat) (hk:k<=p.shifts.length):0<=qAw p.shifts k/\qAw p.shifts k<=1152:=
 qFY (qGU p.shifts p.ros.length h.sh k hk) h.ros1 (Nat.le_trans hk h.sh1)
theorem qHm {W:World} {B:Nat} {t:TypeId} {p:Prog} {v0 v1 v5 vl:Value} {k:Nat} (h:W.heap[B]? =some (.cells (qAq p v0 v1 v5 vl k) t)):
  W.cell? ⟨B,0,none⟩=some v0/\W.cell? ⟨B,1,none⟩=some v1/\W.cell? ⟨B,2,none⟩=some (.int .i64 p.start)/\W.cell? ⟨B,3,none⟩=some (.int .i64 p.throw)/\W.cell? ⟨B,4,none⟩=some (.int .i64 p.adv)/\W.cell? ⟨B,5,none⟩=some v5∧
  W.cell? ⟨B,6,none⟩=some vl/\W.cell? ⟨B,7,none⟩=some (.int .i64 p.ros.length)/\W.cell? ⟨B,8,none⟩=some (.int .i64 p.shifts.length)/\W.cell? ⟨B,9,none⟩=some (.int .i64 (qB1 (qAP p.ros p.rub))):=
 ⟨cell_of_row W B 0 _ _ _ h,cell_of_row W B 1 _ _ _ h,cell_of_row W B 2 _ _ _ h,cell_of_row W B 3 _ _ _ h,cell_of_row W B 4 _ _ _ h,cell_of_row W B 5 _ _ _ h,cell_of_row W B 6 _ _ _ h,cell_of_row W B 7 _ _ _ h,cell_of_row W B 8 _ _ _ h,cell_of_row W B 9 _ _ _ h⟩
theorem qL4 (j:Int) (n:Nat) (h1: -1000000<=j) (h2:j<=1000000) (hn:1<=n) (hn2:n<=12): -1000001<=j / (n:Int)/\j / (n:Int)<=1000001:=by
 obtain rfl|rfl|rfl|rfl|rfl|rfl|rfl|rfl|rfl|rfl|rfl|rfl:n=1∨n=2∨n=3∨n=4∨n=5∨n=6∨n=7∨n=8∨n=9∨n=10∨n=11∨n=12:=by omega
 all_goals omega
theorem qL5 (q S:Int) (h1: -1000001<=q) (h2:q<=1000001) (hS:0<=S/\S<=1152): -2000000000<=q*S/\q*S<=2000000000:=by
 have a:=Int.mul_le_mul_of_nonneg_right h2 hS.1;have b:=Int.mul_le_mul_of_nonneg_right h1 hS.1;omega
theorem qJ5 (j n:Int) (h:0<n):(j - j%n).tdiv n=j / n:=by
 have b:j - j%n=n*(j / n):=by have:=Int.emod_add_mul_ediv j n;omega
 rw[b,Int.mul_tdiv_cancel_left _ (by omega)]
theorem qEB (b:Nat) (p:Prog) (j:Int) (w:World) (hb:IsBench w b p) (hp:BenchFacts p) (h1: -1000000<=j) (h2:j<=1000000):
  Calls Tryz.prog 24 #[.pointer (some ⟨b,0,none⟩),.int .i64 j] w λe w'=>e= .returned (.int .i64 (qAS p j))/\∃n,w'=w.drewN n:=by
 obtain⟨V,X,Y,Z,o,_,_,_,_⟩:=hb;obtain⟨L,M,N,O,P,Q,R,A,T,U⟩:=qHm o;have t:=hp.ros0;have v:=hp.ros1;have x:=hp.sh0;have y:=hp.sh1;have c:=Int.emod_nonneg j (show(p.shifts.length:Int)≠0 by omega);have f:=Int.emod_lt_of_pos j (show(0:Int)<(p.shifts.length:Int)by omega);obtain⟨a,m⟩:∃a:Nat,j%(p.shifts.length:Int)=(a:Int):=⟨_,(Int.toNat_of_nonneg c).symm⟩;have hq:=qL4 j p.shifts.length h1 h2 x y;have k:=qJ5 j p.shifts.length (by omega);have z:=hp.sum p.shifts.length (Nat.le_refl _);have B:=hp.sum a (by omega);have i:=qL5 _ _ hq.1 hq.2 z;have h:=qCt o p.shifts.length (by omega);have g:=qCt o a (by omega);rw[show qBK p.shifts p.shifts.length p.shifts.length=qAw p.shifts p.shifts.length from if_pos (Nat.le_refl _)]at h;rw[show qBK p.shifts p.shifts.length a=qAw p.shifts a from if_pos (by omega)]at g;have d:qAS p j=(j / (p.shifts.length:Int)*qAw p.shifts p.shifts.length+qAw p.shifts a)%(p.ros.length:Int):=by unfold qAS;rw[m,Int.toNat_natCast]
 rw[d];rw[m]at c f k;have r:=hyd1 m;clear o d m;generalize qAw p.shifts p.shifts.length=S at z i h;generalize qAw p.shifts a=s at B g;generalize p.ros.length=n at t v A;generalize p.shifts.length=l at*;generalize hQ:j / (l:Int)=q at k hq i;clear hQ;have C:(a:Int)<13:=by omega
 have D:(l:Int)<13:=by omega
 have E:IntKind.i64.wrap (j - (a:Int))=j - a:=IntWalk.i64_in _ (by omega);have F:IntKind.i64.wrap q=q:=IntWalk.i64_in _ (by omega);have G:IntKind.i64.wrap (q*S)=q*S:=IntWalk.i64_in _ (by omega);have H:IntKind.i64.wrap (q*S+s)=q*S+s:=IntWalk.i64_in _ (by omega);have I:IntKind.i64.wrap (l:Int)=l:=IntWalk.i64_in _ (by omega);have J:IntKind.i64.wrap (a:Int)=a:=IntWalk.i64_in _ (by omega);go_enter Tryz.func24,Tryz.ntmps24;go_wp2_with (first | (go_at_call 23;refine(qBE _ _ _ (by omega) (by omega) (by unfold Mid;omega)).mono ?_;rintro e w' ⟨rfl,rfl⟩;rw[r.out]));go_quiet (first | (go_at_call 23;exact qBY (qBE _ _ _ (by omega) (by omega) (by unfold Mid;omega))));go_wp2;go_ret;exact⟨rfl,_,rfl⟩
theorem Box.prog {w:World} {B:Nat} {v0 v1 v2 v3 v4 v5:Value} {t:TypeId} {w1:World} (h:Box w B (.cells #[v0,v1,v2,v3,v4,v5] t) w1):
  w1.cell? ⟨B,0,none⟩=some v0/\w1.cell? ⟨B,1,none⟩=some v1/\w1.cell? ⟨B,2,none⟩=some v2/\w1.cell? ⟨B,3,none⟩=some v3/\w1.cell? ⟨B,4,none⟩=some v4/\w1.cell? ⟨B,5,none⟩=some v5:=qAx h.block
def onOk (E:Int) (l:List Int):List Int:=if E=0 then l else[]
theorem qL6 (l:List Int):onOk 0 l=l:=rfl
theorem qNg {E:Int} (h:E≠0) (l:List Int):onOk E l=[]:=if_neg h
end Go.Proofs.YtbcbcdgbliheoaaGreat

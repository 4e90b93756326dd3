/- qAZ laws of two programs together: the beat, as a list of differences without repeats. Layer 4: erase, same, Twin, SameProgram. The reference of layer 4: Twin. .. -/
import Derived.Test.YtbcbcdgbliheoaaGreatPk12
import Derived.Maps.OwnSet
import Derived.Maps.OwnIn
namespace Go.Proofs.YtbcbcdgbliheoaaGreat
set_option maxRecDepth 100000
set_option maxHeartbeats 4000000
open Go.RowKit
set_option linter.unusedVariables false
set_option linter.unusedSimpArgs false
def addI (acc:List Int) (x:Int):List Int:=if acc.any (λy=>y==x)then acc else acc++[x]
def qCH (p q:Prog):Nat:=Nat.gcd (per p) (per q)
def qBL (p q:Prog) (j:Nat):Int:=(qAS p j - qAS q j)%(qCH p q:Int)
def qO2 (p q:Prog) (k:Nat):List Int:=((List.range k).map (qBL p q)).foldl addI []
def qFr (p q:Prog):Nat:=p.shifts.length*q.shifts.length*qCH p q
def qEt (p q:Prog):Nat:=(qO2 p q (qFr p q)).length
def qCu (p q:Prog):Nat:=qAD p / Nat.gcd (qAD p) (qAD q)*qAD q
def qF3 (p q:Prog):Int:=if qAJ p≠0 then qAJ p else if qAJ q≠0 then qAJ q else if p.ros.length≠q.ros.length then 2 else 0
theorem qEE {p q:Prog} (hp:BenchFacts p) (hq:BenchFacts q):1<=qCH p q/\qCH p q<=96:=by
 have b:=qB2 hp;have c:=hp.ros1;have:=Nat.gcd_le_left (per q) b.1;exact⟨Nat.gcd_pos_of_pos_left _ b.1,by unfold qCH;omega⟩
theorem qK4 {p q:Prog} (hp:BenchFacts p) (hq:BenchFacts q):qFr p q<=13824/\p.shifts.length*q.shifts.length<=144:=by
 have h:=qEE hp hq;have b:p.shifts.length*q.shifts.length<=12*12:=Nat.mul_le_mul hp.sh1 hq.sh1;have c:qFr p q<=144*96:=Nat.mul_le_mul b h.2;omega
theorem qK5 {p q:Prog} (hp:BenchFacts p) (hq:BenchFacts q) (j:Nat):0<=qBL p q j/\qBL p q j<qCH p q:=by
 have h:=qEE hp hq;exact⟨Int.emod_nonneg _ (by omega),Int.emod_lt_of_pos _ (by omega)⟩
theorem qHU {p q:Prog} (hp:BenchFacts p) (hq:BenchFacts q):qAD p / Nat.gcd (qAD p) (qAD q)<=1152/\qCu p q<=2000000/\1<=Nat.gcd (qAD p) (qAD q)/\Nat.gcd (qAD p) (qAD q)<=1152:=by
 have b:=(qCo hp).2.2;have d:=(qCo hq).2.2;have c:qAD p / Nat.gcd (qAD p) (qAD q)<=1152:=Nat.le_trans (Nat.div_le_self _ _) b.2;have f:qCu p q<=1152*1152:=Nat.mul_le_mul c d.2;exact⟨c,by omega,Nat.gcd_pos_of_pos_left _ b.1,Nat.le_trans (Nat.gcd_le_left _ b.1) b.2⟩
def litI (x:Int):Lit:= .int .i64 x
theorem qJ9 (a b:Int):(litI a).sameKey (litI b)=(a==b):=by
 by_cases h:a=b
 ·subst h;rw[WideAt.sameKey_self (by unfold litI;trivial)];simp
 ·rw[Maps.sameKey_ne (by unfold litI;intro e;injection e with _ e;exact h e)];simp[h]
theorem qK6 (acc:List Int) (x:Int):Maps.addKey (acc.map litI) (litI x)=(addI acc x).map litI:=by
 unfold Maps.addKey addI
 have:(acc.map litI).any (λy=>y.sameKey (litI x))=acc.any (λy=>y==x):=by
  rw[List.any_map]
  congr 1
  funext y
  exact qJ9 y x
 rw[this]
 split<;>simp
theorem qLa (xs:List Int):∀acc:List Int,(xs.map litI).foldl Maps.addKey (acc.map litI)=(xs.foldl addI acc).map litI:=by
 induction xs with
 | nil=>intro acc;rfl
 | cons x xs ih=>intro acc;simp only[List.map_cons,List.foldl_cons];rw[qK6,ih]
theorem qLb {H:Type} (u:DataW H) (xs:List Int):Maps.size (Maps.setOf u (xs.map litI))=((xs.foldl addI []).length :Nat):=by
 rw[Maps.size_setOf u _ (λx b=>by
  obtain⟨y,_,rfl⟩:=List.mem_map.1 b
  unfold litI;trivial)]
 have:=qLa xs [];rw[List.map_nil]at this;rw[this,List.length_map]
structure Twins (w:World) (cs:Array Value) (z:Array Value) (W:World):Prop where
 below:Below w.heap.size w W
 size:w.heap.size+2<=W.heap.size
 box:W.heap[w.heap.size]? =some (.cells cs 27)
 out:W.heap[w.heap.size+1]? =some (.cells z 27)
theorem Twins.start (w:World) (cs z:Array Value):Twins w cs z ((w.alloc (.cells cs 27)).alloc (.cells z 27)):=
 ⟨alc2 _ _ _,by simp,(Below.heap_alloc _ _ _ (by simp)).trans (heap_alloc_new _ _),by have h:=heap_alloc_new (w.alloc (.cells cs 27)) (.cells z 27);rw[World.size_alloc]at h;exact h⟩
def qB4 (p:Prog) (s:Int) (k:Nat):List Int:=(List.range k).map λ(a:Nat)=>p.adv+p.throw*(atR (qAP p.ros p.rub) ((a:Int) - s) - atR (qAP p.ros p.rub) a)
def qAz (p:Prog) (k:Nat):List Int:=(p.shifts.take k).flatMap λs=>qB4 p s p.ros.length
def minL (a:Int) (l:List Int):Int:=l.foldl (λx y=>min x y) a
def gapI (p:Prog):Int:=minL 1099511627776 (qAz p p.shifts.length)
theorem qJa (p:Prog) (s:Int) (k:Nat):qB4 p s (k+1)=qB4 p s k++[p.adv+p.throw*(atR (qAP p.ros p.rub) ((k:Int) - s) - atR (qAP p.ros p.rub) k)]:=by
 unfold qB4;rw[List.range_succ];simp
theorem qFK (p:Prog) (s:Int) (k:Nat):(qB4 p s k).length =k:=by simp[qB4]
theorem qGN (p:Prog) (k:Nat) (h:k<p.shifts.length):qAz p (k+1)=qAz p k++qB4 p p.shifts[k] p.ros.length:=by
 unfold qAz;rw[List.take_succ_eq_append_getElem h,List.flatMap_append];simp
theorem qFL (p:Prog) (k:Nat) (h:k<=p.shifts.length):(qAz p k).length =k*p.ros.length:=by
 induction k with
 | zero=>simp[qAz]
 | succ k ih=>rw[qGN p k (by omega),List.length_append,ih (by omega),qFK,Nat.succ_mul]
theorem qLc (a:Int) (l:List Int) (x:Int):minL a (l++[x])=min (minL a l) x:=by simp[minL]
theorem qLd (a x:Int) (l:List Int):minL a (x::l)=minL (min a x) l:=rfl
theorem qIh (t x y:Int) (ht:1<=t/\t<=16) (hx:0<=x/\x<=10000) (hy:0<=y/\y<=10000): -160000<=t*(x - y)/\t*(x - y)<=160000:=by
 have b:=qFZ x t hx ht;have c:=qFZ y t hy ht;have:t*(x - y)=x*t - y*t:=by rw[Int.mul_sub,Int.mul_comm,Int.mul_comm t y]
 omega
theorem qLe {p:Prog} (hp:BenchFacts p):∀x∈qAz p p.shifts.length,-200000<=x/\x<=200000:=by
 intro x b;unfold qAz at b;rw[List.mem_flatMap]at b;obtain⟨s,_,b⟩:=b;unfold qB4 at b;rw[List.mem_map]at b;obtain⟨a,_,rfl⟩:=b;have c:=qDT hp.ros hp.rub;have d:=qIh p.throw _ _ hp.throw (qEm c ((a:Int) - s)) (qEm c a);have f:=hp.adv;omega
theorem qOI (v:Value) (x:Int) (xs:List Int) (w:World) (hv:Ints w v (x::xs)):
  Calls Tryz.prog 73 #[v] w λe w'=>e= .returned (.int .i64 (minL x xs))/\w=w':=by
 have E:=Lib.hid hv;obtain⟨A,c,rfl,s,r,_,t⟩:=hv;unfold maxLen at r;obtain⟨b,n,rfl,F,o⟩:=t (by simp);have C:w.cell? ⟨b,n,none⟩=some (.int .i64 x):=o 0 (by simp);have g:∀k (h:k<xs.length),w.cell? ⟨b,n+(k+1),none⟩=some (.int .i64 xs[k]):=λk h=>o (k+1) (Nat.succ_lt_succ h);have p:(x::xs).length =xs.length+1:=rfl;rw[p]at s ⊢;have H:(0:Int)<((xs.length+1:Nat):Int):=by omega
 have I:¬(((xs.length+1:Nat):Int)<1):=by omega
 have⟨j,B,D,z⟩:=hyd4 g o t p;clear p t o g;go_enter Tryz.func73,Tryz.ntmps73;go_wp2
 go_loop [4,3] (λi m=>∃k:Nat,k<=xs.length/\i= .int .i64 ((k+1:Nat):Int)/\m= .int .i64 (minL x (xs.take k))) (λi _=>xs.length+1 - (intOf i).toNat)
 case atStart=>exact⟨0,Nat.zero_le _,rfl,by simp[minL]⟩
 case round=>
  obtain⟨k,G,rfl,rfl⟩:=hrel
  by_cases l:k<xs.length
  ·have q:=j.out k l;have d:minL x (xs.take (k+1))=min (minL x (xs.take k)) xs[k]:=by rw[List.take_succ_eq_append_getElem l,qLc]
   generalize xs[k]=y at q d;generalize minL x (xs.take k)=m at d;have f:=hyd1 d;clear d;have J:((k+1:Nat):Int)<((xs.length+1:Nat):Int):=by omega
   have L:(0:Int)<=((k+1:Nat):Int):=by omega
   go_wp2
   go_round
   case rel=>exact⟨k+1,by omega,by go_num,by rw[f.out];show Value.int _ _=_;congr 1;first |rfl| (split<;>omega)|omega⟩
   case measure=>simp[intOf];omega
  ·obtain rfl:k=xs.length:=by omega
   rw[List.take_of_length_le (Nat.le_refl _)];go_wp2;go_ret;exact⟨rfl,rfl⟩
theorem qLf {f:List Int} {i:Int} {q:Nat} (hq:i%(f.length:Int)=(q:Int)) (hl:q<f.length):atR f i=f[q]:=by
 have b:atR f i=atR f (q:Int):=qDU _ _ _ (by rw[hq];exact(Int.emod_eq_of_lt (by omega) (by omega)).symm);rw[b,qC2 q hl]
attribute [local go_sem ↓] Go.wp_at_zero Go.wp_at_succ
theorem qNi {p:Prog} (hp:BenchFacts p) {y:Int} {ys:List Int} (h:qAz p p.shifts.length=y::ys):minL y ys=gapI p:=by
 unfold gapI;have b:=qLe hp;rw[h]at b ⊢;have:=b y (by simp);rw[qLd,show min 1099511627776 y=y by omega]
theorem qIN (v:Value) (p:Prog) (w:World) (hv:IsProg w v p) (hE:qAJ p=0):
  Calls Tryz.prog 45 #[v] w λe w'=>e= .returned (.tuple #[.int .i64 (gapI p),.int .i64 0])/\Below w.heap.size w w':=by
 have aN:=Lib.hid hv;obtain⟨v0,v1,v5,rfl,h0,h1,h5⟩:=hv;have a2:=hyd1 h5;obtain⟨A5,c5,rfl,bh,aH,_,_⟩:=id h5;unfold maxLen at aH;clear h0 h1 h5;have E:=qAr hE;have aK:=E.sh0;have bo:=E.sh1;have bn:=E.ros0;have aJ:=E.ros1;have aM:=E.throw;have aV:=E.adv;have J:=qDT E.ros E.rub;have Y:=(rosOk_iff.1 J).2.2;have U:=qAQ p.ros p.rub;have C:=qJa p;have P:=qGN p;have B:=qFL p
 obtain⟨y0,aR,af⟩:∃y ys,qAz p p.shifts.length=y::ys:=by
  have h:=qFL p p.shifts.length (Nat.le_refl _)
  cases hg:qAz p p.shifts.length with
  | nil=>rw[hg]at h;have:=Nat.mul_pos aK (show 0<p.ros.length by omega);simp at h;omega
  | cons y ys=>exact⟨y,ys,rfl⟩
 have ao:=Lib.hid (qNi E af);obtain⟨L,s⟩:∃L,qAP p.ros p.rub=L:=⟨_,rfl⟩;rw[s]at Y U J;simp only[s]at C;have⟨a4,ae,ac,aY,O,I,av⟩:=hyd7 hE C P J Y B af;clear af B Y J P C hE;go_enter Tryz.func45,Tryz.ntmps45;go_wp2_with (first | (go_at_call 21;((with_reducible refine(qAM _ p _ (aN.out.below (alc1 _ _)) 0 a4.out).mono ?_);rintro e w' ⟨vb,rfl,ak,-,au⟩;obtain⟨b,rfl,aA,j⟩:=au rfl;have m:=(Box.start w _).next ak;have t:=Lib.hid j;have n:=j.lt;obtain⟨p0,p1,p2,p3,p4,p5⟩:=m.prog;clear ak au aA j)));have N:=Lib.hid m.below;have am:=Lib.hid m.block;have Q:=m.lt;obtain⟨x5,xl,-,hl,-,-,-,-,c6,c7,-,-⟩:=t.out.cells;rw[s]at hl;obtain⟨lA,lc,rfl,aD,aF,-,-⟩:=id hl;rw[U]at c6 aD;unfold maxLen at aF;have⟨aT,an,ai,a0⟩:=hyd4 s hl c6 c7;clear c7 c6 hl s;clear p0 p1 p2 p3 p4 p5 m;obtain⟨D,ab⟩:∃D,w'.heap.size=D:=⟨_,rfl⟩;rw[ab]at n Q;have o:=hyd1 ab;clear ab;go_loopw [22,6] (λi l wr=>∃k:Nat,k<=p.shifts.length/\i= .int .i64 k/\Hid (Below D w' wr)/\D<=wr.heap.size/\Hid (wr.ownsRow D 3 1 l (qAz p k).length ((qAz p k).map vint))) (λi _ _=>p.shifts.length - (intOf i).toNat)
 case atStart=>exact⟨0,Nat.zero_le _,rfl,Lib.hid (Below.refl _ _),by rw[o.out];exact Nat.le_refl _,Lib.hid (World.ownsRow_nil _ _ _ _)⟩
 case round=>
  obtain⟨k,hk,rfl,d,r,c⟩:=hrel
  by_cases Z:k<p.shifts.length
  ·have hM:=Lib.hid (ac.out k Z);have aP:=E.sh k Z;obtain⟨sb,so,hA,aB,H⟩:=(a2.out.below N.out).look Z;subst hA;replace H:=(d.out.cell (p:=⟨sb,so+k,none⟩) (by rw[<-o.out];exact aB)).trans H;obtain⟨x,hx⟩:∃x,p.shifts[k]=x:=⟨_,rfl⟩;rw[hx]at aP hM H;have d6:=(d.out.cell (p:=⟨b,6,none⟩) n).trans ai.out;have aE:=I.out k hk;have bj:k*p.ros.length<=12*96:=Nat.mul_le_mul (by omega) aJ;have bp:=hyd1 hx;clear hx;go_wp2;rename World=>w0
   go_loopw [31,6] (λi l wi=>∃a:Nat,a<=p.ros.length/\i= .int .i64 a/\Hid (Below D w' wi)/\D<=wi.heap.size/\Hid (wi.ownsRow D 3 1 l (qAz p k++qB4 p x a).length ((qAz p k++qB4 p x a).map vint))) (λi _ _=>p.ros.length - (intOf i).toNat)
   case atStart=>exact⟨0,Nat.zero_le _,rfl,d,r,Lib.hid (by simpa[qB4]using c.out)⟩
   case round=>
    clear d r c H d6;obtain⟨a,ha,rfl,d,r,c⟩:=hrel
    by_cases bg:a<p.ros.length
    ·have V:a<L.length:=by omega
     obtain⟨lb,lo,hA,aa,X⟩:=an.out.look V;subst hA;have aI:=Int.emod_nonneg ((a:Int) - x) (show(p.ros.length:Int)≠0 by omega);have bm:=Int.emod_lt_of_pos ((a:Int) - x) (show(0:Int)<(p.ros.length:Int)by omega);obtain⟨q,hq⟩:∃q:Nat,((a:Int) - x)%(p.ros.length:Int)=(q:Int):=⟨_,(Int.toNat_of_nonneg aI).symm⟩;have ad:q<L.length:=by omega
     obtain⟨bq,br,R,ba,M⟩:=an.out.look ad;injection R with R;injection R with e1 e2;subst e1 e2;rw[o.out]at aa;have g:=ae.out x a;rw[qLf (f:=L) (i:=(a:Int) - x) (q:=q) (by rw[U];exact hq) ad,qC2 a V]at g;have aw:=O.out q ad;have ax:=O.out a V;have aG:=qFK p x a;replace X:=(d.out.cell (p:=⟨lb,lo+a,none⟩) aa).trans X;generalize L[q]=y at M g aw;generalize L[a]=z at X g ax;have bk:=qIh p.throw y z aM aw ax
     have A:∀W:World,Calls Tryz.prog 23 #[.int .i64 ((a:Int) - x),.int .i64 p.ros.length] W λe w'=>e= .returned (.int .i64 q)/\W=w':=λW=>by
      have h:=qBE ((a:Int) - x) p.ros.length W (by omega) (by omega) (by unfold Mid;omega);rw[hq]at h;exact h
     have hS:∀W,Below D w' W->W.cell? ⟨w.heap.size,3,none⟩=some (.int .i64 p.throw)/\W.cell? ⟨w.heap.size,4,none⟩=some (.int .i64 p.adv)/\W.cell? ⟨b,6,none⟩=some (.slice (some ⟨lb,lo,none⟩) p.ros.length lc)/\W.cell? ⟨b,7,none⟩=some (.int .i64 p.ros.length)/\W.cell? ⟨lb,lo+q,none⟩=some (.int .i64 y):=λW h=>by
      have e:=qAx ((h.block w.heap.size Q).trans am.out);exact⟨e.2.2.2.1,e.2.2.2.2.1,(h.cell (p:=⟨b,6,none⟩) n).trans ai.out,(h.cell (p:=⟨b,7,none⟩) n).trans a0.out,(h.cell (p:=⟨lb,lo+q,none⟩) aa).trans M⟩
     obtain⟨s1,s2,s3,s4,s5⟩:=hS wr d.out;have i3:(0:Int)<=(a:Int):=by omega
     have i4:(a:Int)<(p.ros.length:Int):=by omega
     have i5:(0:Int)<=(q:Int):=by omega
     have i6:(q:Int)<(p.ros.length:Int):=by omega
     have j1:IntKind.i64.wrap ((a:Int) - x)=(a:Int) - x:=IntWalk.i64_in _ (by omega);have j2:IntKind.i64.wrap (y - z)=y - z:=IntWalk.i64_in _ (by omega);have j3:IntKind.i64.wrap (p.throw*(y - z))=p.throw*(y - z):=IntWalk.i64_in _ (by omega);have j4:IntKind.i64.wrap (p.adv+p.throw*(y - z))=p.adv+p.throw*(y - z):=IntWalk.i64_in _ (by omega);have bb:w.heap.size<wr.heap.size:=by omega
     have aW:b<wr.heap.size:=by omega
     have aX:lb<wr.heap.size:=by omega
     have a5:(qAz p k++qB4 p x a).length <=2000:=by rw[List.length_append,aE,aG];omega
     have T:qAz p k++qB4 p x (a+1)=(qAz p k++qB4 p x a)++[p.adv+p.throw*(y - z)]:=by rw[g,List.append_assoc]
     generalize qAz p k++qB4 p x a=G at c a5 T;have⟨F,bl,aL,a9,aZ,aj⟩:=hyd6 A hq g hS M T;clear T M hS g hq A;go_wp2
     go_region_held3 (λw'=>w'.cell? ⟨w.heap.size,3,none⟩=some (.int .i64 p.throw)/\w'.cell? ⟨w.heap.size,4,none⟩=some (.int .i64 p.adv)/\w'.cell? ⟨b,6,none⟩=some (.slice (some ⟨lb,lo,none⟩) p.ros.length lc)/\w'.cell? ⟨b,7,none⟩=some (.int .i64 p.ros.length)/\w'.cell? ⟨lb,lo+q,none⟩=some (.int .i64 y)) (go_keep) (first | (go_at_call 23;refine(F.out _).mono ?_;rintro e w' ⟨rfl,rfl⟩)| (refine qHf rfl (.tmp 36) (.tmp 59) 22 (by rfl) D 3 qAc u6 G (by rfl) (c.out.alloc _) (.slice (some ⟨_,0,none⟩) 1 1) [p.adv+p.throw*(y - z)] (by rfl) (by first |exact qI2 _ _ _|exact qEi _ _ _) (by simp;omega) (by first |omega| (simp;omega)) ?_;intro v2 w2 aq al aC _;have S:Below D w' w2:=(by first |exact((d.out.alloc r _).drew).trans al|exact(d.out.alloc r _).trans al);obtain⟨t1,t2,t3,t4,t5⟩:=a9.out _ S;have ar:=Lib.hid aq;clear aq aC))
     have ap:=S.size;go_wp2;go_roundw
     case rel=>exact⟨a+1,by omega,by go_num,Lib.hid S,by rw[o.out]at ap;exact ap,Lib.hid (by rw[aj.out];simpa using ar.out)⟩
     case measure=>simp[intOf];omega
    ·obtain rfl:a=p.ros.length:=by omega
     go_wp2;go_roundw
     case rel=>exact⟨k+1,by omega,by go_num,d,r,Lib.hid (by rw[hM.out];exact c.out)⟩
     case measure=>simp[intOf];omega
  ·obtain rfl:k=p.shifts.length:=by omega
   have hI:=qCR c.out;rw[av.out]at hI;have a7:=hyd1 hI;clear hI c;go_wp2_with (first | (go_at_call 73;((with_reducible refine(qOI _ y0 aR _ a7.out).mono ?_);rintro e w' ⟨rfl,rfl⟩;rw[ao.out])));go_ret2;exact⟨rfl,N.out.trans (d.out.mono (by omega))⟩
theorem qK7 (v:Value) (p:Prog) (w:World) (hv:IsProg w v p) (E:Int) (hE:qAJ p=E):
  Calls Tryz.prog 45 #[v] w λe w'=>e= .returned (.tuple #[.int .i64 (qBG E (gapI p)),.int .i64 E])/\Below w.heap.size w w':=by
 by_cases b:E=0
 ·subst b;exact qIN v p w hv hE
 ·have i:=Lib.hid hv;obtain⟨n,o,q,rfl,j,k,l⟩:=hv;clear j k l;have m:(E != 0)=true:=by simpa using b
  rw[qB3 b];have⟨f,c⟩:=hyd2 hE b;clear b hE;go_enter Tryz.func45,Tryz.ntmps45;go_wp2_with (first | (go_at_call 21;((with_reducible refine(qAM _ p _ (i.out.below (alc1 _ _)) E f.out).mono ?_);rintro e w' ⟨r,rfl,g,d,-⟩;have h:=d c.out;subst h;clear d)));go_ret2;exact⟨rfl,((Box.start w _).next g).below⟩
end Go.Proofs.YtbcbcdgbliheoaaGreat
namespace Go.Proofs.YtbcbcdgbliheoaaGreat
set_option maxRecDepth 100000
set_option maxHeartbeats 4000000
open Go.RowKit
set_option linter.unusedVariables false
set_option linter.unusedSimpArgs false
theorem qGi {P:Program} {w:World} {o:Oper} {a:Act} {K:Act->World->Prop} {Q:Exit->Act->World->Prop} (t:TypeId) (d:Nat) (hd:o.dst=some d) (base:Nat) (e:TypeId) (hE:qAd P t e (.int .i64 0) 8)
  (n:Nat) (hn:n<=1000000000) (b4:base<=w.heap.size)
  (hK:∀w',w'.ownsRow base e 1 (.slice (some ⟨w.heap.size,0,none⟩) n n) n ((qAh n).map vint)->Below w.heap.size w w'->w.heap.size<w'.heap.size->K (a.put (some d) (.slice (some ⟨w.heap.size,0,none⟩) n n)) w'):
  Oper.upon P o a K Q (((Instr.makeSlice t (.int .i64 (n:Int)) (.int .i64 (n:Int))).run P w).andThen λa w'=>Result.ok (Next.value a) w'):=by
 obtain⟨r,q,v⟩:=hE;obtain⟨i,f,s,j,c⟩:=info_parts q;obtain⟨w',b,l,p⟩:=run_make_full (P:=P) w base t e i (.int .i64 0) 1 r f s j .i64 .i64 n (by rw[c];omega) (by unfold maxLen;omega) b4;rw[b];show K (a.put o.dst _) w';rw[hd];refine hK w' ?_ ((Below.refl _ _).grown p (Nat.le_refl _) (by simp)) ((l.lt w.heap.size rfl).2)
 rcases l.2 with⟨h,_⟩| ⟨g,cap,cur,hv,hb,hh,hnc,hcm,hs,htake⟩
 ·simp at h
 ·refine⟨by simp[qAh],.inr ⟨g,cap,cur,hv,hb,hh,hnc,hcm,hs,?_⟩⟩;rw[htake];apply List.ext_getElem?;intro k;simp[qAh,madeCells,Value.cells,List.getElem?_replicate]
  by_cases m:k<n
  ·simp[m,Nat.mod_one]
  ·simp[m]
def hgtL (p:Prog):List Int:=(qAP p.ros p.rub).map (p.throw* ·)
def ovrL (p:Prog):List Int:=(List.range (qAP p.ros p.rub).length).map λ(i:Nat)=>p.throw*atR (qAP p.ros p.rub) (-(i:Int))
def offF (p:Prog) (m:Bool):List Int:=if m then ovrL p else hgtL p
def qEF (p q:Prog) (m:Bool) (s:Nat):Bool:=qAv (offF p m) s==hgtL q
def offN (p q:Prog) (m:Bool):Option Nat:=(List.range p.ros.length).find? (qEF p q m)
def offV (p q:Prog) (m:Bool):Nat:=match offN p q m with |some s=>s%per p|none=>0
def offB (p q:Prog) (m:Bool):Bool:=(offN p q m).isSome
def qBj (F:List Int) (k:Nat):List Int:=F.take k++qAh (F.length - k)
theorem qHn (F:List Int):qBj F 0=qAh F.length:=by simp[qBj]
theorem qIi (F:List Int):qBj F F.length=F:=by simp[qBj,qAh]
theorem qD2 (F:List Int) (k:Nat) (h:k<=F.length):(qBj F k).length =F.length:=by simp[qBj,qII];omega
theorem qGW (F:List Int) (k:Nat) (h:k<F.length):(qBj F k).set k F[k]=qBj F (k+1):=by
 unfold qBj qAh;rw[List.set_append_right _ _ (by simp;omega)];have b:F.length - k=(F.length - (k+1))+1:=by omega
 rw[b,List.replicate_succ,List.length_take,Nat.min_eq_left (by omega),Nat.sub_self,List.set_cons_zero,List.take_succ_eq_append_getElem h,List.append_assoc]
 rfl
theorem qLg (F:List Int) (k:Nat) (x:Int) (h:k<F.length):((qBj F k).set k x).set k F[k]=qBj F (k+1):=by rw[List.set_set,qGW F k h]
theorem qIj (F:List Int) (k:Nat) (h:k<F.length):(qBj F k)[k]? =some 0:=by
 unfold qBj qAh;rw[List.getElem?_append_right (by simp;omega)];simp[List.getElem?_replicate];omega
theorem qGj (p:Prog):(hgtL p).length =p.ros.length:=by simp[hgtL,qAQ]
theorem qK8 (p:Prog):(ovrL p).length =p.ros.length:=by simp[ovrL,qAQ]
theorem qJb (p:Prog) (m:Bool):(offF p m).length =p.ros.length:=by unfold offF;split<;>simp[qGj,qK8]
structure OffSt (B0 gf gg n:Nat) (w W:World) (L1 L2:List Int):Prop where
 below:Below B0 w W
 size:B0<=W.heap.size
 f:W.ownsRow B0 3 1 (.slice (some ⟨gf,0,none⟩) n n) n (L1.map vint)
 g:W.ownsRow B0 3 1 (.slice (some ⟨gg,0,none⟩) n n) n (L2.map vint)
theorem OffSt.setF {B0 gf gg n:Nat} {w W:World} {L1 L2:List Int} (h:OffSt B0 gf gg n w W L1 L2) (hne:gf≠gg) (hf:B0<=gf) (k:Nat) (x:Int):OffSt B0 gf gg n w (W.setCell ⟨gf,k,none⟩ (.int .i64 x)) (L1.set k x) L2:=
 ⟨h.below.setCell (p:=⟨gf,k,none⟩) hf _,by simpa[World.setCell]using h.size,qHT h.f k x,ownsRow_setCell_other h.g (by simp[Value.ownBlock];omega) _⟩
theorem OffSt.setG {B0 gf gg n:Nat} {w W:World} {L1 L2:List Int} (h:OffSt B0 gf gg n w W L1 L2) (hne:gf≠gg) (hg:B0<=gg) (k:Nat) (x:Int):OffSt B0 gf gg n w (W.setCell ⟨gg,k,none⟩ (.int .i64 x)) L1 (L2.set k x):=
 ⟨h.below.setCell (p:=⟨gg,k,none⟩) hg _,by simpa[World.setCell]using h.size,ownsRow_setCell_other h.f (by simp[Value.ownBlock];omega) _,qHT h.g k x⟩
theorem OffSt.next {B0 gf gg n:Nat} {w W W2:World} {L1 L2:List Int} (h:OffSt B0 gf gg n w W L1 L2) (hb:Below W.heap.size W W2):OffSt B0 gf gg n w W2 L1 L2:=
 ⟨h.below.trans (hb.mono h.size),Nat.le_trans h.size hb.size,qAN h.f hb,qAN h.g hb⟩
theorem OffSt.drewN {B0 gf gg n:Nat} {w W:World} {L1 L2:List Int} (h:OffSt B0 gf gg n w W L1 L2) (k:Nat):OffSt B0 gf gg n w (W.drewN k) L1 L2:=h.next (Below.of_drewN _ _)
theorem qNj (p:Prog) (m:Bool) (k:Nat) (h:k<(offF p m).length) (h2:k<(qAP p.ros p.rub).length):(offF p m)[k]=p.throw*(if m then atR (qAP p.ros p.rub) (-(k:Int))else(qAP p.ros p.rub)[k]):=by
 cases m with
 | true=>simp[offF,ovrL]
 | false=>simp[offF,hgtL]
theorem qOJ (p:Prog) (k:Nat) (h:k<(hgtL p).length) (h2:k<(qAP p.ros p.rub).length):(hgtL p)[k]=p.throw*(qAP p.ros p.rub)[k]:=by simp[hgtL]
theorem qNk {p q:Prog} {m:Bool} {k:Nat} (hk:k<p.ros.length) (h:qEF p q m k=true) (hn:∀j,j<k->qEF p q m j=false):offN p q m=some k:=by
 unfold offN;rw[List.find?_range_eq_some];exact⟨h,by simpa using hk,λj b=>by simp[hn j b]⟩
theorem qMf {p q:Prog} {m:Bool} (hn:∀j,j<p.ros.length->qEF p q m j=false):offN p q m=none:=by
 unfold offN;rw[List.find?_eq_none];intro x b;simp[hn x (by simpa using b)]
theorem qHV (t x:Int) (ht:1<=t/\t<=16) (hx:0<=x/\x<=10000):0<=t*x/\t*x<=160000:=by
 have b:0<=t*x:=Int.mul_nonneg (by omega) hx.1;have c:t*x<=16*x:=Int.mul_le_mul_of_nonneg_right ht.2 hx.1;omega
theorem qLh (b c:Nat) (p q:Prog) (m:Bool) (w:World) (hb:IsBench w b p) (hc:IsBench w c q) (hp:BenchFacts p) (hq:BenchFacts q) (hlen:p.ros.length=q.ros.length):
  Calls Tryz.prog 55 #[.pointer (some ⟨b,0,none⟩),.pointer (some ⟨c,0,none⟩),.bool m] w λe w'=>e= .returned (.tuple #[.int .i64 (offV p q m:Nat),.bool (offB p q m)])/\Below w.heap.size w w':=by
 have hB:=Lib.hid hb;have hC:=Lib.hid hc;have T:=hb.lt;have ac:=hc.lt;obtain⟨_,vl,-,bL,-,c3,-,-,c6,Q,-,Y⟩:=hb.cells;obtain⟨_,vm,-,bM,-,d3,-,-,d6,d7,-,d9⟩:=hc.cells;clear hb hc;replace Y:w.cell? ⟨b,9,none⟩=some (.int .i64 (per p)):=Y;have cL:=hp.ros1;have cN:=hp.ros0;have bJ:=hp.throw;have bK:=hq.throw;have bj:=qDT hp.ros hp.rub;have bB:=(rosOk_iff.1 bj).2.2;have aw:=qDT hq.ros hq.rub;have aS:=(rosOk_iff.1 aw).2.2;have b1:=qAQ p.ros p.rub;have b2:=qAQ q.ros q.rub;have bx:=qJb p m;have bc:=qGj q;have bw:=qNj p m;have bz:=qOJ q;have b9:=λk=>@qNk p q m k;have aW:=@qMf p q m;have b7:∀s,qEF p q m s=(qAv (offF p m) s==hgtL q):=λs=>rfl;have bH:=qB2 hp;rw[<-hlen]at d7 b2 bc;generalize hn:p.ros.length=n at*;generalize hLe:qAP p.ros p.rub=L at*;generalize hMe:qAP q.ros q.rub=M at*;obtain⟨la,lo,lc,rfl,bX,bY,ca,bC⟩:=Ints.cells bL (by omega);obtain⟨ma,mo,mc,rfl,cc,cd,ce,bG⟩:=Ints.cells bM (by omega);rw[b1]at c6 bY;rw[b2]at d6 cd;unfold maxLen at ca ce;generalize hFe:offF p m=F at*;generalize hGe:hgtL q=G at*;generalize hNp:per p=Np at*
 have ai:∀W,Below w.heap.size w W->(W.cell? ⟨b,3,none⟩=some (.int .i64 p.throw)/\W.cell? ⟨b,6,none⟩=some (.slice (some ⟨la,lo,none⟩) n lc)/\W.cell? ⟨b,7,none⟩=some (.int .i64 n)/\W.cell? ⟨b,9,none⟩=some (.int .i64 Np))/\(W.cell? ⟨c,3,none⟩=some (.int .i64 q.throw)/\W.cell? ⟨c,6,none⟩=some (.slice (some ⟨ma,mo,none⟩) n mc)/\W.cell? ⟨c,7,none⟩=some (.int .i64 n)):=λW h=>
  ⟨⟨(h.cell (p:=⟨b,3,none⟩) T).trans c3,(h.cell (p:=⟨b,6,none⟩) T).trans c6,(h.cell (p:=⟨b,7,none⟩) T).trans Q,(h.cell (p:=⟨b,9,none⟩) T).trans Y⟩,⟨(h.cell (p:=⟨c,3,none⟩) ac).trans d3,(h.cell (p:=⟨c,6,none⟩) ac).trans d6,(h.cell (p:=⟨c,7,none⟩) ac).trans d7⟩⟩
 have aT:∀W,Below w.heap.size w W->∀k (hk:k<L.length),W.cell? ⟨la,lo+k,none⟩=some (.int .i64 L[k]):=λW h k hk=>(h.cell (p:=⟨la,lo+k,none⟩) bX).trans (bC k hk);have aV:∀W,Below w.heap.size w W->∀k (hk:k<M.length),W.cell? ⟨ma,mo+k,none⟩=some (.int .i64 M[k]):=λW h k hk=>(h.cell (p:=⟨ma,mo+k,none⟩) cc).trans (bG k hk);clear c3 c6 Y d3 d6 bC bG bL bM;have⟨cJ,bZ,cy,cz,cw,cx,b3,U⟩:=hyd8 hn hlen hLe hMe hFe hGe hNp ai;have⟨au,ax,c4,aq,cb,ar,o,R⟩:=hyd8 aT aV bj bB aw aS bx bc;have⟨aJ,aK,bA,br,b8,bI⟩:=hyd6 bw bz b9 aW b7 bH;clear bH b7 aW b9 bz bw bc bx aS aw bB bj aV aT ai hNp hGe hFe hMe hLe hlen hn;go_enter Tryz.func55,Tryz.ntmps55;go_wp2
 go_region_held3 (λw'=>w'.cell? ⟨b,7,none⟩=some (.int .i64 n)/\w'.cell? ⟨c,7,none⟩=some (.int .i64 n)) (first |go_keep| (refine⟨?_,?_⟩<;>(go_split_ands;first |exact(aa.cell (p:=⟨b,7,none⟩) (by first |exact T| (show b<_;omega))).trans (by assumption)|exact(aa.cell (p:=⟨c,7,none⟩) (by first |exact ac| (show c<_;omega))).trans (by assumption)|exact(ab.cell (p:=⟨b,7,none⟩) (by first |exact T| (show b<_;omega))).trans (by assumption)|exact(ab.cell (p:=⟨c,7,none⟩) (by first |exact ac| (show c<_;omega))).trans (by assumption)))) (first | (refine qGi 22 19 (by rfl) w.heap.size 3 qAc n (by omega) (by first |omega| (simp;done)| (simp;omega)) ?_;intro wf af aa bh;have aQ:w.heap.size<wf.heap.size:=(by first |omega| (simp at bh;omega)))| (refine qGi 22 24 (by rfl) w.heap.size 3 qAc n (by omega) (by first |omega| (simp;done)| (simp;omega)) ?_;intro wg ag ab bi;have aR:w.heap.size<wg.heap.size:=(by first |omega| (simp at bi;omega))))
 all_goals
  obtain⟨I,z⟩:∃B,B=w.heap.size:=⟨_,rfl⟩;rename_i hHeld;clear hHeld
  first
  | (
    have aZ:Below I w wg:=by rw[z];exact(((Below.refl w.heap.size w).drew).trans aa).trans (ab.mono (by omega))
    have a0:wg.ownsRow I 3 1 (.slice (some ⟨w.heap.size,0,none⟩) n n) n ((qAh n).map vint):=by rw[z];exact qAN (show wf.ownsRow w.heap.size 3 1 (.slice (some ⟨w.heap.size,0,none⟩) n n) n ((qAh n).map vint)from af) ab
    have a1:wg.ownsRow I 3 1 (.slice (some ⟨wf.heap.size,0,none⟩) n n) n ((qAh n).map vint):=by rw[z];exact ag
    have ap:w.heap.size≠wf.heap.size:=by omega
    have aB:I<=w.heap.size:=by omega
    have b6:I<=wf.heap.size:=by omega
    have bq:I<=wg.heap.size:=by omega
    rw[<-z]at T ac;clear af aa bh aQ ag ab bi aR;generalize wf.heap.size=gg at*;generalize hgf:w.heap.size=gf at*
    generalize wg=W0 at*)
  | (
    have aZ:Below I w wf:=by rw[z];exact(((Below.refl w.heap.size w).drew).trans ab).trans (aa.mono (by omega))
    have a0:wf.ownsRow I 3 1 (.slice (some ⟨wg.heap.size,0,none⟩) n n) n ((qAh n).map vint):=by rw[z];exact af
    have a1:wf.ownsRow I 3 1 (.slice (some ⟨w.heap.size,0,none⟩) n n) n ((qAh n).map vint):=by rw[z];exact qAN (show wg.ownsRow w.heap.size 3 1 (.slice (some ⟨w.heap.size,0,none⟩) n n) n ((qAh n).map vint)from ag) aa
    have ap:wg.heap.size≠w.heap.size:=by omega
    have aB:I<=wg.heap.size:=by omega
    have b6:I<=w.heap.size:=by omega
    have bq:I<=wf.heap.size:=by omega
    rw[<-z]at T ac;clear af aa bh aQ ag ab bi aR;generalize wg.heap.size=gf at*;generalize hgf:w.heap.size=gg at*
    generalize wf=W0 at*)
  have d:OffSt I gf gg n w W0 (qAh n) (qAh n):=⟨aZ,bq,a0,a1⟩;clear aZ a0 a1 bq;have D:∀W,Below I w W->_:=λW h=>U.out W (by rw[<-z];exact h);have av:∀W,Below I w W->_:=λW h=>au.out W (by rw[<-z];exact h);have ay:∀W,Below I w W->_:=λW h=>ax.out W (by rw[<-z];exact h);clear U Q d7 au ax;obtain⟨⟨c3,c6,Q,Y⟩,⟨d3,d6,d7⟩⟩:=D _ d.below;have⟨aP,l,P,aj,aH⟩:=hyd5 hgf D av ay z;clear z ay av D hgf;clear c3 Y d3 d6 d7;go_wp2;clear c6 Q;go_loopw [30] (λi wr=>∃k:Nat,k<=n/\i= .int .i64 k/\Hid (OffSt I gf gg n w wr (qBj F k) (qAh n))) (λi _=>n - (intOf i).toNat)
  case atStart=>exact⟨0,Nat.zero_le _,rfl,Lib.hid (by rw[qHn,o.out];exact d)⟩
  case round=>
   clear d;obtain⟨k,hk,rfl,d⟩:=hrel;obtain⟨⟨c3,c6,Q,Y⟩,⟨d3,d6,d7⟩⟩:=l.out _ d.out.below;clear Y
   by_cases bE:k<n
   ·have ad:k<L.length:=by omega
    have O:k<F.length:=by rw[o.out];exact bE
    have v:=aJ.out k O ad;have N:=qGW F k O;have aC:=λx=>qLg F k x O;have ck:=P.out _ d.out.below k ad;have gk:=qEl d.out.f (by rw[qD2 F k (by omega),o.out]) (qIj F k O);have aX:=d.out.f.frozenAt k;have hx:=aq.out k ad;have aE:=qHV p.throw L[k] bJ hx;have i3:(0:Int)<=(k:Int):=by omega
    have i4:(k:Int)<(n:Int):=by omega
    clear d3 d6 d7 Q
    cases m with
    | false=>
     simp only[Bool.false_eq_true,if_false]at v;generalize L[k]=x at hx aE v ck;have E:=d.out.setF ap aB k (p.throw*x);rw[<-v,N]at E;have⟨aN,aO,J,ah⟩:=hyd4 N aC v E;clear E v aC N;go_wp2;go_roundw
     case rel=>exact⟨k+1,by omega,by go_num,Lib.hid (by rw[<-J.out];exact ah.out)⟩
     case measure=>simp[intOf];omega
    | true=>
     simp only[if_true]at v;have a2:=d.out.setF ap aB k (p.throw*L[k]);have cg:=Int.emod_nonneg (-(k:Int)) (show(n:Int)≠0 by omega);have cM:=Int.emod_lt_of_pos (-(k:Int)) (show(0:Int)<(n:Int)by omega);obtain⟨r,hr⟩:∃r:Nat,(-(k:Int))%(n:Int)=(r:Int):=⟨_,(Int.toNat_of_nonneg cg).symm⟩;have bm:r<L.length:=by omega
     rw[qLf (f:=L) (i:= -(k:Int)) (q:=r) (by rw[b1];exact hr) bm]at v;have bO:=aq.out r bm;have cf:=qHV p.throw L[r] bJ bO;generalize L[k]=x at hx aE ck a2
     have ao:∀W:World,Calls Tryz.prog 23 #[.int .i64 (-(k:Int)),.int .i64 n] W λe w'=>e= .returned (.int .i64 r)/\W=w':=λW=>by
      have h:=qBE (-(k:Int)) n W (by omega) (by omega) (by unfold Mid;omega);rw[hr]at h;exact h
     have bk:=λW h=>P.out W h r bm;generalize L[r]=y at v bO cf bk;have⟨aN,aO,J,bn,aA,ch,bD⟩:=hyd7 N aC v a2 ao hr bk;clear bk hr ao a2 v aC N;go_wp2;have A:=bn.out;have ae:((qBj F k).set k (p.throw*x)).length =n:=by rw[List.length_set,qD2 F k (by omega),o.out]
     have gk:=qEl A.f ae (x:=p.throw*x) (by rw[List.getElem?_set_self (by rw[qD2 F k (by omega)];exact O)]);have aX:=A.f.frozenAt k;have V:=λnq=>(A.drewN nq).setF ap aB k (p.throw*y);rw[<-J.out]at V;simp only[aO.out]at V;obtain⟨⟨c3,c6,Q,-⟩,-⟩:=l.out _ A.below;have cr:=bD.out _ A.below;have i5:(0:Int)<=(r:Int):=by omega
     have i6:(r:Int)<(n:Int):=by have:=ch.out;omega
     have j1:IntKind.i64.wrap (-(k:Int))= -(k:Int):=IntWalk.i64_in _ (by omega);generalize wr.setCell ⟨gf,k,none⟩ (.int .i64 (p.throw*x))=W1 at A gk aX V c3 c6 Q cr ⊢;have⟨cj,bo,bS⟩:=hyd3 A V ae;clear ae V A;refine qDB 22 (by kernel_rfl) (by kernel_rfl) ?_;simp only[List.take_succ_cons,List.take_zero,List.drop_succ_cons,List.drop_zero]
     repeat (go_big_quiet_step (first | (go_at_call 23;exact qBY (aA.out _))))
     refine wpQuiet_nil ?_;intro _ cl;obtain⟨nq,bN⟩:=cl;subst bN;go_wp2;go_roundw
     case rel=>exact⟨k+1,by omega,by go_num,Lib.hid (by have h:=bo.out nq;rw[J.out]at h;exact h)⟩
     case measure=>simp[intOf];omega
   ·obtain rfl:k=n:=by omega
    have e1:=qIi F;rw[o.out]at e1;rw[e1]at d;clear e1 c3 c6 Q d3 d7;clear aJ P aq;go_wp2;clear d6;go_loopw [74] (λi wr=>∃j:Nat,j<=k/\i= .int .i64 j/\Hid (OffSt I gf gg k w wr F (qBj G j))) (λi _=>k - (intOf i).toNat)
    case atStart=>exact⟨0,Nat.zero_le _,rfl,Lib.hid (by rw[qHn,R.out];exact d.out)⟩
    case round=>
     clear d;obtain⟨j,hj,rfl,d⟩:=hrel;obtain⟨⟨c3,c6,Q,Y⟩,⟨d3,d6,d7⟩⟩:=l.out _ d.out.below
     by_cases aU:j<k
     ·have ad:j<M.length:=by omega
      have O:j<G.length:=by rw[R.out];exact aU
      have v:=aK.out j O ad;have N:=qGW G j O;have ck:=aj.out _ d.out.below j ad;have gk:=qEl d.out.g (by rw[qD2 G j (by omega),R.out]) (qIj G j O);have aX:=d.out.g.frozenAt j;have hx:=ar.out j ad;have aE:=qHV q.throw M[j] bK hx;have i3:(0:Int)<=(j:Int):=by omega
      have i4:(j:Int)<(k:Int):=by omega
      clear c3 c6 Q Y d7;generalize M[j]=x at hx aE v ck;have E:=d.out.setG ap b6 j (q.throw*x);rw[<-v,N]at E;have⟨aN,J,ah⟩:=hyd3 N v E;clear E v N;go_wp2;go_roundw
      case rel=>exact⟨j+1,by omega,by go_num,Lib.hid (by rw[<-J.out];exact ah.out)⟩
      case measure=>simp[intOf];omega
     ·obtain rfl:j=k:=by omega
      have e1:=qIi G;rw[R.out]at e1;rw[e1]at d;clear e1 c3 c6 Y d3 d6 d7 bE aU hk hj;clear aK aj ar;go_wp2;clear Q;go_loopw [94] (λi wr=>∃s:Nat,s<=j/\i= .int .i64 s/\Hid (OffSt I gf gg j w wr F G)/\Hid (∀t,t<s->qEF p q m t=false)) (λi _=>j - (intOf i).toNat)
      case atStart=>exact⟨0,Nat.zero_le _,rfl,d,Lib.hid (λt h=>absurd h (Nat.not_lt_zero _))⟩
      case round=>
       clear d;obtain⟨s,hs,rfl,d,bl⟩:=hrel;obtain⟨⟨-,-,Q,Y⟩,-⟩:=l.out _ d.out.below
       by_cases bF:s<j
       ·obtain⟨C,bf⟩:∃C:Nat,(j:Int) - (s:Int)=(C:Int):=⟨j - s,by omega⟩;have aD:C<=j:=by omega
        have bg:j - s=C:=by omega
        have af:wr.ownsRow I 3 1 (.slice (some ⟨gf,0,none⟩) F.length j) F.length (F.map vint):=by rw[o.out];exact d.out.f
        have ag:wr.ownsRow I 3 1 (.slice (some ⟨gg,0,none⟩) j j) G.length (G.map vint):=by rw[R.out];exact d.out.g
        have bb:Ints wr (.slice (some ⟨gf,0,none⟩) F.length j) F:=qCR af;have b0:Ints wr (.slice (some ⟨gg,0,none⟩) j j) G:=qCR ag;have r1:=λW=>qD7 (qAc:qAd Tryz.prog 22 3 (.int .i64 0) 8) (some ⟨gf,0,none⟩) j j C aD W;have r2:=λW=>qBt (qAc:qAd Tryz.prog 22 3 (.int .i64 0) 8) (some ⟨gf,0,none⟩) j j C aD W;have a8:=bb.cut C F.length (by rw[o.out];exact aD) (Nat.le_refl _);have aY:=bb.cut 0 C (Nat.zero_le _) (by rw[o.out];exact aD)
        have e0:cutA (some ⟨gf,0,none⟩) j 0=some ⟨gf,0,none⟩:=by
         unfold cutA
         split
         ·rfl
         ·simp[Addr.add]
        rw[e0,Nat.sub_zero,Nat.sub_zero,List.drop_zero]at aY;have e1:(F.drop C).take (F.length - C)=F.drop C:=List.take_of_length_le (by simp);rw[e1,o.out]at a8;have aG:qAv F s=[F.drop C,F.take C].flatten :=by simp[qAv,o.out,bg]
        have bp:(qAv F s).length <=1000000:=by rw[qEA,o.out];omega
        generalize hX:cutA (some ⟨gf,0,none⟩) j C=X at r1 a8
        have b4:∀(v2:Value) (W:World),Arr id W v2 [.slice X (j - C) (j - C),.slice (some ⟨gf,0,none⟩) C j]->Below wr.heap.size wr W->Calls Tryz.prog 79 #[v2] W λe w'=>∃v',e= .returned v'/\Below W.heap.size W w'/\Hid (Ints w' v' (qAv F s)):=by
         intro v2 W h1 hb;refine(qHh v2 _ [F.drop C,F.take C] W h1 rfl (λa h h'=>?_) (by rw[<-aG];exact bp) (by simp)).mono ?_
         ·match a,h,h' with
          | 0,_,_=>exact a8.below hb
          | 1,_,_=>exact aY.below hb
         ·rintro e w9 ⟨v9,rfl,h8,h9⟩;exact⟨v9,rfl,h8,by rw[aG];exact Arr.of_own h9⟩
        obtain⟨Bv,ba⟩:∃B,qEF p q m s=B:=⟨_,rfl⟩
        have b5:∀(v1:Value) (W:World),Hid (Ints W v1 (qAv F s))->Below wr.heap.size wr W->Calls Tryz.prog 34 #[v1,.slice (some ⟨gg,0,none⟩) j j] W λe w'=>e= .returned (.bool Bv)/\∃n,w'=W.drewN n:=by
         intro v1 W h1 hb;have h:=qEj v1 _ (qAv F s) G W h1.out (b0.below hb);rw[<-b8.out s,ba]at h;exact h
        have cm:IntKind.i64.wrap (C:Int)=(C:Int):=IntWalk.i64_in _ (by omega);have cn:IntKind.i64.wrap ((j:Int) - (s:Int))=(C:Int):=by rw[bf];exact IntWalk.i64_in _ (by omega)
        have i1:(0:Int)<=(C:Int):=by omega
        have i2:(C:Int)<=(j:Int):=by omega
        have bW:b<wr.heap.size:=by have:=d.out.size;omega
        clear a8 aY e0 e1 hX af ag bb b0;have⟨aL,aM,c5,c8,c1,c2,aI⟩:=hyd7 b4 b5 aG bp bf bg ba;clear ba bg bf bp aG b5 b4;go_wp2
        go_region_held3 (λw'=>w'.cell? ⟨b,7,none⟩=some (.int .i64 j)) (first |go_keep|exact(a9.cell (p:=⟨b,7,none⟩) bW).trans Q) (first | (go_at_call 79;refine(aL.out _ _ (qKB _ _ _ _) (by first |exact(alc1 _ _).drew)).mono ?_;rintro e w1 ⟨v1,rfl,h1,h2⟩;have a9:Below wr.heap.size wr w1:=(alc1 _ _).drew.trans (h1.mono (by simp)))| (go_at_call 34;refine(aM.out _ _ h2 a9).mono ?_;rintro e w2 ⟨rfl,nd,rfl⟩))
        have H:=(d.out.next a9).drewN nd;rename_i hHeld;clear hHeld;obtain⟨⟨-,-,Q,Y⟩,-⟩:=l.out _ H.below;generalize w1.drewN nd=W5 at H Q Y ⊢;clear h1 h2 a9 r1 r2 cn cm i1 i2 aL aM d;have cK:=bI.out
        cases Bv with
        | true=>
         have hh:=bA.out s bF aI.out bl.out;have e1:(s:Int).tmod (Np:Int)=((s%Np:Nat):Int):=rfl;have e2:((Np:Int)==0)=false:=beq_eq_false_iff_ne.2 (by omega);have ci:s%Np<Np:=Nat.mod_lt _ (by omega);have S:=H.below;have bd:s%Np=offV p q m:=by unfold offV;rw[hh];show s%Np=s%per p;rw[b3.out]
         have bu:offB p q m=true:=by unfold offB;rw[hh];rfl
         rw[bd]at e1 ci;have j1:IntKind.i64.wrap (offV p q m:Int)=(offV p q m:Int):=IntWalk.i64_in _ (by omega);have⟨cH,Z,c0,a3,bv⟩:=hyd5 hh S bd H bu;clear bu H bd S hh;clear Q;go_wp2;go_ret2;exact⟨by rw[bv.out];rfl,by rw[aP.out,<-aH.out];exact Z.out⟩
        | false=>
         clear Q Y;have a3:=hyd1 H;clear H;go_wp2;go_roundw
         case rel=>exact⟨s+1,by omega,by go_num,a3,Lib.hid (λt h=>by
          by_cases e:t=s
          ·subst e;exact aI.out
          ·exact bl.out t (by omega))⟩
         case measure=>simp[intOf];omega
       ·obtain rfl:s=j:=by omega
        have az:=br.out (λt h=>bl.out t h);have S:=d.out.below;have⟨aF,Z⟩:=hyd2 az S;clear S az;go_wp2;go_ret2;exact⟨by unfold offV offB;rw[aF.out];rfl,by rw[aP.out,<-aH.out];exact Z.out⟩
end Go.Proofs.YtbcbcdgbliheoaaGreat

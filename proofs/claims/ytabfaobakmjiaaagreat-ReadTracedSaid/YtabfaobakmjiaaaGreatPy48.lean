/- barleycornref01: Power. barleycornref01: AddTurn, MulTurn. barleycornref01: DivTurn. barleycornref01: Circled, Around. barleycornref02.at: the place of a path .. -/
import Derived.Test.YtabfaobakmjiaaaGreatPy47
import Derived.Test.YtabfaobakmjiaaaGreatPy08
import Derived.Lib.MinMax
namespace Go.Proofs.YtabfaobakmjiaaaGreat
set_option maxRecDepth 100000
set_option maxHeartbeats 4000000
open Go.RowKit Go.Shelf
set_option linter.unusedVariables false
set_option linter.unusedSimpArgs false
set_option maxHeartbeats 2000000
open Go.RowKit
theorem belT {w W:World} (h:Below w.heap.size w W) {V:World} (k:Below W.heap.size W V):Below w.heap.size w V:=h.trans (k.mono h.size)
structure Tra where
 path:Nat
 fr:Nat
 q:Nat
 bk:Bool
deriving Inhabited
def qCU (t:Tra):List Value:=[.int .i64 (t.path:Int),.int .i64 (t.fr:Int),.int .i64 (t.q:Int),.bool t.bk]
def traV (t:Tra):Value:= .agg #[.int .i64 (t.path:Int),.int .i64 (t.fr:Int),.int .i64 (t.q:Int),.bool t.bk]
abbrev TraL:=SV 4 qCU
abbrev Sp:=Int×Int
def rotP (x:Sp):Nat->Sp
 | 0=>x
 | n+1=>(-(rotP x n).2,(rotP x n).1)
theorem qEm {x:Sp} {m:Int} (h:(-m<=x.1/\x.1<=m)/\(-m<=x.2/\x.2<=m)):∀n,(-m<=(rotP x n).1/\(rotP x n).1<=m)/\(-m<=(rotP x n).2/\(rotP x n).2<=m)
 | 0=>h
 | n+1=>by
  have:=qEm h n;unfold rotP;dsimp only;omega
def idxT (n fr:Nat) (bk:Bool) (k:Nat):Nat:=((if bk then(fr:Int) - (k:Int)else(fr:Int)+(k:Int))%(n:Int)).toNat
theorem qEY {n fr:Nat} {bk:Bool} {k:Nat} (hn:0<n):((idxT n fr bk k:Nat):Int)=(if bk then(fr:Int) - (k:Int)else(fr:Int)+(k:Int))%(n:Int):=by
 unfold idxT;exact Int.toNat_of_nonneg (Int.emod_nonneg _ (by omega))
theorem qHE {n fr:Nat} {bk:Bool} {k:Nat} (hn:0<n):idxT n fr bk k<n:=by
 have b:=qEY (fr:=fr) (bk:=bk) (k:=k) hn;have c:=Int.emod_lt_of_pos (if bk then(fr:Int) - (k:Int)else(fr:Int)+(k:Int)) (show(0:Int)<(n:Int)by omega);omega
theorem qPS {n fr:Nat} {bk:Bool} (h:fr<n):idxT n fr bk 0=fr:=by
 have b:=qEY (fr:=fr) (bk:=bk) (k:=0) (show 0<n by omega);have c:(if bk then(fr:Int) - ((0:Nat):Int)else(fr:Int)+((0:Nat):Int))=(fr:Int):=by cases bk<;>simp
 rw[c,Int.emod_eq_of_lt (by omega) (by omega)]at b;omega
theorem qPT {n fr:Nat} {bk:Bool} {k:Nat} (hn:0<n):idxT n fr bk (k+1)=(idxT n fr bk k+(if bk then n - 1 else 1))%n:=by
 have b:=qEY (fr:=fr) (bk:=bk) (k:=k) hn;have c:=qEY (fr:=fr) (bk:=bk) (k:=k+1) hn;have d:(((idxT n fr bk k+(if bk then n - 1 else 1))%n:Nat):Int)=((idxT n fr bk k:Nat)+((if bk then n - 1 else 1:Nat):Int))%(n:Int):=by rw[Int.natCast_emod,Int.natCast_add]
 have f:((idxT n fr bk (k+1):Nat):Int)=(((idxT n fr bk k+(if bk then n - 1 else 1))%n:Nat):Int):=by
  rw[c,d,b,Int.emod_add_emod]
  cases bk with
  | true=>
   simp only[if_true];rw[show(fr:Int) - (k:Int)+((n - 1:Nat):Int)=(fr:Int) - ((k+1:Nat):Int)+(n:Int)by omega,Int.add_emod_right]
  | false=>
   simp only[Bool.false_eq_true,if_false];exact congrArg (· %(n:Int)) (by omega)
 omega
def qFz (a b:Sp) (t:Int):Bool:=(qAE (a.1 - b.1) (-t) t)&&qAE (a.2 - b.2) (-t) t
def qDT (P seen:List Sp) (t:Int) (w:Tra) (k:Nat):Bool:=qFz (rotP (P.getD (idxT P.length w.fr w.bk k) default) w.q) (seen.getD k default) t
def fitT (P seen:List Sp) (t:Int) (w:Tra):Bool:=(List.range seen.length).all (qDT P seen t w)
theorem qRZ {P seen:List Sp} {t:Int} {w:Tra} {k:Nat} (hk:k<seen.length) (h:qDT P seen t w k=false):fitT P seen t w=false:=by
 rw[Bool.eq_false_iff];intro b;rw[fitT,List.all_eq_true]at b;rw[b k (List.mem_range.2 hk)]at h
 cases h
theorem qQ4 {P seen:List Sp} {t:Int} {w:Tra} (h:∀k,k<seen.length->qDT P seen t w k=true):fitT P seen t w=true:=by
 rw[fitT,List.all_eq_true];exact λk b=>h k (List.mem_range.1 b)
def wayK (path:Nat) (k:Nat):Tra:=⟨path,k / 8,k / 2%4,k%2==1⟩
def qBG (path n:Nat):List Tra:=(List.range n).map (wayK path)
theorem qI7 (path n:Nat):qBG path (n+1)=qBG path n++[wayK path n]:=by unfold qBG;rw[List.range_succ,List.map_append];rfl
theorem qDp (path n:Nat):(qBG path n).length =n:=by simp[qBG]
theorem qPU (path:Nat) {a b:Nat} (h:a<=b):qBG path a<+:qBG path b:=by
 induction h with
 | refl=>exact List.prefix_rfl
 | step _ ih=>exact ih.trans (by rw[qI7];exact List.prefix_append _ _)
def gotT (P seen:List Sp) (t:Int) (L:List Tra):List Tra:=L.filter (fitT P seen t)
theorem qPV (P seen:List Sp) (t:Int) (L:List Tra) (x:Tra):gotT P seen t (L++[x])=gotT P seen t L++(if fitT P seen t x then[x]else[]):=by
 unfold gotT;rw[List.filter_append]
 congr 1
 cases h:fitT P seen t x<;>simp[h]
theorem qMn (P seen:List Sp) (t:Int) (L:List Tra):(gotT P seen t L).length <=L.length:=List.length_filter_le _ _
noncomputable def qAn (paths:List (List ArmA)) (n:Int) (seen:List Sp) (t:Int):Nat->Except Int (List Tra)
 | 0=> .ok []
 | i+1=>match qAn paths n seen t i with
  | .error e=> .error e
  | .ok L=>match qA4 (paths.getD i []) n with
   | .error e=> .error e
   | .ok P=> .ok (L++gotT P seen t (qBG i (8*P.length)))
def farB (x:Sp):Bool:= !(qAE x.1 (-10000) 10000&&qAE x.2 (-10000) 10000)
def trcA (paths:List (List ArmA)) (n:Int) (seen:List Sp) (t:Int):Bool:=qAE paths.length 1 8&&(qAE n 1 16&&(qAE seen.length 1 (4*n)&&(qAE t 0 1000&&seen.all λx=> !farB x)))
noncomputable def qDq (paths:List (List ArmA)) (n:Int) (seen:List Sp) (t:Int):Except Int (List Tra):=
 if trcA paths n seen t then(match qAn paths n seen t paths.length with
  | .error e=> .error e
  | .ok L=>if L=[]then .error 6 else .ok L)else .error 2
theorem qMS {paths:List (List ArmA)} {n:Int} {seen:List Sp} {t:Int} {i:Nat} {L:List Tra} {z:Int} (h:qAn paths n seen t i= .ok L) (hp:qA4 (paths.getD i []) n= .error z):∀j,i<j->qAn paths n seen t j= .error z:=by
 have b:qAn paths n seen t (i+1)= .error z:=by
  show(match qAn paths n seen t i with
   | .error e=>Except.error e
   | .ok L=>match qA4 (paths.getD i []) n with
    | .error e=> .error e
    | .ok P=> .ok (L++gotT P seen t (qBG i (8*P.length))))=_
  rw[h,hp]
 intro j c;obtain⟨d,rfl⟩:∃d,j=i+1+d:=⟨j - (i+1),by omega⟩;clear c
 induction d with
 | zero=>exact b
 | succ d ih=>
  show(match qAn paths n seen t (i+1+d)with
   | .error e=>Except.error e
   | .ok L=>match qA4 (paths.getD (i+1+d) []) n with
    | .error e=> .error e
    | .ok P=> .ok (L++gotT P seen t (qBG (i+1+d) (8*P.length))))=_
  rw[ih]
theorem qNx {paths:List (List ArmA)} {n:Int} {seen:List Sp} {t:Int} {i:Nat} {L:List Tra} {P:List Sp} (h:qAn paths n seen t i= .ok L) (hp:qA4 (paths.getD i []) n= .ok P):qAn paths n seen t (i+1)= .ok (L++gotT P seen t (qBG i (8*P.length))):=by
 show(match qAn paths n seen t i with
  | .error e=>Except.error e
  | .ok L=>match qA4 (paths.getD i []) n with
   | .error e=> .error e
   | .ok P=> .ok (L++gotT P seen t (qBG i (8*P.length))))=_
 rw[h,hp]
theorem qQ5 {x:FracA×FracA} {s:Sp} (h:qB0 x= .ok s):(-10000<=s.1/\s.1<=10000)/\(-10000<=s.2/\s.2<=10000):=by
 unfold qB0 at h
 split at h
 ·cases h
 ·split at h
  ·cases h
  ·split at h
   ·rename_i h3;injection h with h;rw[<-h];exact h3
   ·cases h
theorem qJn {l:List ArmA} {n:Nat}:∀{m:Nat} {L:List Sp},qAz l n m= .ok L->∀s∈L,(-10000<=s.1/\s.1<=10000)/\(-10000<=s.2/\s.2<=10000)
 | 0,L,h,s,hs=>by injection h with h;rw[<-h]at hs;cases hs
 | m+1,L,h,s,hs=>by
  unfold qAz at h
  split at h
  ·cases h
  ·rename_i L' h'
   split at h
   ·cases h
   ·rename_i x hx;injection h with h;rw[<-h]at hs
    rcases List.mem_append.1 hs with hs|hs
    ·exact qJn h' s hs
    ·rw[List.mem_singleton.1 hs];unfold qCa at hx
     split at hx
     ·cases hx
     ·exact qQ5 hx
theorem qDH {l:List ArmA} {n:Int} {P:List Sp} (h:qA4 l n= .ok P):(1<=n/\n<=16)/\(P.length:Int)=4*n/\∀s∈P,(-10000<=s.1/\s.1<=10000)/\(-10000<=s.2/\s.2<=10000):=by
 unfold qA4 at h
 split at h
 ·cases h
 ·split at h
  ·rename_i h1;exact⟨h1,by rw[qEh h];omega,qJn h⟩
  ·cases h
theorem qI8 {paths:List (List ArmA)} {n:Int} {seen:List Sp} {t:Int} (hn:1<=n/\n<=16):∀{i:Nat} {L:List Tra},qAn paths n seen t i= .ok L->L.length<=i*512
 | 0,L,h=>by injection h with h;rw[<-h];simp
 | i+1,L,h=>by
  unfold qAn at h
  split at h
  ·cases h
  ·rename_i L' h'
   split at h
   ·cases h
   ·rename_i P hp;injection h with h;have ih:=qI8 hn h';have hl:P.length<=64:=by have b:=(qDH hp).2.1;omega
    have:=qMn P seen t (qBG i (8*P.length));rw[qDp]at this;rw[<-h,List.length_append,Nat.add_mul];omega
theorem SpotsV.at {w:World} {v:Value} {L:List Sp} (h:SpotsV w v L) {j:Nat} (hj:j<L.length):∃b off c,v= .slice (some ⟨b,off,none⟩) L.length c/\b<w.heap.size/\w.cell? ⟨b,off+j*2,none⟩=some (.int .i64 L[j].1)/\w.cell? ⟨b,off+j*2+1,none⟩=some (.int .i64 L[j].2):=by
 obtain⟨A,c,rfl,i,d⟩:=h;obtain⟨b,off,rfl,f,g⟩:=d (by omega);exact⟨b,off,c,rfl,f,g j hj⟩
theorem SpotsV.form {w:World} {v:Value} {L:List Sp} (h:SpotsV w v L):∃A c,v= .slice A L.length c/\L.length<=1000:=by
 obtain⟨A,c,rfl,b,d⟩:=h;exact⟨A,c,rfl,b⟩
theorem qDr (n lo hi:Int) (w:World):Calls Tryz.prog 28 #[.int .i64 n,.int .i64 lo,.int .i64 hi] w λe w'=>e= .returned (.bool (qAE n lo hi))/\w=w':=by
 by_cases d:lo<=n
 ·by_cases f:n<=hi
  ·have c:qAE n lo hi=true:=by unfold qAE;rw[decide_eq_true d,decide_eq_true f];rfl
   have b:=hyd1 c;clear c;go_enter Tryz.func28,Tryz.ntmps28;go_wp2;go_ret;exact⟨by rw[b.out];rfl,rfl⟩
  ·have c:qAE n lo hi=false:=by unfold qAE;rw[decide_eq_true d,decide_eq_false f];rfl
   have b:=hyd1 c;clear c;go_enter Tryz.func28,Tryz.ntmps28;go_wp2;go_ret;exact⟨by rw[b.out];rfl,rfl⟩
 ·have c:qAE n lo hi=false:=by unfold qAE;rw[decide_eq_false d];rfl
  have b:=hyd1 c;clear c;go_enter Tryz.func28,Tryz.ntmps28;go_wp2;go_ret;exact⟨by rw[b.out];rfl,rfl⟩
set_option maxHeartbeats 1000000
structure QuI (x:Sp) (w:World) (Z k:Nat) (W:World):Prop where
 bw:Below w.heap.size w W
 k0:W.heap[w.heap.size]? =some (.cells #[.int .i64 (rotP x k).1,.int .i64 (rotP x k).2] 41)
 k1:W.heap[Z]? =some (.cells #[.int .i64 0,.int .i64 0] 41)
theorem qJM (x:Sp) (n:Nat) (w:World) (hx:(-10000<=x.1/\x.1<=10000)/\(-10000<=x.2/\x.2<=10000)) (hn:n<=4):
  Calls Tryz.prog 61 #[.agg #[.int .i64 x.1,.int .i64 x.2],.int .i64 (n:Int)] w λe w'=>e= .returned (.agg #[.int .i64 (rotP x n).1,.int .i64 (rotP x n).2])/\Below w.heap.size w w':=by
 obtain⟨A,G,i,c⟩:=newb w (.cells #[.int .i64 x.1,.int .i64 x.2] 41);obtain⟨T,H,f,L⟩:=newb A (.cells #[.int .i64 0,.int .i64 0] 41);have z:w.heap.size<A.heap.size:=gsl c;have l:QuI x w A.heap.size 0 T:=⟨belT i f,blk f c,L⟩;have s:=λk=>qEm hx k;have⟨af,R,y,m,M,h,t⟩:=hyd7 hx i c f L l s;clear s l L f c i hx;go_enter Tryz.func61,Tryz.ntmps61;go_wp2_with (fail);clear G H;obtain⟨Z,Q⟩:∃Z,A.heap.size=Z:=⟨_,rfl⟩;rw[Q]at z h ⊢;clear m M Q;go_loopw [6] (λI wr=>∃k:Nat,k<=n/\I= .int .i64 (k:Int)/\Hid (QuI x w Z k wr)) (λI _=>n - (intOf I).toNat)
 case atStart=>exact⟨0,Nat.zero_le _,rfl,h⟩
 case round=>
  obtain⟨k,hk,rfl,j⟩:=hrel;obtain⟨d,g,c⟩:=j.out
  by_cases ae:k<n
  ·obtain⟨O,P⟩:=pc2 g;have Y:=pfrz g 0;have f1:=pfrz g 1;have S:=t.out k
   have E:QuI x w Z (k+1) ((wr.setCell ⟨w.heap.size,0,none⟩ (.int .i64 (-(rotP x k).2))).setCell ⟨w.heap.size,1,none⟩ (.int .i64 (rotP x k).1)):=
    ⟨Below.setCell (Below.setCell d (p:=⟨w.heap.size,0,none⟩) (Nat.le_refl _) _) (p:=⟨w.heap.size,1,none⟩) (Nat.le_refl _) _,qB8 g,
     (Below.heap_setCell _ ⟨w.heap.size,1,none⟩ _ Z (Nat.ne_of_gt z)).trans ((Below.heap_setCell _ ⟨w.heap.size,0,none⟩ _ Z (Nat.ne_of_gt z)).trans c)⟩
   obtain⟨a,B⟩:∃a,(rotP x k).1=a:=⟨_,rfl⟩;obtain⟨b,C⟩:∃b,(rotP x k).2=b:=⟨_,rfl⟩;rw[B,C]at E S;rw[B]at O;rw[C]at P;obtain⟨⟨l1,l2⟩,l3,l4⟩:=S;have s1:IntKind.i64.wrap (-b)= -b:=IntWalk.i64_in _ (by omega);have j1:(k:Int)<(n:Int):=by omega
   have⟨D,r,J,y,F,ac,ad⟩:=hyd7 j d g c E B C;clear C B E c g d j;go_wp2;go_roundw
   case rel=>exact⟨k+1,by omega,by go_num,F⟩
   case measure=>simp[intOf];omega
  ·obtain rfl:n=k:=by omega
   obtain⟨O,P⟩:=pc2 g;obtain⟨d0,d1⟩:=pc2 c;have Y:=pfrz c 0;have f1:=pfrz c 1
   obtain⟨W9,ab,o,N⟩:∃V,(wr.setCell ⟨Z,0,none⟩ (.int .i64 (rotP x n).1)).setCell ⟨Z,1,none⟩ (.int .i64 (rotP x n).2)=V/\Below w.heap.size w V/\V.heap[Z]? =some (.cells #[.int .i64 (rotP x n).1,.int .i64 (rotP x n).2] 41):=
    ⟨_,rfl,Below.setCell (Below.setCell d (p:=⟨Z,0,none⟩) (Nat.le_of_lt z) _) (p:=⟨Z,1,none⟩) (Nat.le_of_lt z) _,qB8 c⟩
   obtain⟨U,X⟩:=pc2 N;have⟨D,r,J,y,q,ag⟩:=hyd6 j d g c o N;clear N o c g d j;go_wp2;exact bodyPost_ret (v:= .agg #[.int .i64 (rotP x n).1,.int .i64 (rotP x n).2]) (by simp[results,Tryz.results61,go_sem,U,X]) rfl ⟨rfl,q.out⟩
theorem qGA {P:Program} (w:World) (ts:Array TypeId) (t:TypeId) (x1 x2 x3 x4:Int):
  (Builtin.max_ ts t #[.int .i64 x1,.int .i64 x2,.int .i64 x3,.int .i64 x4]).run P w= .ok (.int .i64 (max x1 (max x2 (max x3 x4)))) w:=by
 have e:∀x y:Int,(if y>x then y else x)=max x y:=λx y=>by
  rw[Int.max_def]
  split<;>split<;>omega
 have b:max (max (max x1 x2) x3) x4=max x1 (max x2 (max x3 x4)):=by omega
 rw[<-b];simp only[Builtin.max_,Builtin.max2,List.foldlM,e];simp[Builtin.max2,e]
attribute [local go_sem high] qGA
theorem qPW (x:Sp) (w:World) (h1:qA6 x.1) (h2:qA6 x.2):
  Calls Tryz.prog 27 #[.agg #[.int .i64 x.1,.int .i64 x.2]] w λe w'=>e= .returned (.bool (farB x))/\Below w.heap.size w w':=by
 obtain⟨a,b⟩:=x;unfold qA6 at h1 h2;dsimp only at h1 h2 ⊢;obtain⟨C,B,f,n⟩:=newb w (.cells #[.int .i64 a,.int .i64 b] 41);obtain⟨D,E⟩:=pc2 n;obtain⟨y,s⟩:∃z,IntKind.i64.wrap (-a)=z:=⟨_,rfl⟩;obtain⟨A,t⟩:∃z,IntKind.i64.wrap (-b)=z:=⟨_,rfl⟩
 have o:y= -a∨(a= -9223372036854775808/\y= -9223372036854775808):=by
  by_cases h:a= -9223372036854775808
  ·right;refine⟨h,?_⟩;rw[<-s,h];decide
  ·left;rw[<-s];exact IntWalk.i64_in _ (by omega)
 have p:A= -b∨(b= -9223372036854775808/\A= -9223372036854775808):=by
  by_cases h:b= -9223372036854775808
  ·right;refine⟨h,?_⟩;rw[<-t,h];decide
  ·left;rw[<-t];exact IntWalk.i64_in _ (by omega)
 obtain⟨M,F⟩:∃M,max a (max y (max b A))=M:=⟨_,rfl⟩;obtain⟨m,G⟩:∃m,min a b=m:=⟨_,rfl⟩
 have c:farB (a,b)=(decide (10000<M)||decide (m< -10000)):=by
  unfold farB qAE;rw[Bool.eq_iff_iff];simp only[Bool.not_eq_true',Bool.and_eq_false_iff,decide_eq_false_iff_not,Bool.or_eq_true,decide_eq_true_eq,Bool.and_eq_false_imp];omega
 by_cases k:10000<M
 ·have j:farB (a,b)=true:=by rw[c,decide_eq_true k];rfl
  have⟨d,v,i,q,r,g⟩:=hyd6 f n c o p j;clear j p o c n f;go_enter Tryz.func27,Tryz.ntmps27;go_wp2;go_ret;exact⟨by rw[g.out];rfl,d.out⟩
 ·by_cases l:m< -10000
  ·have j:farB (a,b)=true:=by rw[c,decide_eq_true l,Bool.or_true]
   have⟨d,v,i,q,r,g⟩:=hyd6 f n c o p j;clear j p o c n f;go_enter Tryz.func27,Tryz.ntmps27;go_wp2;go_ret;exact⟨by rw[g.out];rfl,d.out⟩
  ·have j:farB (a,b)=false:=by rw[c,decide_eq_false k,decide_eq_false l];rfl
   have⟨d,v,i,q,r,g⟩:=hyd6 f n c o p j;clear j p o c n f;go_enter Tryz.func27,Tryz.ntmps27;go_wp2;go_ret;exact⟨by rw[g.out];rfl,d.out⟩
theorem qQ6 (v:Value) (L:List Sp) (w:World) (hv:SpotsV w v L) (hf:∀s∈L,qA6 s.1/\qA6 s.2):
  Calls Tryz.prog 59 #[v,.func (.func 27) #[] #[]] w λe w'=>∃r:Int,e= .returned (.int .i64 r)/\Below w.heap.size w w'/\((r= -1/\∀s∈L,farB s=false)∨(0<=r/\∃s∈L,farB s=true)):=by
 obtain⟨A1,c1,rfl,zL⟩:=hv.form;have A:Below w.heap.size w w/\∀s∈L.take 0,farB s=false:=⟨Below.refl _ _,by simp⟩;have⟨N,C,M⟩:=hyd3 hv A hf;clear hf A hv;go_enter Tryz.func59,Tryz.ntmps59;go_wp2;go_loopw [8] (λQ wr=>∃k:Nat,k<=L.length/\Q= .int .i64 (k:Int)/\Hid (Below w.heap.size w wr/\∀s∈L.take k,farB s=false)) (λQ _=>L.length - (intOf Q).toNat)
 case atStart=>exact⟨0,Nat.zero_le _,rfl,C⟩
 case round=>
  obtain⟨k,hk,rfl,z⟩:=hrel;obtain⟨j,b⟩:=z.out
  by_cases p:k<L.length
  ·obtain⟨b1,o1,x1,J,S,X,Y⟩:=SpotsV.at (N.out.le j) p;injection J with e1 e2 e3;subst e1 e3;clear e2;have j1:(k:Int)<(L.length:Int):=by omega
   have j2:(0:Int)<=(k:Int):=by omega
   have t:L.take (k+1)=L.take k++[L[k]]:=List.take_succ_eq_append_getElem p;have n:=M.out _ (List.getElem_mem p);have o:=List.getElem_mem p;obtain⟨s,E⟩:∃s,L[k]=s:=⟨_,rfl⟩;rw[E]at X Y t n o;have O:=qPW s wr n.1 n.2;obtain⟨B,G⟩:∃B,farB s=B:=⟨_,rfl⟩;rw[G]at O;have⟨H,l,g,F,P,Z,y,T⟩:=hyd8 z j b t O E G n;have q:=hyd1 o;clear o n G E O t b j z;go_wp2_with (fail);go_at_call 27;refine P.out.mono ?_;rintro e V ⟨rfl,i⟩;have c:=belT l.out i
   cases B with
   | true=>
    have d:∃s∈L,farB s=true:=⟨s,q.out,y.out⟩;have⟨D,m,f⟩:=hyd3 i c d;clear d c i;go_wp2;go_ret;exact⟨_,rfl,m.out,.inr ⟨by omega,f.out⟩⟩
   | false=>
    have R:Below w.heap.size w V/\∀s∈L.take (k+1),farB s=false:=⟨c,λx U=>by
     rw[F.out]at U
     rcases List.mem_append.1 U with h|h
     ·exact g.out x h
     ·rw[List.mem_singleton.1 h];exact y.out⟩
    have⟨D,m,I⟩:=hyd3 i c R;clear R c i;go_wp2;go_roundw
    case rel=>exact⟨k+1,by omega,by go_num,I⟩
    case measure=>simp[intOf];omega
  ·obtain rfl:L.length=k:=by omega
   have d:∀s∈L,farB s=false:=λs E=>b s (by rw[List.take_length];exact E);have⟨H,l,g,f⟩:=hyd4 z j b d;clear d b j z;go_wp2;go_ret;exact⟨-1,rfl,l.out,.inl ⟨rfl,f.out⟩⟩
theorem qQ7 (v:Value) (L:List Sp) (w:World) (hv:SpotsV w v L) (hf:∀s∈L,qA6 s.1/\qA6 s.2):
  Calls Tryz.prog 29 #[v,.func (.func 27) #[] #[]] w λe w'=>e= .returned (.bool (!(L.all λx=> !farB x)))/\Below w.heap.size w w':=by
 have m:=qQ6 v L w hv hf;obtain⟨y,A,rfl,C⟩:=hv.form;have⟨q,o,k⟩:=hyd3 hv hf m;clear m hf hv;go_enter Tryz.func29,Tryz.ntmps29;go_wp2_with (fail);go_at_call 59;refine k.out.mono ?_;rintro e z ⟨r,rfl,g,(⟨rfl,d⟩| ⟨B,s,j,h⟩)⟩
 ·have b:(!(L.all λx=> !farB x))=false:=by
   have:(L.all λx=> !farB x)=true:=List.all_eq_true.2 λx t=>by rw[d x t];rfl
   rw[this];rfl
  have⟨f,i,c⟩:=hyd3 g d b;clear b d g;go_wp2;go_ret;exact⟨by rw[c.out];rfl,f.out⟩
 ·have b:(!(L.all λx=> !farB x))=true:=by
   have:(L.all λx=> !farB x)=false:=by
    rw[Bool.eq_false_iff];intro n;have:=List.all_eq_true.1 n s j;rw[h]at this
    cases this
   rw[this];rfl
  have⟨f,p,l,c⟩:=hyd4 g j h b;clear b h j g;go_wp2;go_ret;exact⟨by rw[c.out];rfl,f.out⟩
end Go.Proofs.YtabfaobakmjiaaaGreat

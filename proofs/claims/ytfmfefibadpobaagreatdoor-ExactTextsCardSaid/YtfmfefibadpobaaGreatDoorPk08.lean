/- Slices that read as lists, in blocks of a kind: what lies elsewhere may change; numbers and fractions in memory. exact: numbers of 0 or more: trimmed, one. .. -/
import Derived.Test.YtfmfefibadpobaaGreatDoorPk02
import Derived.Test.YtfmfefibadpobaaGreatDoorPk07
namespace Go.Proofs.YtfmfefibadpobaaGreatDoor
set_option maxRecDepth 100000
set_option maxHeartbeats 2000000
open Go.RowKit
set_option linter.unusedVariables false
def gv (k:IntKind) (g:Nat):Value:= .int k (g:Int)
def ArrL {α:Type} (L:Nat->Prop) (f:α->Value) (w:World) (v:Value) (xs:List α):Prop:=
 ∃A c,v= .slice A xs.length c/\xs.length<=c/\c<=maxLen/\(A=none->c=0)∧
  (0<xs.length->∃b off,A=some ⟨b,off,none⟩/\L b/\b<w.heap.size/\∀j (h:j<xs.length),w.cell? ⟨b,off+j,none⟩=some (f xs[j]))
def Up (w:World) (L:Nat->Prop):Prop:=∀b,w.heap.size<=b->L b
theorem Up.later {w W:World} {L:Nat->Prop} (h:Up w L) (hs:w.heap.size<=W.heap.size):Up W L:=λb hb=>h b (Nat.le_trans hs hb)
theorem Up.le {w W:World} {L:Nat->Prop} (h:Up w L) (hs:Le w W):Up W L:=h.later hs.size
theorem Up.any (w:World):Up w (λ_=>True):=λ_ _=>trivial
def qHT (L:Nat->Prop) (w W:World):Prop:=w.heap.size<=W.heap.size/\∀b,L b->b<w.heap.size->W.heap[b]? =w.heap[b]?
theorem Le.stays {w W:World} (h:Le w W) (L:Nat->Prop):qHT L w W:=⟨h.size,λb _ hb=>h.block b hb⟩
section
variable {α:Type} {f:α->Value} {L:Nat->Prop}
theorem ArrL.arr {w:World} {v:Value} {xs:List α} (h:ArrL L f w v xs):Arr f w v xs:=by
 obtain⟨A,c,p,j,k,m,l⟩:=h;refine⟨A,c,p,j,k,m,λi=>?_⟩;obtain⟨b,g,n,q,d,o⟩:=l i;exact⟨b,g,n,d,o⟩
theorem ArrL.stays {w W:World} {v:Value} {xs:List α} (h:ArrL L f w v xs) (hb:qHT L w W):ArrL L f W v xs:=by
 obtain⟨A,c,s,l,m,o,n⟩:=h;refine⟨A,c,s,l,m,o,λk=>?_⟩;obtain⟨b,g,p,i,d,q⟩:=n k;exact⟨b,g,p,i,Nat.lt_of_lt_of_le d hb.1,λj r=>(World.cell?_of_block (hb.2 b i d)).trans (q j r)⟩
theorem ArrL.le {w W:World} {v:Value} {xs:List α} (h:ArrL L f w v xs) (hb:Le w W):ArrL L f W v xs:=h.stays (hb.stays L)
theorem ArrL.mono {L':Nat->Prop} {w:World} {v:Value} {xs:List α} (h:ArrL L f w v xs) (hL:∀b,L b->L' b):ArrL L' f w v xs:=by
 obtain⟨A,c,o,i,j,l,k⟩:=h;refine⟨A,c,o,i,j,l,λg=>?_⟩;obtain⟨b,d,m,n,r⟩:=k g;exact⟨b,d,m,hL b n,r⟩
theorem ArrL.of_arr {w:World} {v:Value} {xs:List α} (h:Arr f w v xs) (hL:∀b,b<w.heap.size->L b):ArrL L f w v xs:=by
 obtain⟨A,c,p,j,k,m,l⟩:=h;refine⟨A,c,p,j,k,m,λi=>?_⟩;obtain⟨b,g,n,d,o⟩:=l i;exact⟨b,g,n,hL b d,d,o⟩
theorem ArrL.nil (f:α->Value) (L:Nat->Prop) (w:World):ArrL L f w (.slice none 0 0) []:=
 ⟨none,0,rfl,Nat.le_refl _,Nat.zero_le _,λ_=>rfl,λh=>absurd h (by simp)⟩
theorem ArrL.of_own {w:World} {base:Nat} {e:TypeId} {v:Value} {n:Nat} {xs:List α} (h:w.ownsRow base e 1 v n (xs.map f)) (hL:∀b,base<=b->L b):ArrL L f w v xs:=by
 obtain⟨d,i⟩:=h;have l:n=xs.length:=by simpa using d.symm
 subst l
 rcases i with⟨rfl,h0⟩| ⟨g,cap,cur,rfl,hbg,hg,hnc,hcm,hsz,htake⟩
 ·have:xs=[]:=List.eq_nil_of_length_eq_zero h0;subst this;exact ArrL.nil f L w
 ·refine⟨_,cap,rfl,hnc,hcm,λh=>by simp at h,λ_=>⟨g,0,rfl,hL g hbg,(gsl hg),λj k=>?_⟩⟩;rw[Nat.zero_add,cell_of_row w g j cur e (0,0) hg];have c:(cur.toList.take (xs.length*1))[j]? =some (f xs[j]):=by rw[htake];simp[k]
  rw[List.getElem?_take,if_pos (by omega)]at c;simpa using c
theorem ArrL.len {w:World} {a:Option Addr} {n c:Nat} {xs:List α} (h:ArrL L f w (.slice a n c) xs):n=xs.length:=by
 obtain⟨A,d,b,_⟩:=h;injection b
theorem ArrL.take {w:World} {A:Option Addr} {c:Nat} {xs:List α} (h:ArrL L f w (.slice A xs.length c) xs) (n:Nat) (hn:n<=xs.length):ArrL L f w (.slice A n c) (xs.take n):=by
 obtain⟨t,v,s,x,l,o,m⟩:=h;injection s with e1 e2 e3;subst e1 e3;have i:(xs.take n).length =n:=by simp;omega
 refine⟨A,c,by rw[i],by omega,l,o,λk=>?_⟩;rw[i]at k;obtain⟨b,g,p,q,d,r⟩:=m (by omega);exact⟨b,g,p,q,d,λj y=>by rw[r j (by omega),List.getElem_take]⟩
end
def NumL (L:Nat->Prop) (k:IntKind) (w:World) (v:Value) (n:Nat):Prop:=ArrL L (gv k) w v (dg n)
def RatL (L:Nat->Prop) (k:IntKind) (w:World) (v:Value) (r:Rat):Prop:=
 ∃vn vd,v= .agg #[.bool (rneg r),vn,vd]/\NumL L k w vn (rnum r)/\NumL L k w vd r.den
theorem NumL.le {L:Nat->Prop} {k:IntKind} {w W:World} {v:Value} {n:Nat} (h:NumL L k w v n) (hb:Le w W):NumL L k W v n:=ArrL.le h hb
theorem RatL.le {L:Nat->Prop} {k:IntKind} {w W:World} {v:Value} {r:Rat} (h:RatL L k w v r) (hb:Le w W):RatL L k W v r:=by
 obtain⟨g,d,rfl,b,c⟩:=h;exact⟨g,d,rfl,b.le hb,c.le hb⟩
def MPred.num (L:Nat->Prop) (k:IntKind) (n:Nat):MPred:=⟨λv w=>NumL L k w v n,λ_ _ _ hb h=>h.le hb⟩
theorem NumL.slice {L:Nat->Prop} {k:IntKind} {w:World} {v:Value} {n:Nat} (h:NumL L k w v n):∃A c,v= .slice A (dg n).length c:=by
 obtain⟨A,c,rfl,_⟩:=h;exact⟨A,c,rfl⟩
end Go.Proofs.YtfmfefibadpobaaGreatDoor
namespace Go.Proofs.YtfmfefibadpobaaGreatDoor
set_option maxRecDepth 100000
set_option maxHeartbeats 2000000
open Go.RowKit
set_option linter.unusedVariables false
set_option linter.unusedSimpArgs false
def qEw:Value->Nat
 | .slice _ n _=>n
 | _=>0
theorem qCW {l:List Nat} {m:Nat} (hm:m<l.length) (h:l[m]=0):qAG (l.take (m+1))=qAG (l.take m):=by
 rw[List.take_succ_eq_append_getElem hm,h,qBN]
theorem qCb {l:List Nat} {m:Nat} (hm:m<l.length) (h:l[m]≠0):qAG (l.take (m+1))=l.take (m+1):=by
 rw[List.take_succ_eq_append_getElem hm,qB9 h]
theorem qDM (l:List Nat):qAG l=l.take (qAG l).length :=by
 refine qDa (P:=λl=>qAG l=l.take (qAG l).length) (by simp[qAG]) (λl g ih=>?_) l
 by_cases h:g=0
 ·subst h;rw[qBN]
  have b:(qAG l).length <=l.length:=by
   have:=congrArg List.length ih;simp at this;omega
  rw[List.take_append_of_le_length b];exact ih
 ·rw[qB9 h,List.take_of_length_le (Nat.le_refl _)]
theorem qFJ (l:List Nat):(qAG l).length <=l.length:=by
 have:=congrArg List.length (qDM l);simp at this;omega
theorem ArrL.trim {L:Nat->Prop} {f:Nat->Value} {w:World} {A:Option Addr} {c:Nat} {l:List Nat} (h:ArrL L f w (.slice A l.length c) l):ArrL L f w (.slice A (qAG l).length c) (qAG l):=by
 have b:=h.take (qAG l).length (qFJ l);rw[<-qDM]at b;exact b
theorem qBo (L:Nat->Prop) (l:List Nat) (A:Option Addr) (n c:Nat) (w:World) (hv:ArrL L (gv .u32) w (.slice A n c) l):
  Calls Tryz.prog 45 #[.slice A n c] w λe w'=>e= .returned (.slice A (qAG l).length c)/\w=w':=by
 obtain⟨A,c,hv,D,v,r,q⟩:=hv;injection hv with e1 e2 e3;subst e1 e2 e3;unfold maxLen at v;have⟨x,p⟩:=hyd2 r q;clear q r;go_enter Tryz.func45,Tryz.ntmps45;go_wp2
 go_loop [0] (λs=>∃m:Nat,m<=l.length/\s= .slice A m c/\Hid (qAG (l.take m)=qAG l)) (λs=>qEw s)
 case atStart=>exact⟨l.length,Nat.le_refl _,rfl,Lib.hid (by rw[List.take_length])⟩
 case round=>
  obtain⟨m,F,rfl,i⟩:=hrel
  by_cases o:m=0
  ·subst o;go_wp2;go_ret;rw[<-i.out];exact⟨by simp[qAG],rfl⟩
  ·obtain⟨k,rfl⟩:∃k,m=k+1:=⟨m - 1,by omega⟩;obtain⟨b,C,rfl,E,y,t⟩:=p.out (by omega);have h:=t k (by omega);unfold gv at h;clear t
   by_cases j:l[k]=0
   ·rw[j]at h;have d:Hid (qAG (l.take k)=qAG l):=Lib.hid (by rw[<-i.out,qCW (by omega) j]);have z:=hyd1 j;clear j;clear i o;go_wp2
    go_round
    case rel=>exact⟨k,by omega,by go_num,d⟩
    case measure=>simp[qEw]
   ·have B:((l[k]:Int)==0)=false:=by simp;omega
    have d:Hid (l.take (k+1)=qAG l):=Lib.hid (by rw[<-i.out,qCb (by omega) j]);generalize l[k]=g at*;clear i o;go_wp2;go_ret;rw[<-d.out];exact⟨by simp;omega,rfl⟩
theorem qDx (L:Nat->Prop) (l:List Nat) (v:Value) (w:World) (hv:ArrL L (gv .u32) w v l):
  Calls Tryz.prog 45 #[v] w λe w'=>∃v',e= .returned v'/\w=w'/\ArrL L (gv .u32) w v' (qAG l):=by
 obtain⟨A,c,rfl,r⟩:=hv;have hv:ArrL L (gv .u32) w (.slice A l.length c) l:=⟨A,c,rfl,r⟩;exact(qBo L l A l.length c w hv).mono λe w' ⟨b,d⟩=>⟨_,b,d,hv.trim⟩
theorem qDy (L:Nat->Prop) (n:Nat) (v:Value) (w:World) (hv:NumL L .u32 w v n):
  Calls Tryz.prog 32 #[v] w λe w'=>e= .returned (.bool (decide (n=1)))/\w=w':=by
 obtain⟨A,c,rfl,o,s,p,k⟩:=hv;unfold maxLen at s
 by_cases d:(dg n).length =1
 ·have l:nv (dg n)=n:=qAT n;obtain⟨g,r⟩:∃g,dg n=[g]:=List.length_eq_one_iff.1 d;have i:g=n:=by rw[r]at l;simpa[nv]using l
  obtain⟨b,y,rfl,z,x,q⟩:=k (by omega);have h:=q 0 (by omega);simp only[r,List.getElem_cons_zero,Nat.add_zero]at h;unfold gv at h;have e:decide (n=1)=((g:Int)==1):=by rw[i];rw[Bool.eq_iff_iff];simp;omega
  rw[e,d];clear q e i l o k d p;go_enter Tryz.func32,Tryz.ntmps32;go_wp2;go_ret;exact⟨rfl,rfl⟩
 ·have j:decide (n=1)=false:=by
   rw[decide_eq_false_iff_not];rintro rfl;rw[qHf]at d;exact d rfl
  have t:(((dg n).length :Int)==1)=false:=by simp;omega
  rw[j];clear o p k j d;generalize (dg n).length =m at*;go_enter Tryz.func32,Tryz.ntmps32;go_wp2;go_ret;exact⟨rfl,rfl⟩
theorem qAp:qBV Tryz.prog 42 82 (.int .u32 0) 4:=⟨Tryz.underlying42,by kernel_rfl,rfl⟩
theorem qBP (k:IntKind) (w:World) (e:TypeId) (g:Nat):Arr (gv k) (w.alloc (.cells #[.int k g] e)) (.slice (some ⟨w.heap.size,0,none⟩) 1 1) [g]:=
 ⟨_,1,rfl,Nat.le_refl _,by unfold maxLen;omega,λh=>by simp at h,λ_=>⟨w.heap.size,0,rfl,by simp,λj hj=>by
  obtain rfl:j=0:=by simp at hj;omega
  rw[Nat.zero_add,cell_of_row _ _ 0 _ _ _ (heap_alloc_new _ _)]
  rfl⟩⟩
theorem qAV {P:Program} {w:World} {ops:Array Oper} {rest:List Oper} {o:Oper} {a:Act} {Q:Exit->Act->World->Prop} (hgd:o.guard=none) (s x:Operand) (t:TypeId)
  (ho:o.op= .call {callee:= .builtin .append,args:=#[s,x],argTypes:=#[t,t]})
  (base:Nat) (e:TypeId) (k:IntKind) (bytes:Nat) (hE:qBV P t e (.int k 0) bytes) (hby:bytes<=8)
  (v:Value) (xs:List Nat) (hs:a.eval s=v) (hown:w.ownsRow base e 1 v xs.length (xs.map (gv k)))
  (sv:Value) (ys:List Nat) (hx:a.eval x=sv) (hsrc:Arr (gv k) w sv ys)
  (hlen:xs.length+ys.length<=1000000000) (hbase:base<=w.heap.size)
  (h:∀v' w',w'.ownsRow base e 1 v' (xs++ys).length ((xs++ys).map (gv k))->Below base w w'->w.grownBy w' v.ownBlock->(v'.ownBlock=none↔v.ownBlock=none/\ys=[])->wpList P ops Q rest (a.put o.dst v') w'):wpList P ops Q (o::rest) a w:=by
 have c:(xs.length+ys.length)*bytes<=1000000000*8:=Nat.mul_le_mul hlen hby
 exact qFs hgd s x t ho base e _ bytes hE v xs hs hown sv ys hx hsrc (λ_=>rfl) (by omega) (by omega) hbase λv' w' d b g=>h v' w' d ((Below.refl _ _).grown b hbase λk i=>(hown.lt k i).1) b g
theorem qGu (n:Nat) (w:World) (hn:(n:Int)<=18446744073709551615):
  Calls Tryz.prog 72 #[.int .u64 n] w λe w'=>∃v',e= .returned v'/\Below w.heap.size w w'/\w'.ownsRow w.heap.size 82 1 v' (dg n).length ((dg n).map (gv .u32)):=by
 have z:(dg n).length <=3:=qAf (by
  have x:B9^3=1000000000000000000000000000:=by rw[qAD]
  omega)
 have p:=hyd1 z;clear z;go_enter Tryz.func72,Tryz.ntmps72;go_wp2;go_loopw [0,3] (λi s wr=>∃(m:Nat) (b:List Nat),i= .int .u64 m/\(m:Int)<=18446744073709551615/\b.length<=1000/\Hid (dg n=b++dg m)/\Hid (Below w.heap.size w wr)/\Hid (wr.ownsRow w.heap.size 82 1 s b.length (b.map (gv .u32)))) (λi _ _=>(intOf i).toNat)
 case atStart=>exact⟨n,[],rfl,hn,by simp,Lib.hid (by simp),Lib.hid (Below.refl _ _),Lib.hid (World.ownsRow_nil _ _ _ _)⟩
 case round=>
  obtain⟨m,b,rfl,N,O,y,k,c⟩:=hrel
  by_cases v:m=0
  ·subst v;go_wp2;go_ret;rw[y.out,qAI,List.append_nil];exact⟨_,rfl,k.out,c.out⟩
  ·have l:=qAD;obtain⟨g,M⟩:∃g:Nat,(m:Int)%1000000000=g:=⟨m%1000000000,by omega⟩;obtain⟨q,hq⟩:∃q:Nat,(m:Int) / 1000000000=q:=⟨m / 1000000000,by omega⟩;have E:g<1000000000:=by omega
   have h:Hid (dg n=(b++[g])++dg q):=Lib.hid (by
    rw[y.out,qB8 v,l,show m%1000000000=g by omega,show m / 1000000000=q by omega];simp)
   have F:b.length+1<=1000:=by
    have x:=congrArg List.length h.out;have J:=p.out;simp at x;omega
   have j:q<m:=by omega
   have P:w.heap.size<=wr.heap.size:=k.out.size;have⟨D,d⟩:=hyd2 l j;clear j l;go_wp2_with (at_builtin;go_must (refine qAV rfl (.tmp 8) (.tmp 12) 42 rfl w.heap.size 82 .u32 4 qAp (by decide) _ b rfl (c.out.alloc _) _ [g] rfl (qBP _ _ _ _) (by simp;omega) (by simp;omega) ?_);intro v' w' A t B C);have o:Hid (Below w.heap.size w w'):=Lib.hid ((k.out.alloc (by omega) _).trans t);have⟨r,G,H,I⟩:=hyd4 A t B C;clear C B t A;clear k;go_wp2;go_roundw
   case rel=>exact⟨q,b++[g],rfl,by have:=d.out;omega,by simp;omega,h,o,r⟩
   case measure=>simp[intOf];have:=d.out;omega
theorem qE0 {P:Program} (w:World) {ops:Array Oper} {rest:List Oper} {o:Oper} {a:Act} {Q:Exit->Act->World->Prop}
  (hg:o.guard=none) (l c:Operand) (t:TypeId) (hop:o.op=Op.makeSlice t l c) (base:Nat) (e:TypeId) (z:Value) (bytes:Nat) (hE:qBV P t e z bytes) (hby:bytes<=8)
  (C:Int) (n:Nat) (hl:a.eval l= .int .i64 0) (hc:a.eval c= .int .i64 C) (hC:C=(n:Int)) (hn:n<=1000000000) (b4:base<=w.heap.size)
  (hK:∀w',w'.ownsRow base e 1 (.slice (some ⟨w.heap.size,0,none⟩) 0 n) 0 []->Below w.heap.size w w'->wpList P ops Q rest (a.put o.dst (.slice (some ⟨w.heap.size,0,none⟩) 0 n)) w'):
  wpList P ops Q (o::rest) a w:=by
 obtain⟨m,k,q⟩:=hE;obtain⟨i,d,p,g,b⟩:=info_parts k;refine wpList_make_own w hg l c t hop base e i z 1 m d p g .i64 .i64 C n hl hc hC (by rw[b];exact Nat.le_trans (Nat.mul_le_mul hby hn) (by decide)) (by unfold maxLen;omega) b4 ?_;intro w' h j;exact hK w' h ((Below.refl _ _).grown j (Nat.le_refl _) (by simp))
theorem qAR {l:List Nat} {i:Nat} (h:i<l.length):l.getD i 0=l[i]:=by simp[h]
theorem qCt {l:List Nat} {i:Nat} (h:l.length<=i):l.getD i 0=0:=by simp[h]
theorem qAd {L:Nat->Prop} {k:IntKind} {w:World} {v:Value} {l:List Nat} {n:Nat} (h:ArrL L (gv k) w v (qAG l)) (hl:Low l) (hn:nv l=n):NumL L k w v n:=by
 unfold NumL;rw[<-hn,<-qEx hl];exact h
theorem qFK (L:Nat->Prop) (a b:Nat) (va vb:Value) (w:World) (hL:Up w L) (ha:NumL L .u32 w va a) (hb:NumL L .u32 w vb b) (hma:(dg a).length <=100000000) (hmb:(dg b).length <=100000000):
  Calls Tryz.prog 73 #[va,vb] w λe w'=>∃v',e= .returned v'/\Le w w'/\NumL L .u32 w' v' (a*b):=by
 obtain⟨Aa,ca,rfl,a1,a2,aN,a3⟩:=ha;obtain⟨Ab,cb,rfl,b1,b2,bN,b3⟩:=hb;unfold maxLen at a2 b2;have hB:=qAD;have lx:=qAO a;have ly:=qAO b;have⟨ai,ac,ad,aM,aP,o,bf,a4⟩:=hyd8 hL a3 b3 aN bN hB lx ly;clear ly lx hB bN aN b3 a3 hL;go_enter Tryz.func73,Tryz.ntmps73;go_wp2_with (at_make;go_must (refine qBR (f:=gv .u32) _ rfl _ _ 42 rfl w.heap.size 82 0 4 qAp rfl (by decide) ((dg a).length +(dg b).length) (by go_num) (by go_num) (by omega) (Nat.le_refl _) _ rfl ?_);intro w1 r1 r2 r3);have⟨a5,a6,bi⟩:=hyd3 r1 r2 r3;clear r3 r2 r1;go_loopw [20] (λi wr=>∃(k:Nat) (l:List Nat),k<=(dg a).length /\i= .int .i64 k/\Hid (l.length=(dg a).length +(dg b).length)/\Hid (Mul (dg a) (dg b) k l)/\Hid (Below w.heap.size w wr)/\Hid (wr.ownsRow w.heap.size 82 1 (.slice (some ⟨w.heap.size,0,none⟩) ((dg a).length +(dg b).length) ((dg a).length +(dg b).length)) ((dg a).length +(dg b).length) (l.map (gv .u32)))) (λi _=>(dg a).length - (intOf i).toNat)
 case atStart=>exact⟨0,_,Nat.zero_le _,rfl,Lib.hid (by simp),Lib.hid (Mul.start _ _ _),a6,a5⟩
 case round=>
  obtain⟨k,l,hk,rfl,ar,I,N,n⟩:=hrel
  by_cases Z:k<(dg a).length
  ·obtain⟨bx,ox,rfl,-,an,V⟩:=ac.out (by omega);have A:=(N.out.cell (p:=⟨bx,ox+k,none⟩) an).trans (V k Z);unfold gv at A;clear V;obtain⟨x,hx⟩:∃x,(dg a)[k]=x:=⟨_,rfl⟩;have az:x<1000000000:=by rw[<-hx,<-o.out];exact qAS _ _ _
   rw[hx]at A;have ay:=hyd1 hx;clear hx;rename World=>w0
   go_wp2;go_loopw [8,27] (λcy i wr=>∃(s c:Nat) (d:List Nat),s<=(dg b).length /\i= .int .i64 s/\cy= .int .u64 c/\c<1000000000/\Hid (d.length=(dg a).length +(dg b).length)/\Hid (MulRow x (dg b) k s c l d)/\Hid (s=0->d=l)/\Hid (Below w.heap.size w wr)/\Hid (wr.ownsRow w.heap.size 82 1 (.slice (some ⟨w.heap.size,0,none⟩) ((dg a).length +(dg b).length) ((dg a).length +(dg b).length)) ((dg a).length +(dg b).length) (d.map (gv .u32)))) (λ_ i _=>(dg b).length - (intOf i).toNat)
   case atStart=>exact⟨0,0,l,Nat.zero_le _,rfl,rfl,by omega,ar,Lib.hid (MulRow.start _ _ _ _ I.out.low),Lib.hid (λ_=>rfl),N,n⟩
   case round=>
    clear A;obtain⟨s,c,d,aX,rfl,rfl,hc,j,hR,al,m,g⟩:=hrel
    have aF:w.heap.size<wr.heap.size:=by
     obtain⟨g9,c9,R,-,h9,-,-⟩:=qB3 g.out (by omega);injection R with R;injection R with R;injection R with R;omega
    by_cases C:s<(dg b).length
    ·obtain⟨ae,oy,rfl,-,ao,X⟩:=ad.out (by omega);have G:=(m.out.cell (p:=⟨ae,oy+s,none⟩) ao).trans (X s C);unfold gv at G;clear X;obtain⟨y,hy⟩:∃y,(dg b)[s]=y:=⟨_,rfl⟩;have bd:y<1000000000:=by rw[<-hy,<-o.out];exact qAS _ _ _
     rw[hy]at G;obtain⟨J,D⟩:∃J:Nat,k+s=J:=⟨_,rfl⟩;have ag:(k:Int)+(s:Int)=(J:Int):=by omega
     have t:J<d.length:=by rw[j.out];omega
     obtain⟨z,F⟩:∃z,d[J]=z:=⟨_,rfl⟩;have be:z<1000000000:=by rw[<-F,<-o.out];exact hR.out.low.get _ _
     have B:=qA8 g.out j.out (k:=J) (x:=z) (by rw[List.getElem?_eq_getElem t,F]);unfold gv at B;have ap:=g.out.frozenAt J;obtain⟨T,hd⟩:=hR.out.next (by rw[o.out];exact az) a4.out C (by rw[D];exact t) (x*y+z+c) (by simp only[hy,D,F]);obtain⟨P,U⟩:∃P:Nat,x*y=P:=⟨_,rfl⟩;have aV:(x:Int)*(y:Int)=(P:Int):=by rw[<-U];simp
     have aU:P<=999999998000000001:=by rw[<-U];exact Nat.mul_le_mul (show x<=999999999 by omega) (show y<=999999999 by omega)
     rw[U,o.out,D]at T;obtain⟨q,hq⟩:∃q:Nat,(P+z+c) / 1000000000=q:=⟨_,rfl⟩;obtain⟨r,hr⟩:∃r:Nat,(P+z+c)%1000000000=r:=⟨_,rfl⟩;rw[hq,hr]at T;have av:q<1000000000:=by rw[<-o.out];exact T.bound
     have bb:r<1000000000:=by omega
     have eq:((P:Int)+z+c) / 1000000000=q:=by omega
     have er:((P:Int)+z+c)%1000000000=r:=by omega
     have ah:J<(dg a).length +(dg b).length :=by omega
     have⟨bc,a0,aW,aj,aT,aZ,ba,af⟩:=hyd8 hy F hd T U hq hr D;clear D hr hq U T hd F hy;go_wp2;go_roundw
     case rel=>exact⟨s+1,q,d.set J r,by omega,by go_num,by go_num,av,Lib.hid (by rw[List.length_set];exact j.out),aj,Lib.hid (λh=>by omega),Lib.hid (m.out.setCell (p:=⟨w.heap.size,J,none⟩) (Nat.le_refl _) _),Lib.hid (qAv (f:=gv .u32) g.out J r)⟩
     case measure=>simp[intOf];omega
    ·obtain rfl:s=(dg b).length :=by omega
     by_cases E:(dg b).length =0
     ·have M:dg b=[]:=List.eq_nil_of_length_eq_zero E;have aq:=al.out E;subst aq;have v:=Lib.hid (Mul.nil_eq M I.out);have am:¬(0<((dg b).length :Int)):=by omega
      clear C;have⟨aC,aD⟩:=hyd2 E M;clear M E;go_wp2;go_roundw
      case rel=>exact⟨k+1,d,by omega,by go_num,j,v,m,g⟩
      case measure=>simp[intOf];omega
     ·obtain⟨J,D⟩:∃J:Nat,k+(dg b).length =J:=⟨_,rfl⟩;have ag:(k:Int)+((dg b).length :Int)=(J:Int):=by omega
      have t:J<d.length:=by rw[j.out];omega
      obtain⟨z,F⟩:∃z,d[J]=z:=⟨_,rfl⟩;have B:=qA8 g.out j.out (k:=J) (x:=z) (by rw[List.getElem?_eq_getElem t,F]);unfold gv at B;have ap:=g.out.frozenAt J;have v:=I.out.next Z (by rw[ay.out];exact hR.out) (by rw[D];exact t);rw[D]at v;have am:0<((dg b).length :Int):=by omega
      have ah:J<(dg a).length +(dg b).length :=by omega
      have⟨a0,af,S⟩:=hyd3 F D v;clear v D F;go_wp2;go_roundw
      case rel=>exact⟨k+1,d.set J c,by omega,by go_num,Lib.hid (by rw[List.length_set];exact j.out),S,Lib.hid (m.out.setCell (p:=⟨w.heap.size,J,none⟩) (Nat.le_refl _) _),Lib.hid (qAv (f:=gv .u32) g.out J c)⟩
      case measure=>simp[intOf];omega
  ·obtain rfl:k=(dg a).length :=by omega
   have O:=I.out.done;rw[qAT,qAT]at O;have hn:ArrL L (gv .u32) wr _ l:=ArrL.of_own n.out ai.out;have H:=I.out.low;have⟨Y,Q,aS,au⟩:=hyd4 O H I n;clear n I H O;go_wp2_with (first | (go_at_call 45;((with_reducible refine(qDx L _ _ _ hn).mono ?_);rintro e w' ⟨v2,rfl,rfl,ax⟩)));go_ret;exact⟨_,rfl,N.out,qAd ax Q.out Y.out⟩
end Go.Proofs.YtfmfefibadpobaaGreatDoor

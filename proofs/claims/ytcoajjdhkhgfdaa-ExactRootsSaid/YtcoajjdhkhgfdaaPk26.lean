/- Whole polynomials: primitive. (Printed by gen_polyk.py.) -/
import Derived.Test.YtcoajjdhkhgfdaaPk25
namespace Go.Proofs.Ytcoajjdhkhgfdaa
set_option maxRecDepth 100000
set_option maxHeartbeats 1000000
open Go.RowKit Go.Shelf
set_option linter.unusedVariables false
set_option linter.unusedSimpArgs false
def qB3 (l:List Int):Nat->Nat
 | 0=>0
 | n+1=>if l.getD n 0=0 then qB3 l n else n+1
theorem qDg (l:List Int):∀n,qB3 l n<=n
 | 0=>Nat.le_refl _
 | n+1=>by
  unfold qB3
  split
  ·exact Nat.le_succ_of_le (qDg l n)
  ·exact Nat.le_refl _
theorem qGY (l:List Int):∀n,qB3 l n=0∨l.getD (qB3 l n - 1) 0≠0
 | 0=> .inl rfl
 | n+1=>by
  unfold qB3
  split
  ·exact qGY l n
  ·rename_i h;exact .inr (by simpa using h)
def qAE (l:List Int):List Int:=l.take (qB3 l l.length)
def gcdK (l:List Int):Nat->Nat
 | 0=>0
 | k+1=>Nat.gcd (l.getD k 0).natAbs (gcdK l k)
def gcdI (l:List Int):Nat:=gcdK l l.length
def qA5 (l:List Int):List Int:=(qAE l).map λc=>c.tdiv ((gcdI (qAE l):Nat):Int)
theorem qFp (l:List Int):∀k j,j<k->gcdK l k∣(l.getD j 0).natAbs
 | k+1,j,h=>by
  unfold gcdK
  by_cases e:j=k
  ·subst e;exact Nat.gcd_dvd_left _ _
  ·exact Nat.dvd_trans (Nat.gcd_dvd_right _ _) (qFp l k j (by omega))
theorem qE3 {l:List Int} {x:Int} (h:x∈l):gcdI l∣x.natAbs:=by
 obtain⟨j,b,rfl⟩:=List.getElem_of_mem h;have:=qFp l l.length j b;rw[List.getD_eq_getElem?_getD,List.getElem?_eq_getElem b]at this;exact this
theorem qGu {l:List Int} {M:Nat} (h:∀x∈l,Isz x M):∀k,(dg (gcdK l k)).length <=M
 | 0=>by unfold gcdK;rw[qA1];exact Nat.zero_le _
 | k+1=>by
  have ih:=qGu h k
  have hc:(dg (l.getD k 0).natAbs).length <=M:=by
   rw[List.getD_eq_getElem?_getD]
   by_cases b:k<l.length
   ·rw[List.getElem?_eq_getElem b];exact h _ (List.getElem_mem b)
   ·rw[List.getElem?_eq_none (by omega)];show(dg 0).length <=M;rw[qA1];exact Nat.zero_le _
  unfold gcdK
  by_cases c:(l.getD k 0).natAbs =0
  ·rw[c,Nat.gcd_zero_left];exact ih
  ·exact Nat.le_trans (qAH (Nat.le_of_dvd (by omega) (Nat.gcd_dvd_left _ _))) hc
theorem qHP (l:List Int):(qAE l).length =qB3 l l.length:=by
 have:=qDg l l.length;unfold qAE;rw[List.length_take];omega
theorem qGZ {l:List Int} (h:(qAE l).length ≠0):(qAE l).getD ((qAE l).length - 1) 0≠0:=by
 have c:=qHP l;have b:=qGY l l.length;rw[c]at h ⊢
 rcases b with b|b
 ·exact absurd b h
 ·unfold qAE;rw[List.getD_eq_getElem?_getD,List.getElem?_take,if_pos (by omega),<-List.getD_eq_getElem?_getD];exact b
theorem qEz {l:List Int} {x:Int} (h:x∈qAE l):x∈l:=List.mem_of_mem_take h
theorem qD7 {l:List Int} {x:Int} (h:x∈qAE l):gcdI (qAE l)≠0:=λh0=>by
 have hp:0<(qAE l).length :=List.length_pos_of_mem h;have h1:=qGZ (l:=l) (by omega);have h2:=qFp (qAE l) (qAE l).length ((qAE l).length - 1) (by omega);change gcdI (qAE l)∣_ at h2;rw[h0,Nat.zero_dvd]at h2;omega
theorem qC6 {α β:Type} {f:α->Except Int β} {g:α->β}:∀{l:List α},(∀x∈l,f x= .ok (g x))->mapE f l= .ok (l.map g)
 | [],_=>rfl
 | a::l,h=>by
  show(match f a with | .error z=>_| .ok y=>match mapE f l with | .error z=>_| .ok ys=>_)=_
  rw[h a (by simp),qC6 λx hx=>h x (by simp[hx])]
  rfl
theorem MapPost.ok {β:Type} {K:EK β} {t:TypeId} {w w':World} {ys:List β} {e:Ending} (h:MapPost K t w (.ok ys) e w'):∃v,e= .returned v/\Le w w'/\RowE K t w.heap.size w' v ys:=by
 obtain⟨c,⟨g,v,b,d,f⟩| ⟨z,b,-⟩⟩:=h
 ·injection b with b;subst b;exact⟨v,d,c,f⟩
 ·cases b
theorem qFq (z:Int) (g:Nat):(z.tdiv (g:Int)).natAbs =z.natAbs / g:=by rw[Int.natAbs_tdiv,Int.natAbs_natCast];rfl
theorem qLL {z:Int} {g:Nat} (hg:g≠0) (hd:g∣z.natAbs):decide (z.tdiv (g:Int)<0)=decide (z<0):=by
 obtain⟨q,hq⟩:=hd;have b:(g:Int)∣z:=Int.ofNat_dvd_left.2 ⟨q,hq⟩;obtain⟨y,rfl⟩:=b;have c:(0:Int)<(g:Int):=by omega
 rw[Int.mul_tdiv_cancel_left _ (by omega),decide_eq_decide];constructor
 ·intro h;exact Int.mul_neg_of_pos_of_neg c h
 ·intro h;exact Int.neg_of_mul_neg_right h (by omega)
theorem qLM (z:Int) (g Bg:Nat) (tg:TypeId) (v vg:Value) (w:World) (kg:w.heap[Bg]? =some (.cells #[vg] tg)) (hg:NumL (λ_=>True) .u32 w vg g) (hz:IntL w v z) (hsz:Isz z 10000000) (hsg:(dg g).length <=10000000) (hg0:g≠0) (hgd:g∣z.natAbs):
  Calls Try.prog 95 #[v,.pointer (some ⟨Bg,0,none⟩)] w λe w'=>∃v',e= .returned v'/\Le w w'/\IntL w' v' (z.tdiv (g:Int)):=by
 obtain⟨A1,n1,c1,rfl,U⟩:=hz;obtain⟨W1,D,j,E⟩:=enew w (.cells #[.bool (decide (z<0)),.slice A1 n1 c1] 84);obtain⟨n,S,o,k2⟩:=enew W1 (.cells #[.bool false,.slice none 0 0] 84);obtain⟨sg,l⟩:∃s,decide (z<0)=s:=⟨_,rfl⟩;have h:=qLL hg0 hgd;rw[l]at E h D ⊢;have c:Le w n:=j.trans (o.mono j.size);have m:=(o.block _ (gsl E)).trans E;obtain⟨C,X⟩:∃x,w.heap.size=x:=⟨_,rfl⟩;obtain⟨G,Y⟩:∃x,W1.heap.size=x:=⟨_,rfl⟩;rw[X]at m;rw[Y]at k2;have hB:w.heap.size<=G:=by have:=j.size;omega
 have p0:n.cell? ⟨C,0,none⟩=some (.bool sg):=cell_of_row n C 0 _ _ _ m;have p1:n.cell? ⟨C,1,none⟩=some (.slice A1 n1 c1):=cell_of_row n C 1 _ _ _ m;have B:=(c.block _ (gsl kg)).trans kg;have q0:n.cell? ⟨Bg,0,none⟩=some vg:=cell_of_row n Bg 0 _ _ _ B;have L:=qD6 (λ_=>True) z.natAbs g _ _ n (Up.any _) (U.le c) (hg.le c) hsz hsg hg0;rw[<-qFq]at L;obtain⟨y,Z⟩:∃y,z.tdiv (g:Int)=y:=⟨_,rfl⟩;rw[Z]at L h ⊢;have⟨az,av,aw,ah,ay,ai,F,t⟩:=hyd8 kg hg U j E o k2 h;have⟨r,p,an,ab,ax,V,aj⟩:=hyd7 c m B L Z l hgd;clear hgd l Z L B m c h k2 o E j U hg kg;go_enter Try.func95,Try.ntmps95;go_wp2_with (fail);clear D S;go_at_call 63;refine ab.out.mono ?_;rintro e q ⟨v1,v2,rfl,d,k,-⟩;have A:=(d.block _ (gsl p.out)).trans p.out;have i:=(d.block _ (gsl F.out)).trans F.out;have p0:q.cell? ⟨C,0,none⟩=some (.bool sg):=cell_of_row q C 0 _ _ _ A;have r0:q.cell? ⟨G,0,none⟩=some (.bool false):=cell_of_row q G 0 _ _ _ i;have r1:q.cell? ⟨G,1,none⟩=some (.slice none 0 0):=cell_of_row q G 1 _ _ _ i;have⟨f0,f1⟩:=frz2 i;obtain⟨A4,c4,rfl⟩:=k.slice;obtain⟨P,R⟩:∃P,(dg y.natAbs).length =P:=⟨_,rfl⟩;rw[R]at k ⊢;have f:Le w q:=(show Le w n from r.out).trans d;obtain⟨g1,g2,H,I⟩:=qCS (b:=sg) (z:=y) f hB i (qAO _) (qAF _ _ _) k t.out.symm
 have⟨T,al,am,ak,au,J,O,Q⟩:=hyd8 d A i k R f g1 g2;have⟨M,N⟩:=hyd2 H I;clear I H g2 g1 f R k i A d;go_wp2;have H:=M.out;have I:=N.out;exact bodyPost_ret (v:= .agg #[.bool sg,.slice A4 P c4]) (by simp[results,Try.results95,go_sem,H,I]) rfl ⟨_,rfl,O.out,Q.out⟩
theorem qF4:qA8 Try.prog 95:=λ_ _=>by kernel_rfl
theorem qIB (z:Int) (g Bg:Nat) (tg:TypeId) (vg:Value) (w:World) (kg:w.heap[Bg]? =some (.cells #[vg] tg)) (hg:NumL (λ_=>True) .u32 w vg g) (hsz:Isz z 10000000) (hsg:(dg g).length <=10000000) (hg0:g≠0) (hgd:g∣z.natAbs):
  ElOk Try.prog intK intK (λc=> .ok (c.tdiv (g:Int))) 95 #[] #[.pointer (some ⟨Bg,0,none⟩)] w z:=by
 rintro l ⟨A,n,c,rfl,i⟩;refine(qLM z g Bg tg _ vg w kg hg ⟨A,n,c,rfl,i⟩ hsz hsg hg0 hgd).mono ?_;rintro e k ⟨m,rfl,b,d,j,f,rfl,h⟩;exact⟨b,.inl ⟨_,_,rfl,rfl,d,j,f,rfl,h⟩⟩
theorem NumL.zero0 (L:Nat->Prop) (k:IntKind) (w:World):NumL L k w (.slice none 0 0) 0:=by
 unfold NumL;rw[qA1];exact ArrL.nil _ _ _
theorem qDh (base:Nat) (v:Value) (xs:List Int) (w:World) (hv:RowE intK 84 base w v xs) (hl:xs.length<=1000000) (hs:∀x∈xs,Isz x 10000000):
  Calls Try.prog 65 #[v] w λe w'=>∃v',e= .returned v'/\Le w w'/\RowE intK 84 w.heap.size w' v' (qA5 xs):=by
 obtain⟨A,c,rfl⟩:=hv.slice;obtain⟨n,hn⟩:∃n,xs.length=n:=⟨_,rfl⟩;rw[hn]at hl;have⟨aE,B,bk⟩:=hyd3 hv hn hs;clear hs hn hv;rw[B.out];rw[B.out]at aE;go_enter Try.func65,Try.ntmps65;go_wp2_with (fail);go_loopw [0] (λs wr=>∃m:Nat,s= .slice A m c/\m<=n/\Hid (qB3 xs n=qB3 xs m)/\Hid (Below w.heap.size w wr)) (λs _=>qBa s)
 case atStart=>exact⟨n,rfl,Nat.le_refl _,Lib.hid rfl,Lib.hid (Below.refl _ _)⟩
 case round=>
  obtain⟨m,rfl,hm,ht,t⟩:=hrel
  by_cases h0:m=0
  ·have Y:=t.out;have N:qAE xs=xs.take m:=by unfold qAE;rw[B.out,ht.out,h0];rfl
   have r:RowE intK 84 base wr (.slice A m c) (qAE xs):=by
    rw[N];exact RowE.take (xs:=xs) (m:=m) (A:=A) (c:=c) (by rw[B.out];exact aE.out.le Y) (by omega)
   have ai:(qAE xs).length =m:=by rw[N,List.length_take,B.out];omega
   have w1:¬(0:Int)<(m:Int):=by omega
   have w2:¬0<m:=by omega
   clear ht t;have bl:=hyd1 N;clear N;have⟨y,q,o⟩:=hyd3 Y r ai;clear ai r Y;obtain⟨W1,aO,H,k1⟩:=enew wr (.cells #[.slice none 0 0] 55);obtain⟨D,aA⟩:∃b,wr.heap.size=b:=⟨_,rfl⟩;rw[aA]at k1;have S:Below w.heap.size w W1:=y.out.trans (H.mono y.out.size);have j:=q.out.le H;have ag:∀b,(Value.slice A m c).ownBlock =some b->b≠D:=λb t e=>by have:=(q.out.nib t).2.1;omega
   have bm:w.heap.size<=D:=by have:=y.out.size;omega
   obtain⟨d,Q⟩:∃d,qAE xs=d:=⟨_,rfl⟩;rw[Q]at j o;have ap:NumL (λ_=>True) .u32 W1 (.slice none 0 0) (gcdK d 0):=NumL.zero0 _ _ W1;have C:∀x∈d,Isz x 10000000:=λx R=>bk.out x (qEz (by rw[Q];exact R));have ar:=qGu C;have⟨bc,aV,V,L,aI,U,aq,M⟩:=hyd8 H k1 S j ag Q ap C;have ad:=hyd1 ar;clear ar C ap Q ag j S k1 H;go_wp2_with (fail);clear aO;go_loopw [27] (λi wr=>∃(k:Nat) (G n0 c0:_),i= .int .i64 (k:Int)/\k<=m/\Hid (Below w.heap.size w wr)/\Hid (RowE intK 84 base wr (.slice A m c) d)/\Hid (wr.heap[D]? =some (.cells #[.slice G n0 c0] 55))/\Hid (NumL (λ_=>True) .u32 wr (.slice G n0 c0) (gcdK d k))) (λi _=>m - (intOf i).toNat)
   case atStart=>exact⟨0,none,0,0,rfl,Nat.zero_le _,V,L,aV,aq⟩
   case round=>
    obtain⟨k,G,n0,c0,rfl,hk,t,f,kg,F⟩:=hrel
    by_cases aS:k<m
    ·exact absurd aS (by omega)
    ·obtain rfl:k=m:=by omega
     have j1:¬(k:Int)<(k:Int):=by omega
     have I:gcdK d k=gcdI d:=by unfold gcdI;rw[o.out]
     have l:=F.out;rw[I]at l;have J:=ad.out k;rw[I]at J
     have Z:=qDo (λc=> .ok (c.tdiv ((gcdI d:Nat):Int))) 95 #[] #[.pointer (some ⟨D,0,none⟩)] _ d wr f.out.seq (by rw[o.out];omega) qF4 λW hW x R=>
      qIB x (gcdI d) D 55 (.slice G n0 c0) W ((hW.block _ (gsl kg.out)).trans kg.out) (l.le hW) (M.out x R) J (by rw[<-U.out]at R ⊢;exact qD7 R) (qE3 R)
     have au:mapE (λc:Int=>(.ok (c.tdiv ((gcdI d:Nat):Int)):Except Int Int)) d= .ok (d.map λc:Int=>c.tdiv ((gcdI d:Nat):Int)):=qC6 (g:=λc:Int=>c.tdiv ((gcdI d:Nat):Int)) λx _=>rfl;rw[au]at Z;clear au;have ay:qA5 xs=d.map λc=>c.tdiv ((gcdI d:Nat):Int):=by unfold qA5;rw[U.out]
     have⟨E,a2,bq,aJ,be,aQ,bh,av⟩:=hyd8 t f kg F I l J Z;have az:=hyd1 ay;clear ay Z J l I F kg f t;subst h0;go_wp2_with (fail);go_at_call 41;refine av.out.mono ?_;intro e W5 hE;obtain⟨v5,rfl,z,aa⟩:=hE.ok;have a4:Le w W5:=(show Below w.heap.size w wr from E.out.out).trans (z.mono E.out.out.size);have ab:=aa.base (base':=w.heap.size) E.out.out.size;rw[<-az.out]at ab;have⟨bz,aR,bj,a5,a0⟩:=hyd5 hE z aa a4 ab;clear ab a4 aa z hE;go_wp2;go_ret;exact⟨_,rfl,a5.out,a0.out⟩
  ·obtain⟨k,rfl⟩:∃k,m=k+1:=⟨m - 1,by omega⟩;have ah:k<xs.length:=by rw[B.out];omega
   obtain⟨g,c',e1,aA,ag,b8,b4,cs,a1,hc⟩:=(aE.out.le t.out).at ah;rw[B.out]at e1 b8;unfold maxLen at b4;injection e1 with e1 e2 e3;subst e1 e3;clear e2;have af:xs.getD k 0=xs[k]:=by rw[List.getD_eq_getElem?_getD,List.getElem?_eq_getElem ah];rfl
   have O:qB3 xs (k+1)=if xs.getD k 0=0 then qB3 xs k else k+1:=rfl;rw[af]at O;generalize xs[k]=x at a1 af O;obtain⟨A1,n1,c1,rfl,a6⟩:=a1;have q1:wr.cell? ⟨g,k*2+1,none⟩=some (.slice A1 n1 c1):=hc 1 _ rfl;obtain⟨A7,c7,e7⟩:=a6.slice;injection e7 with e71 e72 e73;have aj:n1=0↔x=0:=by have:=dg_length_pos (n:=x.natAbs);omega
   clear e71 e73
   by_cases R:x=0
   ·have hz:=aj.2 R;subst hz;rw[if_pos R,<-ht.out]at O;have⟨bo,aK,E,bd,bf,bi,ba⟩:=hyd7 a6 O t hc af aj e72;clear e72 aj af hc t O a6;clear ht;go_wp2;go_roundw
    case rel=>exact⟨k,by go_num,by omega,aK,E.out⟩
    case measure=>simp[qBa]
   ·have hz:¬n1=0:=λh=>R (aj.1 h);have ch:((n1:Int)==0)=false:=by simpa using hz
    have ci:¬(n1:Int)=0:=by omega
    rw[if_neg R,<-ht.out]at O;have Y:=t.out;have N:qAE xs=xs.take (k+1):=by unfold qAE;rw[B.out,O]
    have r:RowE intK 84 base wr (.slice (some ⟨g,0,none⟩) (k+1) c) (qAE xs):=by
     rw[N];exact RowE.take (xs:=xs) (m:=k+1) (A:=some ⟨g,0,none⟩) (c:=c) (by rw[B.out];exact aE.out.le Y) (by rw[B.out];exact hm)
    have ai:(qAE xs).length =k+1:=by rw[N,List.length_take,B.out];omega
    clear ht t;have⟨bo,aK,bd,bf,bi,ba,bl⟩:=hyd7 a6 O hc af aj e72 N;clear N e72 aj af hc O a6;obtain⟨m,b6⟩:∃m,k+1=m:=⟨_,rfl⟩;rw[b6]at r ai hm ⊢;have w1:(m:Int) - 1=(k:Int):=by omega
    have w2:(0:Int)<(m:Int):=by omega
    have w3:(k:Int)<(m:Int):=by omega
    have w4:(0:Int)<=(k:Int):=by omega
    have w5:0<m:=by omega
    have w6:k<m:=by omega
    have⟨y,q,o⟩:=hyd3 Y r ai;clear ai r Y;obtain⟨W1,aO,H,k1⟩:=enew wr (.cells #[.slice none 0 0] 55);obtain⟨D,aA⟩:∃b,wr.heap.size=b:=⟨_,rfl⟩;rw[aA]at k1;have S:Below w.heap.size w W1:=y.out.trans (H.mono y.out.size);have j:=q.out.le H;have ag:∀b,(Value.slice (some ⟨g,0,none⟩) m c).ownBlock =some b->b≠D:=λb t e=>by have:=(q.out.nib t).2.1;omega
    have bm:w.heap.size<=D:=by have:=y.out.size;omega
    obtain⟨d,Q⟩:∃d,qAE xs=d:=⟨_,rfl⟩;rw[Q]at j o;have ap:NumL (λ_=>True) .u32 W1 (.slice none 0 0) (gcdK d 0):=NumL.zero0 _ _ W1;have C:∀x∈d,Isz x 10000000:=λx R=>bk.out x (qEz (by rw[Q];exact R));have ar:=qGu C;have⟨bc,aV,V,L,aI,U,aq,M⟩:=hyd8 H k1 S j ag Q ap C;have ad:=hyd1 ar;clear ar C ap Q ag j S k1 H;go_wp2_with (fail);clear aO;go_loopw [27] (λi wr=>∃(k:Nat) (G n0 c0:_),i= .int .i64 (k:Int)/\k<=m/\Hid (Below w.heap.size w wr)/\Hid (RowE intK 84 base wr (.slice (some ⟨g,0,none⟩) m c) d)/\Hid (wr.heap[D]? =some (.cells #[.slice G n0 c0] 55))/\Hid (NumL (λ_=>True) .u32 wr (.slice G n0 c0) (gcdK d k))) (λi _=>m - (intOf i).toNat)
    case atStart=>exact⟨0,none,0,0,rfl,Nat.zero_le _,V,L,aV,aq⟩
    case round=>
     obtain⟨k,G,n0,c0,rfl,hk,t,f,kg,F⟩:=hrel
     by_cases aS:k<m
     ·have ah:k<d.length:=by rw[o.out];exact aS
      obtain⟨gx,cx,e1,-,cf,-,-,cs,a1,hc⟩:=f.out.at ah;rw[o.out]at e1;injection e1 with e1 e2 e3;injection e1 with e1;injection e1 with e1;subst e1 e3;clear e2;have aD:=M.out _ (List.getElem_mem ah);have ax:gcdK d (k+1)=Nat.gcd (d.getD k 0).natAbs (gcdK d k):=rfl;have aF:d.getD k 0=d[k]:=by rw[List.getD_eq_getElem?_getD,List.getElem?_eq_getElem ah];rfl
      rw[aF]at ax;generalize d[k]=z9 at a1 aF aD ax;obtain⟨A6,n6,c6,rfl,aP⟩:=a1;obtain⟨s6,aT⟩:∃s,decide (z9<0)=s:=⟨_,rfl⟩;have x0:=hc 0 _ rfl;rw[aT]at x0;replace x0:wr.cell? ⟨g,k*2,none⟩=some (.bool s6):=x0;have x1:wr.cell? ⟨g,k*2+1,none⟩=some (.slice A6 n6 c6):=hc 1 _ rfl;obtain⟨W3,b1,X,k3⟩:=enew wr (.cells #[.bool s6,.slice A6 n6 c6] 84);obtain⟨bx,b3⟩:∃b,wr.heap.size=b:=⟨_,rfl⟩;rw[b3]at k3;have aH:Below w.heap.size w W3:=t.out.trans (X.mono t.out.size);have aW:=(X.block _ (gsl kg.out)).trans kg.out;have a3:=f.out.le X;have t0:W3.cell? ⟨bx,0,none⟩=some (.bool s6):=cell_of_row W3 bx 0 _ _ _ k3;have t1:W3.cell? ⟨bx,1,none⟩=some (.slice A6 n6 c6):=cell_of_row W3 bx 1 _ _ _ k3;have t2:W3.cell? ⟨D,0,none⟩=some (.slice G n0 c0):=cell_of_row W3 D 0 _ _ _ aW;have kc:=qDL (λ_=>True) z9.natAbs (gcdK d k) _ _ W3 (Up.any _) (aP.le X) (F.out.le X) aD (ad.out k);rw[<-ax]at kc;have j1:(k:Int)<(m:Int):=by omega
      have j2:(0:Int)<=(k:Int):=by omega
      have⟨E,a2,bq,aJ,bd,bS,bQ,bT⟩:=hyd8 t f kg F hc aD ax aF;have⟨bM,bL,cj,an,aL,aC,bB,bR⟩:=hyd8 aP X k3 aH aW a3 kc aT;clear aT kc a3 aW aH k3 X aP aF ax aD hc F kg f t;go_wp2_with (fail);clear b1;go_at_call 48;refine bB.out.mono ?_;rintro e W4 ⟨v4,rfl,T,aw⟩;obtain⟨A4,c4,rfl⟩:=aw.slice;obtain⟨P,hP⟩:∃P,(dg (gcdK d (k+1))).length =P:=⟨_,rfl⟩;rw[hP]at aw ⊢;have ao:Below w.heap.size w W4:=an.out.trans (T.mono an.out.size);have al:=(T.block _ (gsl aL.out)).trans aL.out;have ac:=aC.out.le T;have t2:W4.cell? ⟨D,0,none⟩=some (.slice G n0 c0):=cell_of_row W4 D 0 _ _ _ al;have f0:=fz0 al 0;have nb:=nib1 al (qAF _ _ _);have aB:Kp .u32 W4 (W4.setCell ⟨D,0,none⟩ (.slice A4 P c4)):=(Kp.refl W4).set nb (qAF _ _ _);have r1:Below w.heap.size w (W4.setCell ⟨D,0,none⟩ (.slice A4 P c4)):=Below.setCell ao (p:=⟨D,0,none⟩) bm _;have r2:RowE intK 84 base (W4.setCell ⟨D,0,none⟩ (.slice A4 P c4)) (.slice (some ⟨g,0,none⟩) m c) d:=ac.keep aB λb t=>Below.heap_setCell _ ⟨D,0,none⟩ _ b (aI.out b t);have r3:(W4.setCell ⟨D,0,none⟩ (.slice A4 P c4)).heap[D]? =some (.cells #[.slice A4 P c4] 55):=qC2 al 0 _;have r4:=aw.kp aB;have⟨b5,bP,ce,b2,bV,bt,ck,bN⟩:=hyd8 T aw hP ao al ac nb aB;have⟨bE,bF,bG,bH⟩:=hyd4 r1 r2 r3 r4;clear r4 r3 r2 r1 aB nb ac al ao hP aw T
      go_wp2;go_roundw
      case rel=>exact⟨k+1,_,_,_,by go_num,by omega,bE,bF,bG,bH⟩
      case measure=>simp[intOf];omega
     ·obtain rfl:k=m:=by omega
      have j1:¬(k:Int)<(k:Int):=by omega
      have I:gcdK d k=gcdI d:=by unfold gcdI;rw[o.out]
      have l:=F.out;rw[I]at l;have J:=ad.out k;rw[I]at J
      have Z:=qDo (λc=> .ok (c.tdiv ((gcdI d:Nat):Int))) 95 #[] #[.pointer (some ⟨D,0,none⟩)] _ d wr f.out.seq (by rw[o.out];omega) qF4 λW hW x R=>
       qIB x (gcdI d) D 55 (.slice G n0 c0) W ((hW.block _ (gsl kg.out)).trans kg.out) (l.le hW) (M.out x R) J (by rw[<-U.out]at R ⊢;exact qD7 R) (qE3 R)
      have au:mapE (λc:Int=>(.ok (c.tdiv ((gcdI d:Nat):Int)):Except Int Int)) d= .ok (d.map λc:Int=>c.tdiv ((gcdI d:Nat):Int)):=qC6 (g:=λc:Int=>c.tdiv ((gcdI d:Nat):Int)) λx _=>rfl;rw[au]at Z;clear au;have ay:qA5 xs=d.map λc=>c.tdiv ((gcdI d:Nat):Int):=by unfold qA5;rw[U.out]
      have⟨E,a2,bq,aJ,be,aQ,bh,av⟩:=hyd8 t f kg F I l J Z;have az:=hyd1 ay;clear ay Z J l I F kg f t;go_wp2_with (fail);go_at_call 41;refine av.out.mono ?_;intro e W5 hE;obtain⟨v5,rfl,z,aa⟩:=hE.ok;have a4:Le w W5:=(show Below w.heap.size w wr from E.out.out).trans (z.mono E.out.out.size);have ab:=aa.base (base':=w.heap.size) E.out.out.size;rw[<-az.out]at ab;have⟨bz,aR,bj,a5,a0⟩:=hyd5 hE z aa a4 ab;clear ab a4 aa z hE;go_wp2;go_ret;exact⟨_,rfl,a5.out,a0.out⟩
end Go.Proofs.Ytcoajjdhkhgfdaa

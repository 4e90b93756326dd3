/- pattern: repeats, motif, gcd, closes. The reference of layer 4: motif, closing. pattern: Closes, Motif; the reference's: Closes, Motif. -/
import Derived.Test.YtbcbcdgbliheoaaGreatPk09
import Derived.Test.YtbcbcdgbliheoaaGreatPk11
namespace Go.Proofs.YtbcbcdgbliheoaaGreat
set_option maxRecDepth 100000
set_option maxHeartbeats 2000000
open Go.RowKit
set_option linter.unusedVariables false
set_option linter.unusedSimpArgs false
theorem qL9 (x n:Int) (hn:0<n):(x.tmod n != 0)= !decide (x%n=0):=by
 obtain⟨d,f,c,b⟩:=qEk x n hn
 by_cases h:x.tmod n=0
 ·have:=b (by omega);rw[h]at this;simp[h,<-this]
 ·have:x%n≠0:=by
   rcases Int.lt_or_le (x.tmod n) 0 with hl|hl
   ·have:=c hl;omega
   ·have:=b hl;omega
  simp[h,this]
theorem qK3 (b:Nat) (p:Prog) (m:Nat) (w:World) (hb:IsBench w b p) (hp:BenchFacts p) (h1:1<=m) (h2:m<=p.shifts.length):
  Calls Tryz.prog 53 #[.pointer (some ⟨b,0,none⟩),.int .i64 m] w λe w'=>e= .returned (.bool (qCk p m))/\∃n,w'=w.drewN n:=by
 obtain⟨v5,vl,H,-,-,-,-,c5,-,-,c8,X⟩:=hb.cells;replace X:w.cell? ⟨b,9,none⟩=some (.int .i64 (per p)):=X;have B:=hyd1 H;obtain⟨A,c,rfl,af,N,_,_⟩:=id H;unfold maxLen at N;have ai:=hp.sh1;have G:=qB2 hp;have ah:=hp.ros1;have aa:=G.1;have ab:per p<=96:=by omega
 clear H G;obtain⟨R,I⟩:∃R,qCk p m=R:=⟨_,rfl⟩;rw[I];have D:=hyd1 I;clear I;go_enter Tryz.func53,Tryz.ntmps53;go_wp2;go_loopw [5] (λi wr=>∃k:Nat,m<=k/\k<=p.shifts.length/\i= .int .i64 k/\Hid (∃n,wr=w.drewN n)/\Hid (∀j,m<=j->j<k->(p.shifts.getD j 0 - p.shifts.getD (j - m) 0)%(per p:Int)=0)) (λi _=>p.shifts.length - (intOf i).toNat)
 case atStart=>exact⟨m,Nat.le_refl _,h2,rfl,Lib.hid ⟨0,rfl⟩,Lib.hid λj _ h=>absurd h (by omega)⟩
 case round=>
  obtain⟨k,S,hk,rfl,O,F⟩:=hrel;have E:(k:Int) - (m:Int)=((k - m:Nat):Int):=(Int.ofNat_sub S).symm;have hd:IntKind.i64.wrap ((k:Int) - (m:Int))=((k - m:Nat):Int):=by rw[E];exact IntWalk.i64_in _ (by omega)
  clear E;obtain⟨nd,T⟩:=O.out;subst T
  by_cases l:k<p.shifts.length
  ·obtain⟨sb,so,Z,ac,M⟩:=B.out.look l;have g:k - m<p.shifts.length:=by omega
   obtain⟨an,ao,r,Y,o⟩:=B.out.look g;subst Z;injection r with r;injection r with e1 e2;subst e1 e2;have hx:=hp.sh k l;have hy:=hp.sh (k - m) g;have s:p.shifts.getD k 0=p.shifts[k]:=by simp[l]
   have t:p.shifts.getD (k - m) 0=p.shifts[k - m]:=by simp[g]
   generalize p.shifts[k]=x at M hx s;generalize p.shifts[k - m]=y at o hy t;have i1:(0:Int)<=(k:Int):=by omega
   have i2:(k:Int)<(p.shifts.length:Int):=by omega
   have i3:(0:Int)<=((k - m:Nat):Int):=by omega
   have i4:((k - m:Nat):Int)<(p.shifts.length:Int):=by omega
   have j1:IntKind.i64.wrap (x - y)=x - y:=IntWalk.i64_in _ (by omega);have z:=qL9 (x - y) (per p) (by omega);have⟨q,f⟩:=hyd2 s t;generalize hD:k - m=d at hd i3 i4 o f;have C:=hyd1 hD;clear hD;clear s t
   by_cases v:(x - y)%(per p:Int)=0
   ·rw[decide_eq_true v]at z;have V:((x - y).tmod (per p:Int) != 0)=false:=z;have U:=hyd1 v;clear v;clear z;go_wp2;go_quiet (fail);go_wp2;go_roundw
    case rel=>exact⟨k+1,by omega,by omega,by go_num,Lib.hid (by first |exact⟨_,rfl⟩|exact⟨_,World.drewN_drewN _ _ _⟩),Lib.hid λj h1 h2=>by
     by_cases Q:j=k
     ·subst Q;rw[q.out,C.out,f.out];exact U.out
     ·exact F.out j h1 (by omega)⟩
    case measure=>simp[intOf];omega
   ·rw[decide_eq_false v]at z;have V:((x - y).tmod (per p:Int) != 0)=true:=z
    have J:R=false:=by
     rw[<-D.out];unfold qCk;refine List.all_eq_false.2 ⟨k,List.mem_range.2 l,?_⟩;rw[q.out,C.out,f.out];simp[v];omega
    subst J;clear z v;go_wp2;go_quiet (fail);go_wp2;go_ret;exact⟨rfl,by first |exact⟨_,rfl⟩|exact⟨_,World.drewN_drewN _ _ _⟩⟩
  ·obtain rfl:k=p.shifts.length:=by omega
   have L:R=true:=by
    rw[<-D.out];unfold qCk;refine List.all_eq_true.2 λi hi=>?_;have P:=List.mem_range.1 hi
    by_cases hm:i<m
    ·simp[hm]
    ·have:=F.out i (by omega) P;simp only[Bool.or_eq_true,decide_eq_true_eq];exact .inr this
   subst L;go_wp2;go_ret;exact⟨rfl,_,rfl⟩
theorem qGV (b:Nat) (p:Prog) (w:World) (hb:IsBench w b p) (hp:BenchFacts p):
  Calls Tryz.prog 25 #[.pointer (some ⟨b,0,none⟩)] w λe w'=>e= .returned (.tuple #[.int .i64 (qA1 p),.int .i64 (qBT p)])/\∃n,w'=w.drewN n:=by
 have Q:=hyd1 hb;obtain⟨v5,vl,-,-,-,-,-,-,-,-,P,o⟩:=hb.cells;replace o:w.cell? ⟨b,9,none⟩=some (.int .i64 (per p)):=o;have ab:=hp.sh0;have ac:=hp.sh1;have M:=qB2 hp;have aa:=hp.ros1;have Y:=M.1;have Z:per p<=96:=by omega
 have S:=qEr hp;have x:=Lib.hid (qK2 hp);clear M hb;go_enter Tryz.func25,Tryz.ntmps25;go_wp2;go_loopw [2] (λi wr=>∃k:Nat,1<=k/\k<=qA1 p/\i= .int .i64 k/\Hid (IsBench wr b p/\∃n,wr=w.drewN n)/\Hid (∀j,1<=j->j<k->¬(p.shifts.length%j=0/\qCk p j=true))) (λi _=>qA1 p - (intOf i).toNat)
 case atStart=>exact⟨1,Nat.le_refl _,S.1,rfl,Lib.hid ⟨Q.out,0,rfl⟩,Lib.hid λj _ h=>absurd h (by omega)⟩
 case round=>
  obtain⟨k,J,hk,rfl,s,D⟩:=hrel;have l:=Lib.hid s.out.1;clear P o;obtain⟨_,_,-,-,-,-,-,-,-,-,P,o⟩:=l.out.cells;replace o:wr.cell? ⟨b,9,none⟩=some (.int .i64 (per p)):=o;obtain⟨R,I⟩:∃R,qCk p k=R:=⟨_,rfl⟩;have c:∀W:World,IsBench W b p->Calls Tryz.prog 53 #[.pointer (some ⟨b,0,none⟩),.int .i64 k] W λe w'=>e= .returned (.bool R)/\∃n,w'=W.drewN n:=λW h=>by rw[<-I];exact qK3 b p k W h hp J (by omega)
  by_cases G:p.shifts.length%k=0
  ·have hz:(((p.shifts.length:Nat):Int)%(k:Int) != 0)=false:=by rw[show((p.shifts.length:Nat):Int)%(k:Int)=((p.shifts.length%k:Nat):Int)by simp,G];rfl
   have⟨d,q,A⟩:=hyd3 c I G;clear G I c
   cases R with
   | true=>
    have C:=qJ6 hp J A.out q.out D.out;have f:qBT p=qAS p k%(per p:Int):=by unfold qBT;rw[<-C]
    have t:=qBn hp k;obtain⟨y,N⟩:∃y,qAS p k=y:=⟨_,rfl⟩;rw[N]at t f;have g:∀W:World,IsBench W b p->Calls Tryz.prog 24 #[.pointer (some ⟨b,0,none⟩),.int .i64 k] W λe w'=>e= .returned (.int .i64 y)/\∃n,w'=W.drewN n:=λW h=>by rw[<-N];exact qEB b p k W h hp (by omega) (by omega)
    have hq:0<=y:=t.1;have⟨m,L,v,ad,U⟩:=hyd5 g C f N t;clear t N f C g;have j1:y.tmod (per p:Int)=y%(per p:Int):=Int.tmod_eq_emod_of_nonneg hq;have k1:((per p:Int)==0)=false:=by simp;omega
    go_wp2_with (first | (go_at_call 53;((with_reducible refine(d.out _ l.out).mono ?_);rintro e w' ⟨rfl,O,E⟩;have r:=Lib.hid (show IsBench w' b p from E▸l.out.drewN O);have F:=Lib.hid E;clear E;obtain⟨_,_,-,-,-,-,-,-,-,-,P,o⟩:=r.out.cells;replace o:w'.cell? ⟨b,9,none⟩=some (.int .i64 (per p)):=o)));go_quiet (first | (go_at_call 24;exact Calls.quiet_of (m.out _ (r.out.drewN _))));go_wp2;go_ret2;exact⟨by rw[v.out,<-L.out];exact rfl,by obtain⟨V,z⟩:=s.out.2;exact⟨_,by rw[F.out,z,World.drewN_drewN,World.drewN_drewN]⟩⟩
   | false=>
    have T:k≠qA1 p:=λe=>by have:=x.out.2;rw[<-e,q.out]at this;cases this
    go_wp2_with (first | (go_at_call 53;((with_reducible refine(d.out _ l.out).mono ?_);rintro e w' ⟨rfl,O,E⟩;have r:=Lib.hid (show IsBench w' b p from E▸l.out.drewN O);have F:=Lib.hid E;clear E)));go_roundw
    case rel=>exact⟨k+1,by omega,by omega,by go_num,Lib.hid ⟨r.out,by obtain⟨V,z⟩:=s.out.2;exact⟨V+O,by rw[F.out,z,World.drewN_drewN]⟩⟩,Lib.hid λj z X H=>by
     by_cases B:j=k
     ·subst B;have:=H.2;rw[q.out]at this;cases this
     ·exact D.out j z (by omega) H⟩
    case measure=>simp[intOf];omega
  ·have hz:(((p.shifts.length:Nat):Int)%(k:Int) != 0)=true:=by
    rw[show((p.shifts.length:Nat):Int)%(k:Int)=((p.shifts.length%k:Nat):Int)by simp];simp only[bne_iff_ne,ne_eq];omega
   have T:k≠qA1 p:=λe=>G (by have:=x.out.1;rwa[<-e]at this);have⟨d,q,A⟩:=hyd3 c I G;clear G I c;go_wp2;go_roundw
   case rel=>exact⟨k+1,by omega,by omega,by go_num,s,Lib.hid λj z X H=>by
    by_cases B:j=k
    ·subst B;exact A.out H.1
    ·exact D.out j z (by omega) H⟩
   case measure=>simp[intOf];omega
theorem qIg (a b:Nat) (w:World) (ha:a<=1000000) (hb:b<=1000000):
  Calls Tryz.prog 28 #[.int .i64 a,.int .i64 b] w λe w'=>e= .returned (.int .i64 (Nat.gcd a b))/\∃n,w'=w.drewN n:=by
 obtain⟨G,h⟩:∃G,Nat.gcd a b=G:=⟨_,rfl⟩;rw[h];have k:=hyd1 h;clear h;go_enter Tryz.func28,Tryz.ntmps28;go_wp2;go_loopw [0,1] (λi j wr=>∃x y:Nat,x<=1000000/\y<=1000000/\i= .int .i64 x/\j= .int .i64 y/\Hid (Nat.gcd x y=G)/\Hid (∃n,wr=w.drewN n)) (λ_ j _=>(intOf j).toNat)
 case atStart=>exact⟨a,b,ha,hb,rfl,rfl,k,Lib.hid ⟨0,rfl⟩⟩
 case round=>
  obtain⟨x,y,z,v,rfl,rfl,r,l⟩:=hrel;obtain⟨B,q⟩:=l.out;subst q
  by_cases s:y=0
  ·subst s;have o:x=G:=by have:=r.out;simpa using this
   subst o;go_wp2;go_ret;exact⟨rfl,_,rfl⟩
  ·have A:((y:Int) != 0)=true:=by simp;omega
   have p:=Nat.mod_lt x (show y>0 by omega);have c:(x:Int)%(y:Int)=((x%y:Nat):Int):=by simp
   have d:(x:Int).tmod (y:Int)=((x%y:Nat):Int):=by rw[Int.tmod_eq_emod_of_nonneg (by omega)];exact c
   have g:Nat.gcd y (x%y)=G:=by rw[<-r.out,Nat.gcd_comm x y,Nat.gcd_rec y x,Nat.gcd_comm]
   have f:=hyd1 g;clear g;generalize hM:x%y=m at p c d f;have t:=hyd1 hM;clear hM;go_wp2;go_quiet (fail);go_wp2;go_roundw
   case rel=>exact⟨y,m,v,by omega,rfl,by first |rfl| (rw[c])| (rw[d]),f,Lib.hid ⟨_,World.drewN_drewN _ _ _⟩⟩
   case measure=>simp[intOf];omega
theorem qD9 (b:Nat) (p:Prog) (w:World) (hb:IsBench w b p) (hp:BenchFacts p):
  Calls Tryz.prog 26 #[.pointer (some ⟨b,0,none⟩)] w λe w'=>e= .returned (.int .i64 (qAD p))/\∃n,w'=w.drewN n:=by
 have o:=hyd1 hb;obtain⟨Z,vl,-,-,-,-,-,-,-,-,C,i⟩:=hb.cells;replace i:w.cell? ⟨b,9,none⟩=some (.int .i64 (per p)):=i;have s:=qB2 hp;have S:=hp.ros1;have k:=s.1;have x:per p<=96:=by omega
 have Q:=qEr hp;have T:=hp.sh1;have z:=qGg hp;have c:=qCo hp;obtain⟨t,j⟩:∃t:Nat,qBT p=(t:Int):=⟨(qBT p).toNat,by omega⟩;have v:qAD p=qA1 p*(per p / Nat.gcd (per p) t):=by unfold qAD;rw[j,Int.toNat_natCast]
 have M:1<=Nat.gcd (per p) t:=Nat.gcd_pos_of_pos_left _ k;have O:Nat.gcd (per p) t<=96:=Nat.le_trans (Nat.gcd_le_left _ k) x;rw[j]at z;rw[v]at c;rw[j,Int.toNat_natCast]at c;clear s hb;have d:∀W,IsBench W b p->Calls Tryz.prog 25 #[.pointer (some ⟨b,0,none⟩)] W λe w'=>e= .returned (.tuple #[.int .i64 (qA1 p),.int .i64 t])/\∃n,w'=W.drewN n:=λW h=>by rw[<-j];exact qGV b p W h hp
 rw[v];generalize qA1 p=m at*;generalize hPe:per p=N at*;generalize hGe:Nat.gcd N t=g at*;have hq:(N:Int) / (g:Int)=((N / g:Nat):Int):=by simp
 have R:(N:Int).tdiv (g:Int)=((N / g:Nat):Int):=by rw[Int.tdiv_eq_ediv_of_nonneg (by omega)];exact hq
 have Y:((g:Int)==0)=false:=by simp;omega
 have q:∀W,Calls Tryz.prog 28 #[.int .i64 N,.int .i64 t] W λe w'=>e= .returned (.int .i64 g)/\∃n,w'=W.drewN n:=λW=>by
  have h:=qIg N t W (by omega) (by omega);rw[hGe]at h;exact h
 generalize N / g=D at*;have P:=c.2.2.2;have J:=c.2.1;have E:(m:Int)*(D:Int)=((m*D:Nat):Int):=by simp
 have V:IntKind.i64.wrap ((m:Int)*(D:Int))=(m:Int)*D:=IntWalk.i64_in _ (by omega);have X:IntKind.i64.wrap (D:Int)=D:=IntWalk.i64_in _ (by omega);have⟨f,r,F,l,L,U,G,I⟩:=hyd8 d q hGe hPe v j c E;clear E c j v hPe hGe q d;go_enter Tryz.func26,Tryz.ntmps26;clear C i;go_wp2_with (first | (go_at_call 25;((with_reducible refine(f.out _ o.out).mono ?_);rintro e w' ⟨rfl,H,A⟩;have y:=Lib.hid (show IsBench w' b p from A▸o.out.drewN H);have B:=Lib.hid A;clear A;obtain⟨_,_,-,-,-,-,-,-,-,-,C,i⟩:=y.out.cells;replace i:w'.cell? ⟨b,9,none⟩=some (.int .i64 N):=(by rw[<-l.out];exact i))));go_quiet (first | (go_at_call 28;exact Calls.quiet_of (r.out _)));go_wp2;go_ret;exact⟨qC1 (by simp),H+nq,by rw[B.out,World.drewN_drewN]⟩
def qBG (E x:Int):Int:=if E=0 then x else 0
theorem qDC (x:Int):qBG 0 x=x:=rfl
theorem qB3 {E:Int} (h:E≠0) (x:Int):qBG E x=0:=if_neg h
theorem qDe (v:Value) (p:Prog) (w:World) (hv:IsProg w v p) (E:Int) (hE:qAJ p=E):
  Calls Tryz.prog 8 #[v] w λe w'=>e= .returned (.tuple #[.int .i64 (qBG E (qAD p)),.int .i64 E])/\Below w.heap.size w w':=by
 have l:=Lib.hid hv;obtain⟨z,A,B,rfl,o,q,r⟩:=hv;clear o q r
 by_cases c:E=0
 ·subst c;have x:=qAr hE;have g:=hyd1 hE;clear hE;rw[qDC];go_enter Tryz.func8,Tryz.ntmps8;go_wp2_with (first | (go_at_call 21;((with_reducible refine(qAM _ p _ (l.out.below (alc1 _ _)) 0 g.out).mono ?_);rintro e w' ⟨y,rfl,d,-,k⟩;obtain⟨b,rfl,s,f⟩:=k rfl;have i:=(Box.start w _).next d;clear d k))| (go_at_call 26;((with_reducible refine(qD9 b p _ f x).mono ?_);rintro e w' ⟨rfl,n,rfl⟩)));go_ret2;exact⟨rfl,(i.drewN n).below⟩
 ·have t:(E != 0)=true:=by simpa using c
  rw[qB3 c];have⟨g,h⟩:=hyd2 hE c;clear c hE;go_enter Tryz.func8,Tryz.ntmps8;go_wp2_with (first | (go_at_call 21;((with_reducible refine(qAM _ p _ (l.out.below (alc1 _ _)) E g.out).mono ?_);rintro e w' ⟨y,rfl,d,j,-⟩;have m:=j h.out;subst m;clear j)));go_ret2;exact⟨rfl,((Box.start w _).next d).below⟩
theorem qF2 (v:Value) (p:Prog) (w:World) (hv:IsProg w v p) (E:Int) (hE:qAJ p=E):
  Calls Tryz.prog 6 #[v] w λe w'=>e= .returned (.tuple #[.int .i64 (qBG E (qA1 p)),.int .i64 (qBG E (qBT p)),.int .i64 E])/\Below w.heap.size w w':=by
 have l:=Lib.hid hv;obtain⟨z,A,B,rfl,o,q,r⟩:=hv;clear o q r
 by_cases c:E=0
 ·subst c;have x:=qAr hE;have g:=hyd1 hE;clear hE;rw[qDC,qDC];go_enter Tryz.func6,Tryz.ntmps6;go_wp2_with (first | (go_at_call 21;((with_reducible refine(qAM _ p _ (l.out.below (alc1 _ _)) 0 g.out).mono ?_);rintro e w' ⟨y,rfl,d,-,k⟩;obtain⟨b,rfl,s,f⟩:=k rfl;have i:=(Box.start w _).next d;clear d k))| (go_at_call 25;((with_reducible refine(qGV b p _ f x).mono ?_);rintro e w' ⟨rfl,n,rfl⟩)))
  go_ret3
  exact⟨rfl,(i.drewN n).below⟩
 ·have t:(E != 0)=true:=by simpa using c
  rw[qB3 c,qB3 c];have⟨g,h⟩:=hyd2 hE c;clear c hE;go_enter Tryz.func6,Tryz.ntmps6;go_wp2_with (first | (go_at_call 21;((with_reducible refine(qAM _ p _ (l.out.below (alc1 _ _)) E g.out).mono ?_);rintro e w' ⟨y,rfl,d,j,-⟩;have m:=j h.out;subst m;clear j)))
  go_ret3
  exact⟨rfl,((Box.start w _).next d).below⟩
end Go.Proofs.YtbcbcdgbliheoaaGreat

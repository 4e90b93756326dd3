/- qAZ laws of motifs: the least number of shifts that come again, modulo the period; after how many cuts a pattern closes. The reference of layer 4: Check, Lift. .. -/
import Derived.Test.YtbcbcdgbliheoaaGreatPk08
import Derived.Deep.DrawnRows
namespace Go.Proofs.YtbcbcdgbliheoaaGreat
set_option maxRecDepth 100000
set_option linter.unusedVariables false
theorem qIc (f:List Int) (h:0<f.length):∃s,IsLeast f s:=by
 have b:∀n:Nat,(∃s:Nat,1<=s/\s<=n/\Shifts f s)->∃s,IsLeast f s:=by
  intro n
  induction n with
  | zero=>rintro⟨s,c,l,_⟩;omega
  | succ n ih=>
   rintro⟨s,c,l,k⟩
   by_cases i:∃s:Nat,1<=s/\s<=n/\Shifts f s
   ·exact ih i
   ·by_cases o:s<=n
    ·exact absurd ⟨s,c,o,k⟩ i
    ·exact⟨s,c,k,λj d m g=>i ⟨j,d,by omega,g⟩⟩
 exact b f.length ⟨f.length,h,Nat.le_refl _,Shifts.len f⟩
theorem qEC (f:List Int) (h:0<f.length):IsLeast f (qB1 f):=by
 obtain⟨s,b⟩:=qIc f h;rw[b.period h];exact b
theorem qGf (f:List Int) (h:0<f.length):qB1 f∣f.length:=by
 have:=((qEC f h).dvd (f.length:Int)).1 (Shifts.len f);exact Int.natCast_dvd_natCast.1 this
def per (p:Prog):Nat:=qB1 (qAP p.ros p.rub)
def modS (p:Prog):List Int:=p.shifts.map (· %(per p:Int))
def qA1 (p:Prog):Nat:=qB1 (modS p)
def qBT (p:Prog):Int:=qAS p (qA1 p)%(per p:Int)
def qAD (p:Prog):Nat:=qA1 p*(per p / Nat.gcd (per p) (qBT p).toNat)
theorem qCf (p:Prog):(modS p).length =p.shifts.length:=by simp[modS]
theorem qB2 {p:Prog} (hp:BenchFacts p):1<=per p/\per p<=p.ros.length/\per p∣p.ros.length:=by
 have f:=hp.ros0;have d:=qAQ p.ros p.rub;have c:=qEC (qAP p.ros p.rub) (by omega);have b:=qGf (qAP p.ros p.rub) (by omega);rw[d]at b;exact⟨c.pos,Nat.le_of_dvd (by omega) b,b⟩
theorem qD1 {p:Prog} (hp:BenchFacts p):IsLeast (modS p) (qA1 p):=qEC _ (by rw[qCf];exact hp.sh0)
theorem qD8 {p:Prog} (hp:BenchFacts p):qA1 p∣p.shifts.length:=by
 have:=qGf (modS p) (by rw[qCf];exact hp.sh0)
 rwa[qCf]at this
theorem qEr {p:Prog} (hp:BenchFacts p):1<=qA1 p/\qA1 p<=p.shifts.length:=⟨(qD1 hp).pos,Nat.le_of_dvd hp.sh0 (qD8 hp)⟩
theorem qGg {p:Prog} (hp:BenchFacts p):0<=qBT p/\qBT p<per p:=by
 have h:=(qB2 hp).1;exact⟨Int.emod_nonneg _ (by omega),Int.emod_lt_of_pos _ (by omega)⟩
theorem qId (p:Prog) (i:Nat) (h:i<p.shifts.length):atR (modS p) (i:Int)=p.shifts[i]%(per p:Int):=by
 rw[qC2 i (by rw[qCf];exact h)];simp[modS]
def qCk (p:Prog) (m:Nat):Bool:=(List.range p.shifts.length).all λi=>decide (i<m)||decide ((p.shifts.getD i 0 - p.shifts.getD (i - m) 0)%(per p:Int)=0)
theorem qL7 (p:Prog) (m:Nat):qCk p m=true↔∀i (h:i<p.shifts.length),m<=i->atR (modS p) ((i:Int) - m)=atR (modS p) i:=by
 unfold qCk;simp only[List.all_eq_true,List.mem_range,Bool.or_eq_true,decide_eq_true_eq]
 have c:∀i (h:i<p.shifts.length),m<=i->((p.shifts.getD i 0 - p.shifts.getD (i - m) 0)%(per p:Int)=0↔atR (modS p) ((i:Int) - m)=atR (modS p) i):=λi h d=>by
  rw[show(i:Int) - m=((i - m:Nat):Int)by omega,qId p i h,qId p (i - m) (by omega),<-Int.emod_eq_emod_iff_emod_sub_eq_zero];simp only[List.getD_eq_getElem?_getD,List.getElem?_eq_getElem h,List.getElem?_eq_getElem (show i - m<p.shifts.length by omega),Option.getD_some];exact eq_comm
 constructor
 ·intro h i b d
  rcases h i b with h1|h1
  ·omega
  ·exact(c i b d).1 h1
 ·intro h i b
  by_cases d:i<m
  ·exact .inl d
  ·exact .inr ((c i b (by omega)).2 (h i b (by omega)))
theorem qE3 {p:Prog} {m:Nat} (h1:1<=m) (hd:m∣p.shifts.length) (h0:1<=p.shifts.length):qCk p m=true↔Shifts (modS p) m:=by
 rw[qL7];constructor
 ·intro h;obtain⟨q,hq⟩:=hd
  have b:∀j r:Nat,r<m->r+m*j<p.shifts.length->atR (modS p) ((r+m*j:Nat):Int)=atR (modS p) r:=by
   intro j
   induction j with
   | zero=>intro r _ _;simp
   | succ j ih=>
    intro r d g;have e:m*(j+1)=m*j+m:=by rw[Nat.mul_add,Nat.mul_one]
    have:=h (r+m*(j+1)) g (by omega);rw[<-this,show((r+m*(j+1):Nat):Int) - m=((r+m*j:Nat):Int)by omega];exact ih r d (by omega)
  intro i;have f:((modS p).length :Int)=p.shifts.length:=by rw[qCf]
  have k:=Int.emod_nonneg i (show(p.shifts.length:Int)≠0 by omega);have x:=Int.emod_lt_of_pos i (show(0:Int)<(p.shifts.length:Int)by omega);obtain⟨r,d⟩:∃r:Nat,i%(p.shifts.length:Int)=(r:Int):=⟨_,(Int.toNat_of_nonneg k).symm⟩;have l:r<p.shifts.length:=by omega
  have s:atR (modS p) i=atR (modS p) r:=qDU _ _ _ (by rw[f,d];exact(Int.emod_eq_of_lt (by omega) (by omega)).symm);have t:atR (modS p) (i - m)=atR (modS p) ((r:Int) - m):=qDU _ _ _ (by rw[f,<-d,Int.emod_sub_emod]);rw[s,t]
  by_cases n:m<=r
  ·exact h r l n
  ·have c:1<=q:=by
    rcases Nat.eq_zero_or_pos q with h|h
    ·rw[h,Nat.mul_zero]at hq;omega
    ·exact h
   have v:atR (modS p) ((r:Int) - m)=atR (modS p) ((r+m*(q - 1):Nat):Int):=by
    refine qDU _ _ _ ?_;rw[f,hq];have e:m*q=m*(q - 1)+m:=by rw[Nat.mul_sub,Nat.mul_one,Nat.sub_add_cancel (Nat.le_mul_of_pos_right m c)]
    rw[show((r+m*(q - 1):Nat):Int)=((r:Int) - m)+((m*q:Nat):Int)by omega,Int.natCast_mul];have o:=Int.add_mul_emod_self_left ((r:Int) - m) ((m:Int)*q) 1;rw[Int.mul_one]at o;exact o.symm
   rw[v];have e:m*q=m*(q - 1)+m:=by rw[Nat.mul_sub,Nat.mul_one,Nat.sub_add_cancel (Nat.le_mul_of_pos_right m c)]
   exact b (q - 1) r (by omega) (by omega)
 ·intro h i y n;exact h i
theorem qJ6 {p:Prog} (hp:BenchFacts p) {k:Nat} (h1:1<=k) (hd:p.shifts.length%k=0) (hr:qCk p k=true) (hn:∀j,1<=j->j<k->¬(p.shifts.length%j=0/\qCk p j=true)):k=qA1 p:=by
 have d:=(qE3 h1 (Nat.dvd_of_mod_eq_zero hd) hp.sh0).1 hr;have b:=qD1 hp
 have c:qA1 p<=k:=by
  rcases Nat.lt_or_ge k (qA1 p)with h|h
  ·exact absurd d (b.least k h1 h)
  ·exact h
 rcases Nat.lt_or_ge (qA1 p) k with h|h
 ·exact absurd ⟨Nat.mod_eq_zero_of_dvd (qD8 hp),(qE3 b.pos (qD8 hp) hp.sh0).2 b.sh⟩ (hn _ b.pos h)
 ·omega
theorem qK2 {p:Prog} (hp:BenchFacts p):p.shifts.length%qA1 p=0/\qCk p (qA1 p)=true:=
 ⟨Nat.mod_eq_zero_of_dvd (qD8 hp),(qE3 (qD1 hp).pos (qD8 hp) hp.sh0).2 (qD1 hp).sh⟩
theorem qCo {p:Prog} (hp:BenchFacts p):1<=per p / Nat.gcd (per p) (qBT p).toNat /\per p / Nat.gcd (per p) (qBT p).toNat <=96/\1<=qAD p/\qAD p<=1152:=by
 have b:=qB2 hp;have h:=hp.ros1;have f:0<Nat.gcd (per p) (qBT p).toNat :=Nat.gcd_pos_of_pos_left _ b.1;have c:1<=per p / Nat.gcd (per p) (qBT p).toNat :=(Nat.le_div_iff_mul_le f).2 (by rw[Nat.one_mul];exact Nat.gcd_le_left _ b.1);have d:per p / Nat.gcd (per p) (qBT p).toNat <=96:=Nat.le_trans (Nat.div_le_self _ _) (by omega);have g:=qEr hp;have i:=hp.sh1;unfold qAD;refine⟨c,d,Nat.mul_pos g.1 c,?_⟩
 calc _<=12*96:=Nat.mul_le_mul (by omega) d
  _=1152:=rfl
open Go.RowKit
set_option linter.unusedSimpArgs false
def qGh (p:Prog) (j:Int):List Int:=(qCy (qAP p.ros p.rub) (qAS p j)).map (· *p.throw)
def cutL (p:Prog) (j:Int):List Int:=(qGh p j).map (· +(p.start+j*p.adv))
theorem qBn {p:Prog} (hp:BenchFacts p) (j:Int):0<=qAS p j/\qAS p j<p.ros.length:=by
 have:=hp.ros0;exact⟨Int.emod_nonneg _ (by omega),Int.emod_lt_of_pos _ (by omega)⟩
theorem qFZ (x t:Int) (hx:0<=x/\x<=10000) (ht:1<=t/\t<=16):0<=x*t/\x*t<=160000:=by
 have b:=Int.mul_le_mul hx.2 ht.2 (by omega) (by omega);have c:=Int.mul_nonneg hx.1 (show(0:Int)<=t by omega);omega
attribute [local go_sem ↓] Go.wp_at_zero Go.wp_at_succ
end Go.Proofs.YtbcbcdgbliheoaaGreat
namespace Go.Proofs.YtbcbcdgbliheoaaGreat
set_option maxRecDepth 100000
open Go.RowKit
set_option linter.unusedVariables false
set_option linter.unusedSimpArgs false
def cutE (p:Prog) (j:Int):Int:=if qAJ p≠0 then qAJ p else if qA0 j (-5000) 5000 then 0 else 2
theorem qNh (j t:Int) (hj: -5001<=j/\j<=5001) (ht: -1000<=t/\t<=1000): -5001000<=j*t/\j*t<=5001000:=by
 rcases Int.le_total 0 t with h|h
 ·have a:=Int.mul_le_mul_of_nonneg_right hj.2 h;have b:=Int.mul_le_mul_of_nonneg_right hj.1 h;omega
 ·have a:=Int.mul_le_mul_of_nonpos_right hj.1 h;have b:=Int.mul_le_mul_of_nonpos_right hj.2 h;omega
theorem qIM (p:Prog) (j:Int):(qGh p j).length =p.ros.length:=by simp[qGh,qB8,qAQ]
attribute [local go_sem ↓] Go.wp_at_zero Go.wp_at_succ
end Go.Proofs.YtbcbcdgbliheoaaGreat
namespace Go.Proofs.YtbcbcdgbliheoaaGreat
set_option maxRecDepth 100000
open Go.RowKit
set_option linter.unusedVariables false
set_option linter.unusedSimpArgs false
theorem IsBench.lt {w:World} {b:Nat} {p:Prog} (h:IsBench w b p):b<w.heap.size:=by
 obtain⟨d,f,g,i,c,_⟩:=h;exact(gsl c)
theorem IsBench.drewN {w:World} {b:Nat} {p:Prog} (h:IsBench w b p) (n:Nat):IsBench (w.drewN n) b p:=h.below (Below.of_drewN _ _)
theorem IsBench.drew {w:World} {b:Nat} {p:Prog} (h:IsBench w b p):IsBench w.drew b p:=h.below (Below.refl _ _).drew
theorem IsBench.cells {w:World} {b:Nat} {p:Prog} (h:IsBench w b p):∃v5 vl,Ints w v5 p.shifts/\Ints w vl (qAP p.ros p.rub)∧
  w.cell? ⟨b,2,none⟩=some (.int .i64 p.start)/\w.cell? ⟨b,3,none⟩=some (.int .i64 p.throw)/\w.cell? ⟨b,4,none⟩=some (.int .i64 p.adv)/\w.cell? ⟨b,5,none⟩=some v5∧
  w.cell? ⟨b,6,none⟩=some vl/\w.cell? ⟨b,7,none⟩=some (.int .i64 p.ros.length)/\w.cell? ⟨b,8,none⟩=some (.int .i64 p.shifts.length)/\w.cell? ⟨b,9,none⟩=some (.int .i64 (qB1 (qAP p.ros p.rub))):=by
 obtain⟨v,x,v5,vl,n,s,t,m,o⟩:=h;obtain⟨q,r,c,d,f,g,i,j,k,l⟩:=qHm n;exact⟨v5,vl,m,o,c,d,f,g,i,j,k,l⟩
end Go.Proofs.YtbcbcdgbliheoaaGreat

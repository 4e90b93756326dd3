/- Index plates, plain: the hole nearest to a part of a turn; the first of the nearest is found among two holes of each plate. pattern.Index: the first of the .. -/
import Derived.Test.YtbcbcdgbliheoaaGreatPk39
import Derived.Test.YtbcbcdgbliheoaaGreatPk41
import Derived.Test.YtbcbcdgbliheoaaGreatPk05
import Derived.Deep.DrawnRows
namespace Go.Proofs.YtbcbcdgbliheoaaGreat
set_option maxRecDepth 100000
set_option maxHeartbeats 8000000
set_option linter.unusedVariables false
theorem qEh {a b c:Rat} (h:a<b) (k:b<=c):a<c:=by grind
theorem qMV {a b c:Rat} (h:a<=b) (k:b<c):a<c:=by grind
theorem qOQ {a b c:Rat} (h:a<b) (k:b<c):a<c:=by grind
theorem qLJ (a b c:Rat) (hp:0<c):a / c<=b / c↔a<=b:=by
 constructor
 ·intro h;have:=Rat.mul_le_mul_of_nonneg_right h (Rat.le_of_lt hp);rw[Rat.div_mul_cancel (Ne.symm (Rat.ne_of_lt hp)),Rat.div_mul_cancel (Ne.symm (Rat.ne_of_lt hp))]at this;exact this
 ·intro h;rw[Rat.div_def,Rat.div_def];exact Rat.mul_le_mul_of_nonneg_right h (Rat.le_of_lt (Rat.inv_pos.2 hp))
def farN (num den n k:Nat):Nat:=((k:Int)*den - (n:Int)*num).natAbs
def farR (num den n k:Nat):Rat:=((farN num den n k:Nat):Rat) / (((n*den:Nat)):Rat)
theorem qOF {num den n j k:Nat} (hn:0<n*den):farR num den n j<=farR num den n k↔farN num den n j<=farN num den n k:=by
 unfold farR;have b:(0:Rat)<((n*den:Nat):Rat):=by exact_mod_cast hn
 rw[qLJ _ _ _ b]
 exact_mod_cast Iff.rfl
theorem qGF {num den n j k:Nat} (hn:0<n*den):farR num den n j<farR num den n k↔farN num den n j<farN num den n k:=by
 rw[<-Rat.not_le,qOF hn];omega
abbrev IdxS:=Nat×Nat×Rat
noncomputable def qCJ (num den i n:Nat) (s:IdxS) (k:Nat):IdxS:=if farR num den n k<s.2.2 then(i,k,farR num den n k)else s
noncomputable def qEN (num den i n:Nat) (s:IdxS):Nat->IdxS
 | 0=>s
 | m+1=>qCJ num den i n (qEN num den i n s m) m
noncomputable def idxL (num den:Nat) (ns:List Nat):Nat->IdxS
 | 0=>(0,0,(num:Rat) / (den:Rat))
 | m+1=>qEN num den m (ns.getD m 0) (idxL num den ns m) (ns.getD m 0+1)
def Ran (num den i n:Nat) (s:IdxS) (lo hi:Nat) (t:IdxS):Prop:=
 (t=s/\∀j,lo<=j->j<hi->s.2.2<=farR num den n j)∨
 (∃k,lo<=k/\k<hi/\t=(i,k,farR num den n k)/\farR num den n k<s.2.2/\(∀j,lo<=j->j<hi->farR num den n k<=farR num den n j)/\∀j,lo<=j->j<k->farR num den n k<farR num den n j)
def RanZ (num den i n:Nat) (lo hi:Nat) (t:IdxS):Prop:=
 ∃k,lo<=k/\k<hi/\t=(i,k,farR num den n k)/\(∀j,lo<=j->j<hi->farR num den n k<=farR num den n j)/\∀j,lo<=j->j<k->farR num den n k<farR num den n j
theorem Ran.start (num den i n:Nat) (s:IdxS) (lo:Nat):Ran num den i n s lo lo s:= .inl ⟨rfl,λj h1 h2=>absurd h1 (by omega)⟩
theorem Ran.next {num den i n:Nat} {s t:IdxS} {lo hi:Nat} (h:Ran num den i n s lo hi t) (hl:lo<=hi):Ran num den i n s lo (hi+1) (qCJ num den i n t hi):=by
 unfold qCJ
 rcases h with⟨rfl,h1⟩| ⟨k,k1,k2,rfl,h1,h2,h3⟩
 ·by_cases d:farR num den n hi<t.2.2
  ·rw[if_pos d];refine .inr ⟨hi,hl,by omega,rfl,d,λj b c=>?_,λj b c=>?_⟩
   ·by_cases f:j=hi
    ·subst f;exact Rat.le_refl
    ·exact Rat.le_of_lt (qEh d (h1 j b (by omega)))
   ·exact qEh d (h1 j b c)
  ·rw[if_neg d];refine .inl ⟨rfl,λj b c=>?_⟩
   by_cases f:j=hi
   ·subst f;exact Rat.not_lt.1 d
   ·exact h1 j b (by omega)
 ·by_cases d:farR num den n hi<farR num den n k
  ·rw[if_pos d];refine .inr ⟨hi,hl,by omega,rfl,qOQ d h1,λj b c=>?_,λj b c=>?_⟩
   ·by_cases f:j=hi
    ·subst f;exact Rat.le_refl
    ·exact Rat.le_of_lt (qEh d (h2 j b (by omega)))
   ·exact qEh d (h2 j b c)
  ·rw[if_neg d];refine .inr ⟨k,k1,by omega,rfl,h1,λj b c=>?_,h3⟩
   by_cases f:j=hi
   ·subst f;exact Rat.not_lt.1 d
   ·exact h2 j b (by omega)
theorem Ran.holes (num den i n:Nat) (s:IdxS):∀m,Ran num den i n s 0 m (qEN num den i n s m)
 | 0=>Ran.start _ _ _ _ _ _
 | m+1=>(Ran.holes num den i n s m).next (Nat.zero_le _)
theorem Ran.unique {num den i n:Nat} {s t u:IdxS} {lo hi:Nat} (h:Ran num den i n s lo hi t) (k:Ran num den i n s lo hi u):t=u:=by
 rcases h with⟨rfl,h1⟩| ⟨a,a1,a2,rfl,h1,h2,h3⟩<;>rcases k with⟨rfl,k1⟩| ⟨b,b1,b2,rfl,k1,k2,k3⟩
 ·rfl
 ·exact absurd (h1 b b1 b2) (Rat.not_le.2 k1)
 ·exact absurd (k1 a a1 a2) (Rat.not_le.2 h1)
 ·have:a=b:=by
   rcases Nat.lt_trichotomy a b with hab|hab|hab
   ·exact absurd (h2 b b1 b2) (Rat.not_le.2 (k3 a a1 hab))
   ·exact hab
   ·exact absurd (k2 a a1 a2) (Rat.not_le.2 (h3 b b1 hab))
  subst this
  rfl
theorem RanZ.start (num den i n lo:Nat):RanZ num den i n lo (lo+1) (i,lo,farR num den n lo):=
 ⟨lo,Nat.le_refl _,Nat.lt_succ_self _,rfl,λj h1 h2=>by(obtain rfl:j=lo:=(by omega);exact Rat.le_refl),λj h1 h2=>absurd h1 (by omega)⟩
theorem RanZ.next {num den i n:Nat} {t:IdxS} {lo hi:Nat} (h:RanZ num den i n lo hi t) (hl:lo<=hi):RanZ num den i n lo (hi+1) (qCJ num den i n t hi):=by
 obtain⟨k,m,o,rfl,f,l⟩:=h;unfold qCJ
 by_cases d:farR num den n hi<farR num den n k
 ·rw[if_pos d];refine⟨hi,hl,by omega,rfl,λj b c=>?_,λj b c=>?_⟩
  ·by_cases g:j=hi
   ·subst g;exact Rat.le_refl
   ·exact Rat.le_of_lt (qEh d (f j b (by omega)))
  ·exact qEh d (f j b c)
 ·rw[if_neg d];refine⟨k,m,by omega,rfl,λj b c=>?_,l⟩
  by_cases g:j=hi
  ·subst g;exact Rat.not_lt.1 d
  ·exact f j b (by omega)
def fl (num den n:Nat):Nat:=n*num / den
theorem qLK {num den n:Nat} (hd:0<den) (h:num<=den):fl num den n<=n:=by
 unfold fl;exact Nat.div_le_of_le_mul (by rw[Nat.mul_comm den n];exact Nat.mul_le_mul_left n h)
theorem qIE {num den n:Nat} (hd:0<den):fl num den n*den<=n*num/\n*num<(fl num den n+1)*den:=by
 unfold fl;have b:=Nat.div_add_mod (n*num) den;have c:=Nat.mod_lt (n*num) hd;rw[Nat.mul_comm]at b;exact⟨by omega,by rw[Nat.add_mul];omega⟩
theorem qKJ {num den n j:Nat} (hd:0<den) (h:j<fl num den n):farN num den n (fl num den n)<farN num den n j:=by
 have g:=(qIE (num:=num) (n:=n) hd).1;have f:(j+1)*den<=fl num den n*den:=Nat.mul_le_mul_right den h;unfold farN;rw[Nat.add_mul]at f;have b:((fl num den n:Nat):Int)*(den:Int)=((fl num den n*den:Nat):Int):=by simp
 have c:(n:Int)*(num:Int)=((n*num:Nat):Int):=by simp
 have d:(j:Int)*(den:Int)=((j*den:Nat):Int):=by simp
 rw[b,c,d];generalize hY:fl num den n*den=Y at*;omega
theorem qJN {num den n j:Nat} (hd:0<den) (h:fl num den n+1<j):farN num den n (fl num den n+1)<farN num den n j:=by
 have g:=(qIE (num:=num) (n:=n) hd).2;have f:(fl num den n+1+1)*den<=j*den:=Nat.mul_le_mul_right den h;unfold farN;have b:((fl num den n+1:Nat):Int)*(den:Int)=(((fl num den n+1)*den:Nat):Int):=by simp
 have c:(n:Int)*(num:Int)=((n*num:Nat):Int):=by simp
 have d:(j:Int)*(den:Int)=((j*den:Nat):Int):=by simp
 rw[b,c,d];rw[Nat.add_mul (fl num den n+1) 1 den]at f;generalize (fl num den n+1)*den=X at*;omega
theorem Ran.all {num den i n:Nat} {s t:IdxS} (hd:0<den) (hn:0<n) (hle:num<=den) (h:Ran num den i n s (fl num den n) (min n (fl num den n+1)+1) t):Ran num den i n s 0 (n+1) t:=by
 have g:0<n*den:=Nat.mul_pos hn hd;have l:=qLK (n:=n) hd hle;have c:∀j,j<fl num den n->farR num den n (fl num den n)<farR num den n j:=λj b=>(qGF g).2 (qKJ hd b);have high:∀j,fl num den n+1<j->farR num den n (fl num den n+1)<farR num den n j:=λj b=>(qGF g).2 (qJN hd b)
 rcases h with⟨rfl,h1⟩| ⟨k,k1,k2,rfl,h1,h2,h3⟩
 ·refine .inl ⟨rfl,λj _ b=>?_⟩
  by_cases d:j<fl num den n
  ·exact Rat.le_trans (h1 _ (Nat.le_refl _) (by omega)) (Rat.le_of_lt (c j d))
  ·by_cases f:fl num den n+1<j
   ·exact Rat.le_trans (h1 (fl num den n+1) (by omega) (by omega)) (Rat.le_of_lt (high j f))
   ·exact h1 j (by omega) (by omega)
 ·refine .inr ⟨k,Nat.zero_le _,by omega,rfl,h1,λj _ b=>?_,λj _ b=>?_⟩
  ·by_cases d:j<fl num den n
   ·exact Rat.le_trans (h2 _ (Nat.le_refl _) (by omega)) (Rat.le_of_lt (c j d))
   ·by_cases f:fl num den n+1<j
    ·exact Rat.le_trans (h2 (fl num den n+1) (by omega) (by omega)) (Rat.le_of_lt (high j f))
    ·exact h2 j (by omega) (by omega)
  ·by_cases d:j<fl num den n
   ·exact qMV (h2 _ (Nat.le_refl _) (by omega)) (c j d)
   ·exact h3 j (by omega) b
theorem qNS {num den n:Nat} (hd:0<den) (hn:0<n):farR num den n 0=(num:Rat) / (den:Rat):=by
 unfold farR farN
 have c:(((0:Nat):Int)*den - (n:Int)*num).natAbs =n*num:=by
  have b:(n:Int)*(num:Int)=((n*num:Nat):Int):=by simp
  rw[b];omega
 rw[c]
 have d:(n:Rat)≠0:=by
  intro h;have:n=0:=by exact_mod_cast h
  omega
 have f:(den:Rat)≠0:=by
  intro h;have:den=0:=by exact_mod_cast h
  omega
 push_cast
 grind
theorem RanZ.all {num den n:Nat} {t:IdxS} (hd:0<den) (hn:0<n) (hle:num<=den) (h:RanZ num den 0 n (fl num den n) (min n (fl num den n+1)+1) t):Ran num den 0 n (0,0,(num:Rat) / (den:Rat)) 0 (n+1) t:=by
 have l:0<n*den:=Nat.mul_pos hn hd;have q:=qLK (n:=n) hd hle;have c:∀j,j<fl num den n->farR num den n (fl num den n)<farR num den n j:=λj b=>(qGF l).2 (qKJ hd b);have high:∀j,fl num den n+1<j->farR num den n (fl num den n+1)<farR num den n j:=λj b=>(qGF l).2 (qJN hd b);obtain⟨k,r,s,rfl,d,o⟩:=h
 have g:∀j,j<n+1->farR num den n k<=farR num den n j:=λj b=>by
  by_cases f:j<fl num den n
  ·exact Rat.le_trans (d _ (Nat.le_refl _) (by omega)) (Rat.le_of_lt (c j f))
  ·by_cases m:fl num den n+1<j
   ·exact Rat.le_trans (d (fl num den n+1) (by omega) (by omega)) (Rat.le_of_lt (high j m))
   ·exact d j (by omega) (by omega)
 have i:∀j,j<k->farR num den n k<farR num den n j:=λj b=>by
  by_cases f:j<fl num den n
  ·exact qMV (d _ (Nat.le_refl _) (by omega)) (c j f)
  ·exact o j (by omega) b
 rw[<-qNS hd hn]
 by_cases p:k=0
 ·subst p;exact .inl ⟨rfl,λj _ b=>g j b⟩
 ·exact .inr ⟨k,Nat.zero_le _,by omega,rfl,i 0 (by omega),λj _ b=>g j b,λj _ b=>i j b⟩
theorem Ran.step {num den m n:Nat} {ns:List Nat} {t:IdxS} (hd:0<den) (hn:0<n) (hle:num<=den) (he:ns.getD m 0=n) (h:Ran num den m n (idxL num den ns m) (fl num den n) (min n (fl num den n+1)+1) t):t=idxL num den ns (m+1):=by
 have b:=(h.all hd hn hle).unique (Ran.holes num den m n (idxL num den ns m) (n+1));rw[b];show _=qEN num den m (ns.getD m 0) (idxL num den ns m) (ns.getD m 0+1);rw[he]
theorem RanZ.step {num den n:Nat} {ns:List Nat} {t:IdxS} (hd:0<den) (hn:0<n) (hle:num<=den) (he:ns.getD 0 0=n) (h:RanZ num den 0 n (fl num den n) (min n (fl num den n+1)+1) t):t=idxL num den ns 1:=by
 have b:=(h.all hd hn hle).unique (Ran.holes num den 0 n (0,0,(num:Rat) / (den:Rat)) (n+1));rw[b];show _=qEN num den 0 (ns.getD 0 0) (idxL num den ns 0) (ns.getD 0 0+1);rw[he]
 rfl
open Go.RowKit Go.Shelf
set_option linter.unusedSimpArgs false
attribute [local go_sem] Oper.semAt_some
attribute [local go_sem ↓] Go.wp_at_zero Go.wp_at_succ
def qEO (ps:List Int) (num den:Int):Bool:=decide (0<ps.length)&&(!(ps.any λn=> !qA0 n 1 360)&&(qA0 den 1 1000&&qA0 num 0 den))
def idxE (ps:List Int) (num den:Int):Int:=if 16<ps.length then 4 else if qEO ps num den then 0 else 2
noncomputable def idxF (ps:List Int) (num den:Int):IdxS:=idxL num.toNat den.toNat (ps.map Int.toNat) ps.length
noncomputable def idxV (ps:List Int) (num den:Int):Int×Int×Except Int Rat:=
 if idxE ps num den=0 then(((idxF ps num den).1:Int),((idxF ps num den).2.1:Int),.ok (idxF ps num den).2.2)else(0,0,.error (idxE ps num den))
def IdxPost (ps:List Int) (num den:Int) (w:World) (e:Ending) (w':World):Prop:=
 Le w w'/\∃v,e= .returned (.tuple #[.int .i64 (idxV ps num den).1,.int .i64 (idxV ps num den).2.1,v,.int .i64 (idxE ps num den)])/\IsRes (λ_=>True) w' v (idxE ps num den) (idxV ps num den).2.2
theorem IdxPost.bad {ps:List Int} {num den:Int} {w w':World} {E:Int} (hE:idxE ps num den=E) (h0:E≠0) (hle:Le w w'):IdxPost ps num den w (.returned (.tuple #[.int .i64 0,.int .i64 0,qIY,.int .i64 E])) w':=by
 unfold IdxPost idxV;rw[hE,if_neg h0];exact⟨hle,_,rfl,rfl,rfl⟩
def PIdx (num den:Nat) (ns:List Nat) (i n lo k:Nat):Option IdxS->Prop
 | none=>i=0/\k=lo
 | some t=>Rsz t.2.2 40/\t.1<=1000/\t.2.1<=1000/\((i=0/\RanZ num den 0 n lo k t)∨(0<i/\Ran num den i n (idxL num den ns i) lo k t))
noncomputable def qHb (num den i n:Nat) (o:Option IdxS) (k:Nat):IdxS:=match o with |none=>(i,k,farR num den n k)|some t=>qCJ num den i n t k
noncomputable def offO:Option IdxS->FracA
 | none=>fracZ
 | some t=>qBX t.2.2
def qMW:Option IdxS->Nat
 | none=>0
 | some t=>t.1
def qN9:Option IdxS->Nat
 | none=>0
 | some t=>t.2.1
open Classical in
noncomputable def qEP (num den n:Nat) (o:Option IdxS) (k:Nat):Bool:=match o with |none=>true|some t=>decide (farR num den n k<t.2.2)
theorem qOR {num den n k:Nat} (hn:0<n*den) (hb:n*den<=1000000) (hf:farN num den n k<=1000000):Rsz (farR num den n k) 40:=by
 have:=qHa (n:=(farN num den n k:Int)) (d:=((n*den:Nat):Int)) (by omega) (by omega) (by omega) (by omega) (by omega);exact this
theorem PIdx.next {num den:Nat} {ns:List Nat} {i n lo k:Nat} {o:Option IdxS} (h:PIdx num den ns i n lo k o) (hl:lo<=k) (hi:i<=1000) (hk:k<=1000) (hs:Rsz (farR num den n k) 40):PIdx num den ns i n lo (k+1) (some (qHb num den i n o k)):=by
 cases o with
 | none=>
  obtain⟨rfl,rfl⟩:=h;exact⟨hs,hi,hk,.inl ⟨rfl,RanZ.start _ _ _ _ _⟩⟩
 | some t=>
  obtain⟨d,f,g,b⟩:=h
  have c:Rsz (qCJ num den i n t k).2.2 40/\(qCJ num den i n t k).1<=1000/\(qCJ num den i n t k).2.1<=1000:=by
   unfold qCJ
   split
   ·exact⟨hs,hi,hk⟩
   ·exact⟨d,f,g⟩
  refine⟨c.1,c.2.1,c.2.2,?_⟩
  rcases b with⟨rfl,b⟩| ⟨h0,b⟩
  ·exact .inl ⟨rfl,b.next hl⟩
  ·exact .inr ⟨h0,b.next hl⟩
theorem qMX {num den i n:Nat} {o:Option IdxS} {k:Nat} (h:qEP num den n o k=true):qHb num den i n o k=(i,k,farR num den n k):=by
 cases o with
 | none=>rfl
 | some t=>
  have b:farR num den n k<t.2.2:=by simpa[qEP]using h
  exact if_pos b
theorem qNT {num den i n:Nat} {o:Option IdxS} {k:Nat} (h:qEP num den n o k=false):∃t,o=some t/\qHb num den i n o k=t:=by
 cases o with
 | none=>cases h
 | some t=>
  have b:¬farR num den n k<t.2.2:=by simpa[qEP]using h
  exact⟨t,rfl,if_neg b⟩
theorem qMY {num den n k:Nat} {z D:Int} (hz:z=(farN num den n k:Int)) (hD:D=((n*den:Nat):Int)) (hn:0<n*den) (hs:Rsz (farR num den n k) 40):qCi z D= .ok (farR num den n k):=by
 unfold qCi;rw[if_neg (by omega),hz,hD];exact qH6 hs
theorem qOG {o:Option IdxS} {num den n k:Nat} (hs:Rsz (farR num den n k) 40) (ho:∀t,o=some t->Rsz t.2.2 40):
  (o=none/\cmpV (qBX (farR num den n k)) (offO o)=0)∨(∃t,o=some t/\(cmpV (qBX (farR num den n k)) (offO o)<0↔qEP num den n o k=true)):=by
 cases o with
 | none=>exact .inl ⟨rfl,qIA (by unfold okAF offO;rw[qMR];simp)⟩
 | some t=>
  refine .inr ⟨t,rfl,?_⟩;unfold offO qEP;simp only;rw[qHz (qEZ hs) (qEZ (ho t rfl)),qOA];simp
theorem qLL (x y:FracA): -1<=cmpV x y/\cmpV x y<=1:=by
 unfold cmpV
 split
 ·unfold rsgn;rename_i a b _ _;have:=Int.sign_trichotomy (a - b).num;omega
 ·omega
theorem PIdx.done0 {num den n hi:Nat} {ns:List Nat} {o:Option IdxS} {i:Nat} (hd:0<den) (hn:0<n) (hle:num<=den) (he:ns.getD i 0=n) (hlt:fl num den n<hi) (hh:hi=min n (fl num den n+1)+1) (h:PIdx num den ns i n (fl num den n) hi o):
  ∃t,o=some t/\t=idxL num den ns (i+1)/\Rsz t.2.2 40/\t.1<=1000/\t.2.1<=1000:=by
 cases o with
 | none=>obtain⟨-,c⟩:=h;omega
 | some t=>
  obtain⟨d,c,f,b⟩:=h;refine⟨t,rfl,?_,d,c,f⟩;subst hh
  rcases b with⟨rfl,b⟩| ⟨h0,b⟩
  ·exact b.step hd hn hle he
  ·exact b.step hd hn hle he
theorem qHK (n:Int) (w:World):Calls Tryz.prog 36 #[.int .i64 n] w λe w'=>e= .returned (.bool (!qA0 n 1 360))/\w=w':=by
 go_enter Tryz.func36,Tryz.ntmps36;go_wp2_with (first | (go_at_call 22;((with_reducible refine(qAI _ _ _ _).mono ?_);rintro e w' ⟨rfl,rfl⟩)));go_ret;exact⟨rfl,rfl⟩
theorem qFn:qAZ Tryz.prog 36:=λ_ _=>by kernel_rfl
theorem qG3 (ps:List Int) (num den:Int) (v:Value) (w:World) (hv:Ints w v ps) (hE:idxE ps num den≠0):
  Calls Tryz.prog 14 #[v,.int .i64 num,.int .i64 den] w (IdxPost ps num den w):=by
 have d:=λ(W:World) (h:Le w W)=>qBb (λn=> !qA0 n 1 360) 36 #[] v ps W (hv.below h) qFn λx _=>qHK x W;obtain⟨A,c,rfl,ap,Y,_,hr⟩:=hv;unfold maxLen at Y;clear hr
 by_cases O:16<ps.length
 ·have y:idxE ps num den=4:=by unfold idxE;rw[if_pos O]
  obtain⟨Z,z,j,r⟩:=al1 w (.cells #[.bool false,.slice none 0 0,.bool false,.slice none 0 0] 47);obtain⟨f0,f1,f2,f3⟩:=qAO r;have⟨g0,g1,g2,g3⟩:=frz4 r;have D:=qAO (qBP (u0:= .bool false) (u1:= .slice none 0 0) (u2:= .bool false) (u3:= .slice none 0 0) r);have f:=qBs (u0:= .bool false) (u1:= .slice none 0 0) (u2:= .bool false) (u3:= .slice none 0 0) j (Nat.le_refl _);have i:=IdxPost.bad y (by decide) f;have⟨t,M,k,J,g,p,o⟩:=hyd7 j r d y i D f;clear f D i y d r j;go_enter Tryz.func14,Tryz.ntmps14;go_wp2_with (fail);clear z;obtain⟨F,G,H,I⟩:=p.out;exact bodyPost_ret (v:= .tuple #[.int .i64 0,.int .i64 0,.agg #[.bool false,.slice none 0 0,.bool false,.slice none 0 0],.int .i64 4]) (by simp[results,Tryz.results14,go_sem,F,G,H,I]) rfl g.out
 ·have E:idxE ps num den=if qEO ps num den then 0 else 2:=by unfold idxE;rw[if_neg O]
  have b:qEO ps num den=false:=by
   rw[E]at hE
   cases h:qEO ps num den with
   | false=>rfl
   | true=>rw[h]at hE;exact absurd rfl hE
  have y:idxE ps num den=2:=by rw[E,b];rfl
  obtain⟨Z,z,j,r⟩:=al1 w (.cells #[.bool false,.slice none 0 0,.bool false,.slice none 0 0] 47);obtain⟨f0,f1,f2,f3⟩:=qAO r;have⟨g0,g1,g2,g3⟩:=frz4 r;have D:=qAO (qBP (u0:= .bool false) (u1:= .slice none 0 0) (u2:= .bool false) (u3:= .slice none 0 0) r);have f:=qBs (u0:= .bool false) (u1:= .slice none 0 0) (u2:= .bool false) (u3:= .slice none 0 0) j (Nat.le_refl _);have i:=IdxPost.bad y (by decide) f;have L:=d Z j;unfold qEO at b;obtain⟨X1,m⟩:∃X,(ps.any λn=> !qA0 n 1 360)=X:=⟨_,rfl⟩;obtain⟨X2,s⟩:∃X,qA0 den 1 1000=X:=⟨_,rfl⟩;obtain⟨X3,q⟩:∃X,qA0 num 0 den=X:=⟨_,rfl⟩;rw[m]at L;rw[m,s,q]at b
  by_cases S:ps.length=0
  ·have U:(ps.length:Int)=0:=by omega
   rw[S];have⟨t,M,k,Q,J,g,p,o⟩:=hyd8 j r d E y i D f;have⟨B,C,T,N,l,R,am,aa⟩:=hyd8 L m s q b hE S U;clear U S hE b q s m L f D i y E d r j;go_enter Tryz.func14,Tryz.ntmps14;go_wp2_with (fail);clear z;obtain⟨F,G,H,I⟩:=p.out;exact bodyPost_ret (v:= .tuple #[.int .i64 0,.int .i64 0,.agg #[.bool false,.slice none 0 0,.bool false,.slice none 0 0],.int .i64 2]) (by simp[results,Tryz.results14,go_sem,F,G,H,I]) rfl g.out
  ·have an:((ps.length:Int)==0)=false:=by rw[Bool.eq_false_iff];intro h;simp at h;exact S (by rw[h];rfl)
   have ao:¬ps.length=0:=S;have P:decide (0<ps.length)=true:=by simp;omega
   rw[P,Bool.true_and]at b;clear S P
   cases X1 with
   | true=>
    have⟨t,M,k,Q,J,g,p,o⟩:=hyd8 j r d E y i D f;have⟨B,C,T,N,l,R⟩:=hyd6 L m s q b hE;clear hE b q s m L f D i y E d r j;go_enter Tryz.func14,Tryz.ntmps14;go_wp2_with (first | (go_at_call 33;((with_reducible refine(B.out).mono ?_);rintro e V ⟨rfl,rfl⟩)));clear z;obtain⟨F,G,H,I⟩:=p.out;exact bodyPost_ret (v:= .tuple #[.int .i64 0,.int .i64 0,.agg #[.bool false,.slice none 0 0,.bool false,.slice none 0 0],.int .i64 2]) (by simp[results,Tryz.results14,go_sem,F,G,H,I]) rfl g.out
   | false=>
    cases X2 with
    | false=>
     have⟨t,M,k,Q,J,g,p,o⟩:=hyd8 j r d E y i D f;have⟨B,C,N,l,R⟩:=hyd5 L m q b hE;clear hE b q m L f D i y E d r j;go_enter Tryz.func14,Tryz.ntmps14;go_wp2_with (first | (go_at_call 33;((with_reducible refine(B.out).mono ?_);rintro e V ⟨rfl,rfl⟩))| (go_at_call 22;((with_reducible refine(qAI _ _ _ _).mono ?_);rintro e V ⟨rfl,rfl⟩;rw[s])));clear z;obtain⟨F,G,H,I⟩:=p.out;exact bodyPost_ret (v:= .tuple #[.int .i64 0,.int .i64 0,.agg #[.bool false,.slice none 0 0,.bool false,.slice none 0 0],.int .i64 2]) (by simp[results,Tryz.results14,go_sem,F,G,H,I]) rfl g.out
    | true=>
     obtain rfl:X3=false:=by simpa using b
     have⟨t,M,k,Q,J,g,p,o⟩:=hyd8 j r d E y i D f;have⟨B,C,l,R⟩:=hyd4 L m b hE;clear hE b m L f D i y E d r j;go_enter Tryz.func14,Tryz.ntmps14;go_wp2_with (first | (go_at_call 33;((with_reducible refine(B.out).mono ?_);rintro e V ⟨rfl,rfl⟩))| (go_at_call 22;((with_reducible refine(qAI _ _ _ _).mono ?_);rintro e V ⟨rfl,rfl⟩;first |rw[s]|rw[q])));clear z;obtain⟨F,G,H,I⟩:=p.out;exact bodyPost_ret (v:= .tuple #[.int .i64 0,.int .i64 0,.agg #[.bool false,.slice none 0 0,.bool false,.slice none 0 0],.int .i64 2]) (by simp[results,Tryz.results14,go_sem,F,G,H,I]) rfl g.out
end Go.Proofs.YtbcbcdgbliheoaaGreat
namespace Go.Proofs.YtbcbcdgbliheoaaGreat
set_option maxRecDepth 100000
set_option maxHeartbeats 8000000
open Go.RowKit Go.Shelf
set_option linter.unusedVariables false
set_option linter.unusedSimpArgs false
attribute [local go_sem] Oper.semAt_some
attribute [local go_sem ↓] Go.wp_at_zero Go.wp_at_succ
theorem qMZ {ps:List Int} {num den:Int} (h:idxE ps num den=0):0<ps.length/\ps.length<=16/\(ps.any λn=> !qA0 n 1 360)=false/\qA0 den 1 1000=true/\qA0 num 0 den=true∧
  (∀j (hj:j<ps.length),1<=ps[j]/\ps[j]<=360)/\∃U D:Nat,num=(U:Int)/\den=(D:Int)/\1<=D/\D<=1000/\U<=D:=by
 unfold idxE at h
 split at h
 ·cases h
 ·rename_i hb
  cases ha:qEO ps num den with
  | false=>rw[ha]at h;cases h
  | true=>
   unfold qEO at ha;simp only[Bool.and_eq_true,decide_eq_true_eq,Bool.not_eq_true']at ha;obtain⟨f,b,c,d⟩:=ha;have i:=within_iff.1 c;have k:=within_iff.1 d;refine⟨f,by omega,b,c,d,λj hj=>?_,num.toNat,den.toNat,by omega,by omega,by omega,by omega,by omega⟩;have:=List.any_eq_false.1 b ps[j] (List.getElem_mem hj);have g:qA0 ps[j] 1 360=true:=by simpa using this
   exact within_iff.1 g
theorem IdxPost.good {ps:List Int} {num den:Int} {w w':World} {v:Value} {t:IdxS} (hE:idxE ps num den=0) (ht:t=idxF ps num den) (hle:Le w w') (hv:qLF w' v t.2.2):IdxPost ps num den w (.returned (.tuple #[.int .i64 (t.1:Int),.int .i64 (t.2.1:Int),v,.int .i64 0])) w':=by
 unfold IdxPost idxV;rw[hE,if_pos rfl,<-ht];exact⟨hle,v,rfl,hv,rfl⟩
def OffB (W:World) (B:Nat) (o:Option IdxS):Prop:=∃A c A' c',W.heap[B]? =some (.cells #[.bool (offO o).sn,.slice A (offO o).gn.length c,.bool (offO o).sd,.slice A' (offO o).gd.length c'] 47)∧
 IsFracA (λ_=>True) W (.agg #[.bool (offO o).sn,.slice A (offO o).gn.length c,.bool (offO o).sd,.slice A' (offO o).gd.length c']) (offO o)/\∀t,o=some t->qLF W (.agg #[.bool (offO o).sn,.slice A (offO o).gn.length c,.bool (offO o).sd,.slice A' (offO o).gd.length c']) t.2.2
theorem OffB.le {W W':World} {B:Nat} {o:Option IdxS} (h:OffB W B o) (hb:Le W W'):OffB W' B o:=by
 obtain⟨A,c,b,d,f,g,i⟩:=h;exact⟨A,c,b,d,bxl hb f,g.le hb,λt j=>(i t j).le hb⟩
theorem OffB.lt {W:World} {B:Nat} {o:Option IdxS} (h:OffB W B o):B<W.heap.size:=by
 obtain⟨A,c,d,f,b,-⟩:=h;exact(gsl b)
theorem qNU {o:Option IdxS} (h:o≠none):(offO o).gd.length ≠0:=by
 cases o with
 | none=>exact absurd rfl h
 | some t=>
  intro b;have c:(dg t.2.2.den).length =0:=b;have:t.2.2.den=0:=by rw[<-qAe t.2.2.den,List.eq_nil_of_length_eq_zero c];rfl
  exact t.2.2.den_nz this
theorem qLM (ps:List Int) {j:Nat} (hj:j<ps.length) {n:Nat} (h:ps[j]=(n:Int)):(ps.map Int.toNat).getD j 0=n:=by
 rw[qBB (by simpa using hj)];simp[h]
def qJO (o:Option IdxS) (a b:Value):Prop:=a= .int .i64 (qMW o:Nat)/\b= .int .i64 (qN9 o:Nat)
theorem qHL (ps:List Int) (num den:Int) (v:Value) (w:World) (hv:Ints w v ps) (hE:idxE ps num den=0):
  Calls Tryz.prog 14 #[v,.int .i64 num,.int .i64 den] w (IdxPost ps num den w):=by
 have B:=λ(W:World) (h:Le w W)=>qBb (λn=> !qA0 n 1 360) 36 #[] v ps W (hv.below h) qFn λx _=>qHK x W;obtain⟨aO,cC,aI,bK,bL,aV,U,D,rfl,rfl,cX,aE,aH⟩:=qMZ hE;obtain⟨la,lo,c,rfl,bV,dn,S,bi⟩:=Ints.cells hv aO;unfold maxLen at S;obtain⟨W0,bI,aP,k0⟩:=al1 w (.cells #[.bool false,.slice none 0 0,.bool false,.slice none 0 0] 47);have hc:=B W0 aP;rw[aI]at hc;have aA:OffB W0 w.heap.size none:=⟨none,0,none,0,k0,qMQ _ _,λt h=>by cases h⟩;have dl:((ps.length:Int)==0)=false:=by rw[Bool.eq_false_iff];intro h;simp at h;rw[h]at aO;exact absurd aO (by simp)
 have dm:¬ps.length=0:=by omega
 have aa:idxF ps (U:Int) (D:Int)=idxL U D (ps.map Int.toNat) ps.length:=rfl;generalize hns:ps.map Int.toNat=ns at aa
 have a7:∀j (hj:j<ps.length),∃n:Nat,ps[j]=(n:Int)/\1<=n/\n<=360/\ns.getD j 0=n:=λj hj=>by
  obtain⟨F,O⟩:=aV j hj;have e:ps[j]=(ps[j].toNat :Int):=by omega
  exact⟨ps[j].toNat,e,by omega,by omega,by rw[<-hns];exact qLM ps hj e⟩
 have⟨bl,dw,b7,aM,bN,c0,bE,bj⟩:=hyd8 aP k0 B aa hc aI hE bi;have⟨cJ,aN,aU,dt,cI⟩:=hyd5 aV a7 aA hv hns;clear hns hv aA a7 aV bi hE aI hc aa B k0 aP;go_enter Tryz.func14,Tryz.ntmps14;go_wp2_with (first | (go_at_call 33;((with_reducible refine(bN.out).mono ?_);rintro e w' ⟨rfl,rfl⟩))| (go_at_call 22;((with_reducible refine(qAI _ _ _ _).mono ?_);rintro e w' ⟨rfl,rfl⟩;first |rw[bK]|rw[bL])));clear bI;go_loopw [47,6,7] (λix a b wr=>∃i:Nat,i<=ps.length/\ix= .int .i64 i/\∃o,qJO o a b/\Hid (Le w wr)/\Hid (OffB wr w.heap.size o)/\Hid ((i=0/\o=none)∨(0<i/\∃t,o=some t/\t=idxL U D ns i/\Rsz t.2.2 40/\t.1<=1000/\t.2.1<=1000))) (λix _ _ _=>ps.length - (intOf ix).toNat)
 case atStart=>exact⟨0,Nat.zero_le _,rfl,none,⟨rfl,rfl⟩,bl,aU,Lib.hid (.inl ⟨rfl,rfl⟩)⟩
 case round=>
  obtain⟨i,hi,rfl,o,⟨rfl,rfl⟩,ao,aT,au⟩:=hrel
  by_cases bm:i<ps.length
  ·obtain⟨n,aR,dr,bp,aS⟩:=aN.out i bm
   have bP:wr.cell? ⟨la,lo+i,none⟩=some (.int .i64 (n:Int)):=by
    rw[<-aR];exact(ao.out.cell (p:=⟨la,lo+i,none⟩) bV).trans (bj.out i bm)
   obtain⟨P,hP⟩:∃P,n*U=P:=⟨_,rfl⟩;have df:P<=360000:=by rw[<-hP];exact Nat.le_trans (Nat.mul_le_mul bp (Nat.le_trans aH aE)) (by decide)
   have e1:(n:Int)*(U:Int)=(P:Int):=by rw[<-hP];simp
   obtain⟨q,ah⟩:∃q,P / D=q:=⟨_,rfl⟩;have am:fl U D n=q:=by unfold fl;rw[hP,ah]
   have da:q<=n:=by rw[<-am];exact qLK (by omega) aH
   have q1:(P:Int) / (D:Int)=(q:Int):=by rw[<-ah];simp
   have q2:(P:Int).tdiv (D:Int)=(q:Int):=by rw[Int.tdiv_eq_ediv_of_nonneg (by omega)];exact q1
   have cY:((D:Int)==0)=false:=by simp;omega
   have cu:¬(D:Int)=0:=by omega
   have Z:=am;obtain⟨M,hM⟩:∃M,min n (q+1)=M:=⟨_,rfl⟩;have dc:M<=n:=by omega
   have cZ:q<=M:=by omega
   obtain⟨DD,Q⟩:∃DD,n*D=DD:=⟨_,rfl⟩;have e3:(n:Int)*(D:Int)=(DD:Int):=by rw[<-Q];simp
   have ct:DD<=360000:=by rw[<-Q];exact Nat.le_trans (Nat.mul_le_mul bp aE) (by decide)
   have a4:0<DD:=by rw[<-Q];exact Nat.mul_pos (by omega) (by omega)
   have av:PIdx U D ns i n q q o:=by
    rcases au.out with⟨rfl,rfl⟩| ⟨h0,t,rfl,s,F,O,h3⟩
    ·exact⟨rfl,rfl⟩
    ·exact⟨F,O,h3,.inr ⟨h0,by rw[s];exact Ran.start _ _ _ _ _ _⟩⟩
   have V:∀l,PIdx U D ns i n q (M+1) l->∃t,l=some t/\t=idxL U D ns (i+1)/\Rsz t.2.2 40/\t.1<=1000/\t.2.1<=1000:=λl h=>by
    rw[<-Z]at h;exact PIdx.done0 (by omega) (by omega) aH aS (by rw[Z];omega) (by rw[Z,hM]) h
   obtain⟨wo,bs⟩:∃wo,wo=wr:=⟨_,rfl⟩;rw[<-bs]at ao aT bP;subst bs;have bo:(q+1<n/\M=q+1)∨(n<=q+1/\M=n):=by omega
   have⟨cE,cF,de,cw,c9,c8,G,al⟩:=hyd8 aR aS hP ah am Z Q V;have⟨db,cL⟩:=hyd2 hM au;clear au hM V Q Z am ah hP aS aR
   rcases bo with⟨hm1,hm2⟩| ⟨hm1,hm2⟩
   all_goals
    have dp:=Nat.le_of_eq hm2;have dq:=Nat.le_of_eq hm2.symm;have cD:=hyd1 hm2;clear hm2;go_wp2;go_loopw [13,6,7] (λkx a b wi=>∃k:Nat,q<=k/\k<=M+1/\kx= .int .i64 k/\∃l,qJO l a b/\Hid (Le w wi)/\Hid (OffB wi w.heap.size l)/\Hid (PIdx U D ns i n q k l)) (λkx _ _ _=>M+1 - (intOf kx).toNat)
    case atStart=>exact⟨q,Nat.le_refl _,by omega,rfl,o,⟨rfl,rfl⟩,ao,aT,Lib.hid av⟩
    case round=>
     obtain⟨k,bU,dj,rfl,l,⟨rfl,rfl⟩,aQ,ap,aq⟩:=hrel
     by_cases dk:k<=M
     ·obtain⟨X,hX⟩:∃X,k*D=X:=⟨_,rfl⟩;have e2:(k:Int)*(D:Int)=(X:Int):=by rw[<-hX];simp
      have di:X<=361000:=by rw[<-hX];exact Nat.le_trans (Nat.mul_le_mul (show k<=361 by omega) aE) (by decide)
      obtain⟨R,hR⟩:∃R,farR U D n k=R:=⟨_,rfl⟩;have Y:farN U D n k=((X:Int) - (P:Int)).natAbs :=by unfold farN;rw[e2,e1]
      have af:Rsz R 40:=by rw[<-hR];exact qOR (by rw[G.out];exact a4) (by rw[G.out];omega) (by rw[Y];omega)
      have bq:=PIdx.next aq.out bU (by omega) (by omega) (by rw[hR];exact af)
      have aB:∀z:Int,z=(((X:Int) - (P:Int)).natAbs :Int)->qCi z (DD:Int)= .ok R:=λz hz=>by
       rw[<-hR];exact qMY (by rw[hz,Y]) (by rw[G.out]) (by rw[G.out];exact a4) (by rw[hR];exact af)
      have S:=qOG (o:=l) (by rw[hR];exact af) (num:=U) (den:=D) (n:=n) (k:=k) (λt s=>by
       have:=aq.out;rw[s]at this
       exact this.1)
      rw[hR]at S
      have bn:∃z:Int,z=(((X:Int) - (P:Int)).natAbs :Int)/\ -1000000<=z/\z<=1000000/\((X<P/\z=(P:Int) - (X:Int))∨(P<=X/\z=(X:Int) - (P:Int))):=by
       rcases Nat.lt_or_ge X P with h|h
       ·exact⟨(P:Int) - X,by omega,by omega,by omega,.inl ⟨h,rfl⟩⟩
       ·exact⟨(X:Int) - P,by omega,by omega,by omega,.inr ⟨h,rfl⟩⟩
      obtain⟨z,aW,du,dv,cb⟩:=bn;have br:=aB z aW;have y:=λ(W:World)=>qJM (λ_=>True) z (DD:Int) W (Up.any _) (by omega) (by omega) (by omega) (by omega);simp only[br]at y;clear aB br Y;have⟨dh,bH,a9,bk,cM,aj,cK⟩:=hyd7 hX hR bq S aW y af;clear af y aW S bq hR hX
      rcases cb with⟨hz4,hz5⟩| ⟨hz4,hz5⟩
      all_goals
       subst hz5;have z1:(X:Int)<=361000:=by omega
       first
        | (
          have m1:(X:Int) - (P:Int)<(P:Int) - (X:Int):=by omega
          have m2:¬(P:Int) - (X:Int)<=(X:Int) - (P:Int):=by omega
          have m3:True:=trivial)
        | (
          have m1:(P:Int) - (X:Int)<=(X:Int) - (P:Int):=by omega
          have m2:¬(X:Int) - (P:Int)<(P:Int) - (X:Int):=by omega
          have m3:True:=trivial)
       go_wp2_with (fail);go_at_call 15;refine(aj.out _).mono ?_;rintro e w1 ⟨H,vx,cc,rfl,r,rfl⟩;have ab:=r;obtain⟨A5,c5,B5,d5,rfl,-,-⟩:=r;obtain⟨W2,bJ,I,k5⟩:=al1 w1 (.cells #[.bool (rneg R),.slice A5 (dg (rnum R)).length c5,.bool false,.slice B5 (dg R.den).length d5] 47);have C:=H.trans I;have f:=ab.le I;obtain⟨A6,c6,A7,c7,aX,aF,bg⟩:=ap.out.le C;obtain⟨a0,a1,a2,a3⟩:=qAO k5;obtain⟨b0,b1,b2,b3⟩:=qAO aX;have T:=qLD (qBX R) (offO l) _ _ W2 f.isA aF;have bO:=qLL (qBX R) (offO l);obtain⟨tk,aw⟩:∃b,qEP U D n l k=b:=⟨_,rfl⟩;obtain⟨N3,L⟩:∃N,(offO l).gd.length =N:=⟨_,rfl⟩
       have E:(i=0/\N3=0/\tk=true)∨(N3≠0/\(cmpV (qBX R) (offO l)<0↔tk=true)):=by
        rcases bk.out with⟨F,-⟩| ⟨t,F,O⟩
        ·subst F;exact .inl ⟨aq.out.1,L.symm,aw.symm⟩
        ·subst F;exact .inr ⟨by rw[<-L];exact qNU (by simp),by rw[<-aw];exact O⟩
       obtain⟨cv,ak⟩:∃cv,cmpV (qBX R) (offO l)=cv:=⟨_,rfl⟩;obtain⟨ev,aL⟩:∃ev,okE (okAF (qBX R)&&okAF (offO l))=ev:=⟨_,rfl⟩;rw[ak]at E bO;rw[ak,aL,L]at T;rw[L]at b3;have dd:w.heap.size<w1.heap.size:=Nat.lt_of_lt_of_le ap.out.lt H.size;have cG:¬w.heap.size=w1.heap.size:=by omega
       have cH:¬w1.heap.size=w.heap.size:=by omega
       have⟨bW,bQ,bX,cg,an,ac,bt,cx⟩:=hyd8 H ab I k5 C f aX aF;have⟨cy,aK,aC,be,c3,c4,J⟩:=hyd7 bg T aw L ak aL E;clear E aL ak L aw T bg aF aX f C k5 I ab H;go_wp2_with (fail);clear bJ;go_at_call 37;refine aK.out.mono ?_;rintro e w3 ⟨rfl,m⟩;have kO:=bxl m bt.out;have k6:=bxl m cg.out;clear a0 a1 a2 a3 b0 b1 b2 b3;obtain⟨a0,a1,a2,a3⟩:=qAO k6;obtain⟨b0,b1,b2,b3⟩:=qAO kO;rw[be.out]at b3;have⟨g0,g1,g2,g3⟩:=frz4 kO;have g:=an.out.trans m;have hT:tk=true->Le w ((((w3.setCell ⟨w.heap.size,0,none⟩ (.bool (rneg R))).setCell ⟨w.heap.size,1,none⟩ (.slice A5 (dg (rnum R)).length c5)).setCell ⟨w.heap.size,2,none⟩ (.bool false)).setCell ⟨w.heap.size,3,none⟩ (.slice B5 (dg R.den).length d5)).drew ∧
         OffB ((((w3.setCell ⟨w.heap.size,0,none⟩ (.bool (rneg R))).setCell ⟨w.heap.size,1,none⟩ (.slice A5 (dg (rnum R)).length c5)).setCell ⟨w.heap.size,2,none⟩ (.bool false)).setCell ⟨w.heap.size,3,none⟩ (.slice B5 (dg R.den).length d5)).drew w.heap.size (some (i,k,R))/\PIdx U D ns i n q (k+1) (some (i,k,R)):=λs=>by
        have F:qLF ((((w3.setCell ⟨w.heap.size,0,none⟩ (.bool (rneg R))).setCell ⟨w.heap.size,1,none⟩ (.slice A5 (dg (rnum R)).length c5)).setCell ⟨w.heap.size,2,none⟩ (.bool false)).setCell ⟨w.heap.size,3,none⟩ (.slice B5 (dg R.den).length d5)).drew (.agg #[.bool (rneg R),.slice A5 (dg (rnum R)).length c5,.bool false,.slice B5 (dg R.den).length d5]) R:=
         ((ac.out.le m).touch (qMT kO) (qHI _ _ _ _ _ _)).le ((Below.refl _ _).drew)
        refine⟨Below.drew (qBs (aQ.out.trans g) (Nat.le_refl _)),⟨A5,c5,B5,d5,qBP kO,F.isA,λt s=>?_⟩,?_⟩
        ·injection s with s;subst s;exact F
        ·have O:=qMX (i:=i) (aC.out.trans s);have h3:=a9.out;rw[O,bH.out]at h3;exact h3
       have bf:tk=false->Le w w3/\OffB w3 w.heap.size l/\PIdx U D ns i n q (k+1) l:=λs=>by
        refine⟨aQ.out.trans g,ap.out.le g,?_⟩;obtain⟨t,F,O⟩:=qNT (i:=i) (aC.out.trans s);have h3:=a9.out;rw[O,<-F]at h3;exact h3
       have⟨bY,dy,dx,b8,aG,a5⟩:=hyd6 m kO k6 g hT bf;clear bf hT g k6 kO m
       rcases(show i=0∨0<i by omega)with hi0|hi0
       ·have bR:((i:Int)==0)=true:=by simp;omega
        have a8:(i:Int)=0:=by omega
        have⟨cB,bS⟩:=hyd2 hi0 a8;clear a8 hi0
        rcases J.out with⟨-,hN,htt⟩| ⟨hN,htt⟩
        ·have bG:((N3:Int)==0)=true:=by simp;omega
         have⟨ai,d⟩:=hyd2 hN htt;clear htt hN;go_wp2;go_region
         all_goals
          go_wp2;go_roundw
          case rel=>
           obtain⟨p1,p2,p3⟩:=aG.out d.out;exact⟨k+1,by omega,by omega,by go_num,some (i,k,R),⟨rfl,rfl⟩,Lib.hid p1,Lib.hid p2,Lib.hid p3⟩
          case measure=>simp[intOf];omega
        ·have bG:((N3:Int)==0)=false:=by simp;omega
         by_cases aJ:cv<0
         ·have⟨ai,d⟩:=hyd2 hN htt;clear htt hN;go_wp2;go_region
          all_goals
           go_wp2;go_roundw
           case rel=>
            obtain⟨p1,p2,p3⟩:=aG.out (d.out.1 aJ);exact⟨k+1,by omega,by omega,by go_num,some (i,k,R),⟨rfl,rfl⟩,Lib.hid p1,Lib.hid p2,Lib.hid p3⟩
           case measure=>simp[intOf];omega
         ·have⟨ai,d⟩:=hyd2 hN htt;clear htt hN;go_wp2;go_roundw
          case rel=>
           obtain⟨p1,p2,p3⟩:=a5.out (by rw[<-Bool.not_eq_true];intro h;have:=d.out.2 h;omega);exact⟨k+1,by omega,by omega,by go_num,l,⟨rfl,rfl⟩,Lib.hid p1,Lib.hid p2,Lib.hid p3⟩
          case measure=>simp[intOf];omega
       ·have bR:((i:Int)==0)=false:=by simp;omega
        rcases J.out with⟨hi2,-⟩| ⟨hN,htt⟩
        ·omega
        ·by_cases aJ:cv<0
         ·have⟨ai,d⟩:=hyd2 hN htt;clear htt hN;go_wp2;go_region
          all_goals
           go_wp2;go_roundw
           case rel=>
            obtain⟨p1,p2,p3⟩:=aG.out (d.out.1 aJ);exact⟨k+1,by omega,by omega,by go_num,some (i,k,R),⟨rfl,rfl⟩,Lib.hid p1,Lib.hid p2,Lib.hid p3⟩
           case measure=>simp[intOf];omega
         ·have⟨ai,d⟩:=hyd2 hN htt;clear htt hN;go_wp2;go_roundw
          case rel=>
           obtain⟨p1,p2,p3⟩:=a5.out (by rw[<-Bool.not_eq_true];intro h;have:=d.out.2 h;omega);exact⟨k+1,by omega,by omega,by go_num,l,⟨rfl,rfl⟩,Lib.hid p1,Lib.hid p2,Lib.hid p3⟩
          case measure=>simp[intOf];omega
     ·obtain rfl:k=M+1:=by omega
      obtain⟨t,rfl,s,F,O,h3⟩:=al.out l aq.out;go_wp2;go_roundw
      case rel=>exact⟨i+1,by omega,by go_num,some t,⟨rfl,rfl⟩,aQ,ap,Lib.hid (.inr ⟨by omega,t,rfl,s,F,O,h3⟩)⟩
      case measure=>simp[intOf];omega
  ·obtain rfl:i=ps.length:=by omega
   rcases au.out with⟨h0,-⟩| ⟨h0,t,rfl,s,F,O,h3⟩
   ·omega
   ·obtain⟨A,c1,A',c2,kk,-,r⟩:=aT.out;have r:=r t rfl;obtain⟨d0,d1,d2,d3⟩:=qAO kk;have⟨g0,g1,g2,g3⟩:=frz4 kk;have hz:=qAO (qBP (W:=wr) (u0:= .bool (offO (some t)).sn) (u1:= .slice A (offO (some t)).gn.length c1) (u2:= .bool (offO (some t)).sd) (u3:= .slice A' (offO (some t)).gd.length c2) kk);have ad:=Below.drew (qBs (u0:= .bool (offO (some t)).sn) (u1:= .slice A (offO (some t)).gn.length c1) (u2:= .bool (offO (some t)).sd) (u3:= .slice A' (offO (some t)).gd.length c2) ao.out (Nat.le_refl _));have f:=(FracL.touch r (qMT kk) (qHI wr w.heap.size (.bool (offO (some t)).sn) (.slice A (offO (some t)).gn.length c1) (.bool (offO (some t)).sd) (.slice A' (offO (some t)).gd.length c2))).le ((Below.refl _ _).drew);have ae:=IdxPost.good bE.out (by rw[aM.out];exact s) ad f;generalize (offO (some t)).sn =o1 at*;generalize (offO (some t)).gn.length =l at*;generalize (offO (some t)).sd =o3 at*;generalize (offO (some t)).gd.length =o4 at*;have⟨dz,cA,ca,bZ,ac,ar,ds⟩:=hyd7 kk r hz ad f ae s;clear s ae f ad hz r kk;go_wp2;go_region
    all_goals
     go_wp2;obtain⟨e0,e1,e2,e3⟩:=ca.out;exact bodyPost_ret (v:= .tuple #[.int .i64 (t.1:Int),.int .i64 (t.2.1:Int),.agg #[.bool o1,.slice A l c1,.bool o3,.slice A' o4 c2],.int .i64 0]) (by simp[results,Tryz.results14,go_sem,e0,e1,e2,e3,qMW,qN9]) rfl ar.out
end Go.Proofs.YtbcbcdgbliheoaaGreat

/- Roots: there is room for the reference's chains. -/
import Derived.Test.YtcoajjdhkhgfdaaPk52
namespace Go.Proofs.Ytcoajjdhkhgfdaa
set_option maxRecDepth 100000
open Go.RowKit
set_option linter.unusedVariables false
theorem qHB {n:Nat} {l:List Rat} (h:GL n l):GL n (negQ l):=by
 obtain⟨D,c,d,f⟩:=h;refine⟨D,c,d,λr b=>?_⟩;unfold negQ at b;rw[List.mem_map]at b;obtain⟨x,i,rfl⟩:=b;obtain⟨N,e,g⟩:=f x i;exact⟨-N,by rw[e,Rat.intCast_neg,Rat.div_def,Rat.div_def,Rat.neg_mul],by rw[Int.natAbs_neg];exact g⟩
theorem qH2 {l:List Rat} (h0:qAP l≠0):qAJ l=qAL l∨qAJ l=negQ (qAL l):=by
 unfold qAJ rabs
 split
 ·right
  unfold negQ qAL;rw[List.map_map];refine List.map_congr_left λr _=>?_;show r / -qAP l= -(r / qAP l);generalize qAP l=b at h0
  grind
 ·left
  rfl
theorem qKk {n:Nat} {l:List Rat} (h:GL n l) (h0:qAP l≠0):GL n (qAJ l):=by
 rcases qH2 h0 with e|e
 ·rw[e];exact h.monic h0
 ·rw[e];exact qHB (h.monic h0)
theorem qGd {l:List Rat} (h1:l.length=1) (h0:qAP l≠0):qAL l=[1]:=by
 match l,h1 with
 | [x],_=>
  have b:x≠0:=h0;show[x / x]=[1];rw[Rat.div_def,Rat.mul_inv_cancel _ b]
theorem qKl:GL 1 [(1:Rat)]:=by
 refine⟨1,by decide,by rw[qAM];decide,λr b=>⟨1,?_,by rw[qAM];decide⟩⟩
 obtain rfl:r=1:=by simpa using b
 decide+kernel
def scB (lb M:Nat):Nat:=if lb=1 then 1 else M
theorem qLY {n:Nat} {l:List Rat} (h:GL n l) (h0:qAP l≠0):GL (scB l.length n) (qAJ l):=by
 unfold scB
 split
 ·rename_i h1
  rcases qH2 h0 with e|e
  ·rw[e,qGd h1 h0];exact qKl
  ·rw[e,qGd h1 h0];exact qHB qKl
 ·exact qKk h h0
theorem fe66 (D E s N Q K:Rat) (hD:D≠0) (hQ:Q≠0) (hE:E≠0) (hs0:s≠0):N / D / (Q / E)*(K / E)=(s*(N*K)) / (D*(s*Q)):=by grind
theorem qLu {n k:Nat} {P q:List Rat} (hP:GL n P) (hq:GL k q) (h0:q.getD (q.length - 1) 0≠0) (i j:Nat):Rsz (divC P q i*q.getD j 0) (n+k):=by
 obtain⟨D,t,x,y⟩:=hP;obtain⟨E,z,J,v⟩:=hq;obtain⟨c,g,r⟩:=GL.getD v (q.length - 1);obtain⟨K,F,G⟩:=GL.getD v j;obtain⟨N,H,I⟩:=GL.getD y (i+q.length - 1);have A:(D:Rat)≠0:=by exact_mod_cast Nat.ne_of_gt t
 have B:(E:Rat)≠0:=by exact_mod_cast Nat.ne_of_gt z
 have d:c≠0:=λh=>h0 (by rw[g,h,Rat.intCast_zero,qBm]);have l:(c:Rat)≠0:=by exact_mod_cast d
 obtain⟨b,f,o⟩:∃s:Int,(s=1∨s= -1)/\(c.natAbs:Int)=s*c:=by
  rcases Int.natAbs_eq c with h|h
  ·exact⟨1,.inl rfl,by omega⟩
  ·exact⟨-1,.inr rfl,by omega⟩
 have p:((c.natAbs:Nat):Rat)=(b:Rat)*(c:Rat):=by
  rw[<-Rat.intCast_mul,<-o];rfl
 have C:∀N:Int,(b*N).natAbs =N.natAbs:=λN=>by rcases f with rfl|rfl<;>simp
 have m:(b:Rat)≠0:=by rcases f with rfl|rfl<;>decide+kernel
 have e:divC P q i*q.getD j 0=((b*(N*K):Int):Rat) / ((D*c.natAbs:Nat):Rat):=by
  unfold divC;rw[H,g,F,Rat.natCast_mul,p,Rat.intCast_mul,Rat.intCast_mul];exact fe66 _ _ _ _ _ _ A l B m
 rw[e];refine qGs (Nat.mul_pos t (Int.natAbs_pos.2 d)) ?_ ?_
 ·rw[C];exact qBP I G
 ·rw[Nat.pow_add];exact Nat.mul_lt_mul'' x r
structure ElQ (r:List Rat):Prop where
 pos:r.length≠0
 len:r.length<=65
 gl:GL 1300000 r
def refB:Nat->Nat->Nat->Nat->Nat->Bool
 | 0,_,lb,_,_=>decide (lb=0)
 | f+1,la,lb,Ma,Mb=>decide (lb=0)||(decide (lb<=65/\Mb<=1300000/\Ma+(la - lb+1)*(scB lb Mb+1)<=2000000)&&(List.range lb).all λr=>refB f lb r (scB lb Mb) (Ma+(la - lb+1)*(scB lb Mb+1)))
theorem qMH {lb M:Nat} (h:M<=1300000):scB lb M<=1300000:=by unfold scB;split<;>omega
theorem qJF:∀(f:Nat) (a q:List Rat) (Ma Mb:Nat),GL Ma a->GL Mb q->qAD a=true->qAD q=true->refB f a.length q.length Ma Mb=true->ChQRoom f a q/\∀L:List (List Rat),(∀r∈L,ElQ r)->(∀r∈chQ f a q L,ElQ r)/\(chQ f a q L).length <=L.length+f
 | 0,a,q,_,_,_,_,_,_,h=>by
  unfold refB at h;exact⟨.stop (by simpa using h),λL hL=>⟨hL,Nat.le_refl _⟩⟩
 | f+1,a,q,Ma,Mb,ha,hq,ta,tq,h=>by
  unfold refB at h
  by_cases h0:q.length=0
  ·refine⟨.stop h0,λL hL=>?_⟩;rw[qJE h0];exact⟨hL,by omega⟩
  ·rw[decide_eq_false h0,Bool.false_or,Bool.and_eq_true]at h;obtain⟨h1,h2⟩:=h;obtain⟨h65,hMb,hMa⟩:=of_decide_eq_true h1;have hlz:=qBD tq h0;have hsc:=qLY hq hlz;have hsl:=qCV q;have ts:=qD3 tq;have htop:=qB1 ts (by omega);have hlt:=qDi ta ts (by omega);have hk:=qMH (lb:=q.length) hMb;obtain⟨k,hkk⟩:∃k,scB q.length Mb=k:=⟨_,rfl⟩;rw[hkk]at hMa h2 hsc hk;have hr:=qFz ha hsc htop;have hr2:GL (Ma+(a.length - q.length+1)*(k+1)) (negQ (qAI a (qAJ q))):=qHB (hr.up (by rw[hsl];exact Nat.add_le_add_left (Nat.mul_le_mul_right _ (by omega)) _));have h3:=List.all_eq_true.1 h2 (qAI a (qAJ q)).length (List.mem_range.2 (by omega));rw[<-qDj (qAI a (qAJ q)),<-hsl]at h3;rw[hsl]at h3;have h4:=qJF f (qAJ q) (negQ (qAI a (qAJ q))) k _ hsc hr2 ts (qGB (qBZ ta)) (by rw[hsl];exact h3);refine⟨.step ⟨λr hr=>qA0 (hq.sz r hr) (by omega),λr hr=>qA0 (hsc.sz r hr) (by omega),λs hs r hr=>?_,λhle s hs j=>?_⟩ h4.1,λL hL=>?_⟩
   ·rw[hsl]at hs;have h5:=(qCe ha hsc htop (a.length - (qAJ q).length) s).sz r hr;have h6:=Nat.mul_le_mul_right (k+1) hs;exact qA0 h5 (by omega)
   ·rw[hsl]at hs;have h5:=qLu (qCe ha hsc htop (a.length - (qAJ q).length) s) hsc htop (a.length - (qAJ q).length - s) j;have h6:=Nat.mul_le_mul_right (k+1) (show s+1<=a.length - q.length+1 by omega);rw[Nat.add_mul s 1]at h6;exact qA0 h5 (by omega)
   ·rw[chQ,if_neg h0]
    have h5:=h4.2 (L++[qAJ q]) λr hr=>by
     rw[List.mem_append,List.mem_singleton]at hr
     rcases hr with hr|rfl
     ·exact hL r hr
     ·exact⟨by omega,by omega,hsc.up hk⟩
    exact⟨h5.1,by have:=h5.2;rw[List.length_append,List.length_singleton]at this;omega⟩
theorem qLZ:∀n,n<9->∀g,g<n->1<=g->refB (n - g+1) (n - g+1) (n - g) (qB n g) (qB n g+1)=true:=by decide+kernel
theorem qKm:∀n,n<9->2<=n->qBb n (n - 1) 18<=400000:=by decide+kernel
theorem qKn {z:Int} {n:Nat} (h:Isz z n):z.natAbs<B9^n:=Nat.lt_of_lt_of_le (qAa _) (qCA h)
theorem qKo {y:Rat} {r:List Rat} (hy:Rsz y 2) (h:ElQ r):AtRoom y r:=by
 refine⟨h.len,λc M=>qA0 (h.gl.sz c M) (by omega),λk P=>?_⟩;obtain⟨Mz,hMz⟩:∃m:Nat,m=1300000:=⟨_,rfl⟩;have hg:=h.gl;rw[<-hMz]at hg;obtain⟨D,F,J,L⟩:=hg;have p:(D:Rat)≠0:=by exact_mod_cast Nat.ne_of_gt F
 have f:∀j,∃N:Int,r.getD j 0=(N:Rat) / (D:Rat)/\N.natAbs<B9^Mz:=λj=>GL.getD L j;obtain⟨N,f⟩:∃N:Nat->Int,∀j,r.getD j 0=(N j:Rat) / (D:Rat)/\(N j).natAbs <B9^Mz:=⟨λj=>(f j).choose,λj=>(f j).choose_spec⟩;obtain⟨A,m⟩:∃A:List Int,(List.range r.length).map N=A:=⟨_,rfl⟩;have n:A.length=r.length:=by rw[<-m,List.length_map,List.length_range]
 have g:∀j,((A.getD j 0:Int):Rat)=(D:Rat)*r.getD j 0:=λj=>by
  by_cases O:j<r.length
  ·have e:A.getD j 0=N j:=by rw[<-m,List.getD_eq_getElem?_getD,List.getElem?_map,List.getElem?_range O];rfl
   rw[e,(f j).1];generalize (N j:Rat)=x
   grind
  ·have e:A.getD j 0=0:=by rw[List.getD_eq_getElem?_getD,List.getElem?_eq_none (by omega)];rfl
   rw[e,qAq (by omega),Rat.mul_zero]
   rfl
 have o:∀x∈A,Isz x Mz:=λx I=>by
  rw[<-m,List.mem_map]at I;obtain⟨j,-,rfl⟩:=I;exact qAl (f j).2
 have t:(0:Int)<(y.den:Int):=by have:=qA3 y;omega
 have B:Isz y.num 2:=hy.1;have b:Isz (y.den:Int) 2:=by unfold Isz;rw[Int.natAbs_natCast];exact hy.2
 have l:=qGD (num:=y.num) (den:=(y.den:Int)) (by omega) n g k;have C:((y.num:Int):Rat) / ((y.den:Int):Rat)=y:=(qCB y).symm;rw[C]at l;have G:=qKn (qB0 (qFy o B b k) b);have q:=qKn (qFX b k);rw[show((y.den:Int)^k).natAbs =y.den^k by rw[Int.natAbs_pow,Int.natAbs_natCast]]at q;have s:0<y.den^k:=Nat.pow_pos (by omega);have H:=h.len
 have e:valK r y k=((qBV A y.num (y.den:Int) k*(y.den:Int):Int):Rat) / ((D*y.den^k:Nat):Rat):=by
  have i:((y.den^k:Nat):Rat)=(((y.den:Int)^k:Int):Rat):=by
   rw[show((y.den:Int)^k:Int)=((y.den^k:Nat):Int)by exact_mod_cast rfl]
   rfl
  have z:(((y.den:Int)^k:Int):Rat)≠0:=by exact_mod_cast (show((y.den:Int)^k)≠0 from Int.ne_of_gt (Int.pow_pos t))
  rw[Rat.intCast_mul,l,Rat.natCast_mul,i];generalize (((y.den:Int)^k:Int):Rat)=E at z;generalize valK r y k=v;generalize (D:Rat)=d at p;clear l g f q G
  grind
 rw[e];obtain⟨u,O⟩:∃u:Nat,u=1900000:=⟨_,rfl⟩;rw[<-O];refine qGs (Nat.mul_pos F s) (Nat.lt_of_lt_of_le G (qCA ?_)) (Nat.lt_of_lt_of_le ?_ (qCA (show Mz+(1+k*2)<=u by omega)))
 ·omega
 ·rw[Nat.pow_add];exact Nat.mul_lt_mul'' J q
theorem qJl {x:List Rat} (ht:qAD x=true) (h2:2<=x.length) (h8:x.length<=8) (hs:∀r∈x,Rsz r 2):RefRoom x:=by
 obtain⟨l,m,B,C⟩:=qF9 ht h2 h8 hs;obtain⟨D,n⟩:=qC8 ht (by omega);obtain⟨I,J,L⟩:=qKg x.length (by omega) (gcdD x).length C B;have o:=qLZ x.length (by omega) (gcdD x).length C B;have v:=qDQ (p:=x) (g:=gcdD x) (by omega);have z:=qDH ht n (by omega) D;have hq:=qIZ l m n (by omega);have G:qB x.length (gcdD x).length =17+(x.length - (gcdD x).length +1)*(tabQ (gcdD x).length +1):=rfl;have f:qAW x=qAj x (gcdD x):=by unfold qAW;rw[<-qCM ht]
 have t:=qBs x;have d:GL (qB x.length (gcdD x).length) (qAW x):=by rw[f];exact hq.up (by omega)
 have h:qAD (qAW x)=true:=by rw[f];exact z
 have A:(qAW x).length =x.length - (gcdD x).length +1:=by rw[f];exact v
 have q:=qGz d (by omega);have i:=qBs (qAW x);have F:qB x.length (gcdD x).length <=1300000:=by omega
 have j:=qJF (qAW x).length (qAW x) (derQ (qAW x)) _ _ d q h (qC9 h) (by rw[i,A,Nat.add_sub_cancel];exact o)
 have c:=j.2 [qAW x] λr b=>by
  obtain rfl:r=qAW x:=by simpa using b
  exact⟨by omega,by omega,d.up F⟩
 refine⟨by omega,ht,λr b=>qA0 (hs r b) (by decide),⟨18,l.up (by decide),qGz l (by omega),?_⟩,λr b=>?_,λs k r b=>?_,⟨by omega,by omega,h,λr b=>qA0 (d.sz r b) (by omega),j.1⟩,λr b=>⟨(c.1 r b).pos,(c.1 r b).len⟩,?_,λy H r b=>qKo H (c.1 r b)⟩
 ·rw[t];exact qKm x.length (by omega) h2
 ·rw[<-qCM ht]at b;exact qA0 (m.sz r b) (by omega)
 ·rw[<-qCM ht]at b k;have E:=(qCe l m n (x.length - (gcdD x).length) s).sz r b;have M:=Nat.mul_le_mul_right (tabQ (gcdD x).length +1) k;exact qA0 E (by omega)
 ·have:=c.2;show(chQ _ _ _ _).length <=1000;simp only[List.length_singleton]at this;omega
theorem qIi {l:List FracA} (hg:qBk l 8 2=false):qGF l:=λx hx h2=>by
 obtain⟨h8,hs⟩:=qGb hg hx;exact qJl (qBA hx).2.2 h2 h8 hs
theorem qKp (p:List FracA):qEN p=qBt p:=by
 unfold qEN qBt
 cases hl:qA7 p with
 | error z=>rfl
 | ok x=>
  dsimp only;have g:=(qBA hl).2.2
  by_cases b:x.length=0
  ·rw[if_pos b,if_pos b]
  ·rw[if_neg b,if_neg b]
   by_cases c:x.length=1
   ·rw[if_pos c];unfold cntR;rw[if_pos (by omega)]
   ·rw[if_neg c];unfold cntR;rw[if_neg (by omega)];obtain⟨d,f⟩:=qME (qEc g b);rw[d,f]
theorem qIj (p:List FracA) (x y:FracA):qB2 p x y=qAm p x y:=by
 unfold qB2 qAm
 cases hl:qA7 p with
 | error z=>rfl
 | ok l=>
  dsimp only;have d:=(qBA hl).2.2
  cases hx:x.rat? with
  | none=>rfl
  | some a=>
   cases hy:y.rat? with
   | none=>rfl
   | some b=>
    dsimp only
    by_cases c:l.length=0
    ·rw[if_pos c,if_pos c]
    ·rw[if_neg c,if_neg c,qKc (qEc d c),qKc (qEc d c)]
end Go.Proofs.Ytcoajjdhkhgfdaa

/- Places and spots, plain: what the document says of them; what an answer reads as. What MotionPlaces' guard says of its point. -/
import Derived.Test.YtabfaobakmjiaaaGreatPx44
namespace Go.Proofs.YtabfaobakmjiaaaGreat
set_option maxRecDepth 100000
open Go.RowKit Go.Shelf
set_option linter.unusedVariables false
set_option linter.unusedSimpArgs false
noncomputable def qAM (g:G2):FracA×FracA:=(qCW g.1,qCW g.2)
def qT8:FracA×FracA:=(qO9,qO9)
noncomputable def qBh:Except Int G2->FracA×FracA
 | .ok g=>qAM g
 | .error _=>qT8
theorem TurnF.isAV {w:World} {v:Value} {g:G2} (h:TurnF w v g):IsTurnA w v (qAM g):=by
 obtain⟨R,z,P,H,T,E,N,L,S,C,Q,I,U,F,O,M,rfl,q,r⟩:=h;obtain⟨A,c,B,d,b,s,t⟩:=q.isA;obtain⟨y,G,D,J,f,x,q2⟩:=r.isA;injection b with b;injection f with f;simp only[Array.mk.injEq,List.cons.injEq,and_true]at b f;obtain⟨i,j,k,l⟩:=b;obtain⟨m,n,o,p⟩:=f;rw[i,j,k,l,m,n,o,p];exact⟨_,_,_,_,_,_,_,_,rfl,⟨_,_,_,_,rfl,s,t⟩,⟨_,_,_,_,rfl,x,q2⟩⟩
theorem IsResT.isAV {w:World} {v:Value} {c:Int} {res:Except Int G2} (h:IsResT w v c res):IsTurnA w v (qBh res):=by
 cases res with
 | ok g=>exact h.1.isAV
 | error x=>
  obtain⟨rfl,-⟩:=h;exact⟨none,0,none,0,none,0,none,0,rfl,qKN _ w,qKN _ w⟩
theorem qBH {g:G2} (h:TSz g 40):tval (qAM g)=some g:=qKQ (qHJ h.1) (qHJ h.2)
theorem qRQ {g r:G2} (h:outG g= .ok r):TSz r 40:=by
 unfold outG at h
 split at h
 ·injection h with h;rw[<-h];assumption
 ·cases h
noncomputable def mulG (x y:FracA×FracA):Except Int G2:=opG (λa b=>outG (gmul a b)) x y
noncomputable def qFj (x y:FracA×FracA):Except Int G2:=opG (λa b=>outG (gadd a b)) x y
theorem qSt {f:G2->G2->G2} {x y:FracA×FracA} {r:G2} (h:opG (λa b=>outG (f a b)) x y= .ok r):TSz r 40:=by
 unfold opG at h
 split at h
 ·exact qRQ h
 ·cases h
noncomputable def armG (u:FracA×FracA) (s:G2) (a:ArmA):Except Int G2:=
 match powG u a.k with
 | .error e=> .error e
 | .ok x=>match mulG a.c (qAM x)with
  | .error e=> .error e
  | .ok y=>qFj (qAM s) (qAM y)
noncomputable def qBN (u:FracA×FracA):G2->List ArmA->Except Int G2
 | s,[]=> .ok s
 | s,a::l=>match armG u s a with
  | .error e=> .error e
  | .ok t=>qBN u t l
theorem qMw {u:FracA×FracA} {s:G2} {l:List ArmA} {m:Nat} (h:m<l.length):qBN u s (l.drop m)=match armG u s (l.getD m default)with
  | .error e=> .error e
  | .ok t=>qBN u t (l.drop (m+1)):=by
 rw[List.drop_eq_getElem_cons h,show l.getD m default=l[m]from by simp[List.getD_eq_getElem?_getD,List.getElem?_eq_getElem h]]
 rfl
theorem qOh {u:FracA×FracA} {s:G2} {l:List ArmA}:qBN u s (l.drop l.length)= .ok s:=by rw[List.drop_length];rfl
theorem qSW {u:FracA×FracA} {s t:G2} {a:ArmA} (h:armG u s a= .ok t):TSz t 40:=by
 unfold armG at h
 split at h
 ·cases h
 ·split at h
  ·cases h
  ·exact qSt h
noncomputable def qBi (x:FracA×FracA):Except Int (Int×Int):=
 if (qAT x.1).2≠0 then .error (qAT x.1).2
 else if (qAT x.2).2≠0 then .error (qAT x.2).2
 else if (-10000<=(qAT x.1).1/\(qAT x.1).1<=10000)/\(-10000<=(qAT x.2).1/\(qAT x.2).1<=10000)then .ok ((qAT x.1).1,(qAT x.2).1)
 else .error 22
noncomputable def iG:FracA×FracA:=qBh (qCF 1 1)
noncomputable def uA (n idx:Nat):FracA×FracA:=qBh (mulG (qBh (powG iG ((idx / n:Nat):Int))) (qBh (qCF ((idx%n:Nat):Int) (n:Int))))
noncomputable def qR:Nat->FracA×FracA
 | 0=>qAM gone
 | k+1=>qBh (mulG (qR k) iG)
noncomputable def qBm (l:List ArmA) (n idx:Nat):Except Int (Int×Int):=
 match qBN (uA n idx) (0,0) l with
 | .error e=> .error e
 | .ok g=>qBi (qAM g)
noncomputable def qAq (l:List ArmA) (n:Nat):Nat->Except Int (List (Int×Int))
 | 0=> .ok []
 | m+1=>match qAq l n m with
  | .error e=> .error e
  | .ok L=>match qBm l n m with
   | .error e=> .error e
   | .ok x=> .ok (L++[x])
noncomputable def qAi (l:List ArmA) (n:Int):Except Int (List (Int×Int)):=
 if qDF l≠0 then .error (qDF l)
 else if 1<=n/\n<=16 then qAq l n.toNat (4*n.toNat)
 else .error 2
theorem qJE {l:List ArmA} {n m:Nat} {e:Int} (h:qAq l n m= .error e):∀d,qAq l n (m+d)= .error e
 | 0=>h
 | d+1=>by
  show qAq l n ((m+d)+1)=_
  unfold qAq;rw[qJE h d]
theorem qJF {l:List ArmA} {n m M:Nat} {e:Int} {L:List (Int×Int)} (h:qAq l n m= .ok L) (h1:qBm l n m= .error e) (hm:m<M):qAq l n M= .error e:=by
 obtain⟨d,rfl⟩:∃d,M=m+1+d:=⟨M - (m+1),by omega⟩;refine qJE ?_ d;unfold qAq;rw[h];simp only;rw[h1]
theorem qMx {l:List ArmA} {n m:Nat} {x:Int×Int} {L:List (Int×Int)} (h:qAq l n m= .ok L) (h1:qBm l n m= .ok x):qAq l n (m+1)= .ok (L++[x]):=by
 unfold qAq;rw[h];simp only;rw[h1]
theorem qFA {l:List ArmA} {n:Nat}:∀{m:Nat} {L:List (Int×Int)},qAq l n m= .ok L->L.length=m
 | 0,L,h=>by injection h with h;rw[<-h];rfl
 | m+1,L,h=>by
  unfold qAq at h
  split at h
  ·cases h
  ·rename_i L0 h0
   split at h
   ·cases h
   ·injection h with h;rw[<-h,List.length_append,qFA h0]
    rfl
def KC (W W':World):Prop:=W.heap.size<=W'.heap.size/\∀(B:Nat) (o:Obj),W.heap[B]? =some o->o.isCells=true->W'.heap[B]? =some o
theorem KC.at {W W':World} (h:KC W W') {B:Nat} {cs:Array Value} {t:TypeId} (hB:W.heap[B]? =some (.cells cs t)):W'.heap[B]? =some (.cells cs t):=h.2 _ _ hB rfl
theorem KC.of_grown {W W':World} {row:Option Nat} (h:W.grownBy W' row) (hr:∀r,row=some r->∃o:Obj,W.heap[r]? =some o/\o.isCells=false):KC W W':=
 ⟨h.size,λB o hB ho=>(h.block B (gsl hB) (λe=>by
  obtain⟨o',h1,h2⟩:=hr B e.symm;rw[hB]at h1;injection h1 with h1;subst h1;rw[ho]at h2
  cases h2)).trans hB⟩
theorem ArrL.kc {α:Type} {L:Nat->Prop} {f:α->Value} {W W':World} {v:Value} {xs:List α} (h:ArrL L f W v xs) (hk:KC W W'):ArrL L f W' v xs:=by
 obtain⟨A,c,B,l,m,r,n⟩:=h;refine⟨A,c,B,l,m,r,λk=>?_⟩;obtain⟨b,off,s,x,g,y⟩:=n k;refine⟨b,off,s,x,Nat.lt_of_lt_of_le g hk.1,λj z=>?_⟩;have d:=y j z
 have p:∃o,W.heap[b]? =some o/\o.isCells=true:=by
  cases ho:W.heap[b]? with
  | none=>simp[World.cell?,ho]at d
  | some o=>
   cases o with
   | cells cs t=>exact⟨_,rfl,rfl⟩
   | _=>simp[World.cell?,ho]at d
 obtain⟨o,i,q⟩:=p;exact(World.cell?_of_block ((hk.2 _ _ i q).trans i.symm)).trans d
theorem Unf.kc {W W':World} {v:Value} (h:Unf W v) (hk:KC W W'):Unf W' v:=λb off m c e=>by
 obtain⟨cs,t,h1⟩:=h b off m c e;exact⟨cs,t,hk.at h1⟩
theorem FracL.kc {L:Nat->Prop} {W W':World} {v:Value} {r:Rat} (h:FracL L W v r) (hk:KC W W'):FracL L W' v r:=by
 obtain⟨A,c,C,d,e,b,f⟩:=h;exact⟨A,c,C,d,e,⟨b.1.kc hk,b.2.kc hk⟩,⟨f.1.kc hk,f.2.kc hk⟩⟩
theorem TurnF.kc {W W':World} {v:Value} {g:G2} (h:TurnF W v g) (hk:KC W W'):TurnF W' v g:=by
 obtain⟨s,d,q,k,x,i,o,m,t,f,r,l,y,j,p,n,rfl,b,c⟩:=h;exact .mk (b.kc hk) (c.kc hk)
theorem NumL.put64 {L:Nat->Prop} {W:World} {v:Value} {n B:Nat} {z z':Int} {t:TypeId} (h:NumL L .u32 W v n) (hk:W.heap[B]? =some (.cells #[.int .i64 z] t)):NumL L .u32 (W.setCell ⟨B,0,none⟩ (.int .i64 z')) v n:=by
 obtain⟨A,c,y,l,o,q,p⟩:=h;refine⟨A,c,y,l,o,q,λi=>?_⟩;obtain⟨b,off,r,s,f,k⟩:=p i
 have g:b≠B:=by
  rintro rfl;have d:=k 0 i;simp only[World.cell?,hk]at d
  cases hoff:(off+0)with
  | zero=>rw[hoff]at d;simp[gv]at d
  | succ m=>rw[hoff]at d;simp at d
 exact⟨b,off,r,s,by simpa[World.setCell]using f,λj x=>(World.cell?_of_block (Below.heap_setCell _ _ _ _ g)).trans (k j x)⟩
theorem Unf.put64 {W:World} {v:Value} {B:Nat} {z z':Int} {t:TypeId} (h:Unf W v) (hk:W.heap[B]? =some (.cells #[.int .i64 z] t)):Unf (W.setCell ⟨B,0,none⟩ (.int .i64 z')) v:=λb off m c e=>by
 obtain⟨cs,t1,h1⟩:=h b off m c e
 by_cases hb:b=B
 ·subst hb;exact⟨_,_,qA5 hk⟩
 ·exact⟨cs,t1,(Below.heap_setCell _ _ _ _ hb).trans h1⟩
theorem FracL.put64 {L:Nat->Prop} {W:World} {v:Value} {r:Rat} {B:Nat} {z z':Int} {t:TypeId} (h:FracL L W v r) (hk:W.heap[B]? =some (.cells #[.int .i64 z] t)):FracL L (W.setCell ⟨B,0,none⟩ (.int .i64 z')) v r:=by
 obtain⟨A,c,C,d,e,b,f⟩:=h;exact⟨A,c,C,d,e,⟨b.1.put64 hk,b.2.put64 hk⟩,⟨f.1.put64 hk,f.2.put64 hk⟩⟩
theorem TurnF.put64 {W:World} {v:Value} {g:G2} {B:Nat} {z z':Int} {t:TypeId} (h:TurnF W v g) (hk:W.heap[B]? =some (.cells #[.int .i64 z] t)):TurnF (W.setCell ⟨B,0,none⟩ (.int .i64 z')) v g:=by
 obtain⟨s,d,q,k,y,i,o,m,x,f,r,l,A,j,p,n,rfl,b,c⟩:=h;exact .mk (b.put64 hk) (c.put64 hk)
def gi:G2:=(0,1)
theorem qQB (k:Nat):GF (gpow gi k) 1 1:=by
 have h:GF gi 1 1:=⟨0,1,1,by decide,by decide,by unfold gi;decide+kernel,by unfold gi;decide+kernel,by decide⟩;have:=h.pow k;simpa using this
theorem qMP (n:Nat) (h:0<n):1024<B9^n:=by
 have b:B9^1<=B9^n:=Nat.pow_le_pow_right (by rw[qA6];decide) h;have c:B9^1=1000000000:=by rw[Nat.pow_one,qA6]
 omega
theorem GF.sz1 {a:G2} {P D n:Nat} (h:GF a P D) (hP:P<=1024) (hD:D<=1024) (hn:0<n):TSz a n:=
 h.sz (Nat.lt_of_le_of_lt hP (qMP n hn)) (Nat.lt_of_le_of_lt hD (qMP n hn))
theorem qGX (k n:Nat) (hn:0<n):TSz (gpow gi k) n:=(qQB k).sz1 (by decide) (by decide) hn
theorem qN4 {s n:Nat} (h:0<n):gdiv (ndG (s:Int) (n:Int)) (qA4 (ndG (s:Int) (n:Int)))=
  (((((n:Int)*n - (s:Int)*s:Int):Rat) / ((n*n+s*s:Nat):Rat)),((((n:Int)*s+(s:Int)*n:Int):Rat) / ((n*n+s*s:Nat):Rat))):=by
 unfold gdiv qA4 gmul qAS ndG
 ext
 ·simp only
  push_cast
  congr 1<;>grind
 ·simp only
  push_cast
  congr 1<;>grind
theorem qKV {s n:Nat} (hn:0<n) (hn2:n<=16) (hs:s<=n):GF (gdiv (ndG (s:Int) (n:Int)) (qA4 (ndG (s:Int) (n:Int)))) 1024 512:=by
 rw[qN4 hn];have c:n*n<=256:=Nat.le_trans (Nat.mul_le_mul hn2 hn2) (by decide);have d:s*s<=n*n:=Nat.mul_le_mul hs hs;have f:n*s<=n*n:=Nat.mul_le_mul (Nat.le_refl _) hs;have g:0<n*n:=Nat.mul_pos hn hn;have h:s*n=n*s:=Nat.mul_comm _ _;refine⟨_,_,n*n+s*s,by omega,by omega,rfl,rfl,?_⟩
 have i:((n:Int)*n - (s:Int)*s).natAbs <=n*n:=by
  have:(n:Int)*n=((n*n:Nat):Int):=by simp
  have b:(s:Int)*s=((s*s:Nat):Int):=by simp
  rw[this,b];omega
 have j:((n:Int)*s+(s:Int)*n).natAbs <=2*(n*n):=by
  have:(n:Int)*s=((n*s:Nat):Int):=by simp
  have b:(s:Int)*n=((s*n:Nat):Int):=by simp
  rw[this,b];omega
 omega
theorem qJG {s n:Nat} (hn:0<n) (hn2:n<=16) (hs:s<=n):qCF (s:Int) (n:Int)= .ok (gdiv (ndG (s:Int) (n:Int)) (qA4 (ndG (s:Int) (n:Int)))):=by
 unfold qCF;rw[if_neg (by omega),qBc ((qKV hn hn2 hs).sz1 (by decide) (by decide) (by decide))]
theorem qKw:iG=qAM gi:=by
 unfold iG;have h:=qJG (s:=1) (n:=1) (by decide) (by decide) (by decide);rw[show((1:Nat):Int)=1 from rfl]at h;rw[h];show qAM _=_;have:=qN4 (s:=1) (n:=1) (by decide);rw[show((1:Nat):Int)=1 from rfl]at this;rw[this]
 congr 1
 unfold gi
 decide+kernel
theorem qSu {k:Nat} (hk:k<=64):powG iG (k:Int)= .ok (gpow gi k):=by
 have b:tval iG=some gi:=by rw[qKw];exact qBH (by have:=qGX 1 40 (by decide);rwa[show gpow gi 1=gi from by unfold gpow gpow;exact qES gi]at this)
 rw[qMH b (by omega) (by omega),Int.natAbs_natCast,qBc (qGX k 40 (by decide))]
theorem qR9:∀k,qR k=qAM (gpow gi k)
 | 0=>rfl
 | k+1=>by
  have hv:tval iG=some gi:=by rw[qKw];exact qBH (by have:=qGX 1 40 (by decide);rwa[show gpow gi 1=gi from by unfold gpow gpow;exact qES gi]at this)
  unfold qR;rw[qR9 k];unfold mulG;rw[qGW (qBH (qGX k 40 (by decide))) hv];show qBh (outG (gpow gi (k+1)))=_;rw[qBc (qGX (k+1) 40 (by decide))]
  rfl
theorem qT9 {n k s:Nat} (hn:0<n) (hn2:n<=16) (hk:k<=64) (hs:s<n):∃g,TSz g 2/\uA n (k*n+s)=qAM g/\qBh (mulG (qBh (qCF (s:Int) (n:Int))) (qR k))=qAM g:=by
 have i:(k*n+s) / n=k:=by rw[Nat.mul_comm,Nat.mul_add_div hn,Nat.div_eq_of_lt hs,Nat.add_zero]
 have j:(k*n+s)%n=s:=by rw[Nat.mul_comm,Nat.mul_add_mod,Nat.mod_eq_of_lt hs]
 have f:=qKV hn hn2 (Nat.le_of_lt hs);obtain⟨a,l⟩:∃a,gdiv (ndG (s:Int) (n:Int)) (qA4 (ndG (s:Int) (n:Int)))=a:=⟨_,rfl⟩;have d:=qJG hn hn2 (Nat.le_of_lt hs);rw[l]at f d;have h:GF (gmul (gpow gi k) a) (1*1024) (1*512):=(qQB k).mul f;have b:tval (qAM a)=some a:=qBH (f.sz1 (by decide) (by decide) (by decide));have c:=qBH (qGX k 40 (by decide));refine⟨gmul (gpow gi k) a,h.sz1 (by decide) (by decide) (by decide),?_,?_⟩
 ·unfold uA;rw[i,j,qSu hk,d];show qBh (mulG (qAM (gpow gi k)) (qAM a))=_;unfold mulG;rw[qGW c b,qBc (h.sz1 (by decide) (by decide) (by decide))]
  rfl
 ·rw[d,qR9];show qBh (mulG (qAM a) (qAM (gpow gi k)))=_;unfold mulG;rw[qGW b c,qFg,qBc (h.sz1 (by decide) (by decide) (by decide))]
  rfl
end Go.Proofs.YtabfaobakmjiaaaGreat

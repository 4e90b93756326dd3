/- Places and spots, plain: what the document says of them; what an answer reads as. What MotionPlaces' guard says of its point. -/
import Derived.Test.YtabfaobakmjiaaaGreatPy42
namespace Go.Proofs.YtabfaobakmjiaaaGreat
set_option maxRecDepth 100000
open Go.RowKit Go.Shelf
set_option linter.unusedVariables false
set_option linter.unusedSimpArgs false
noncomputable def qAa (g:G2):FracA×FracA:=(qIQ g.1,qIQ g.2)
def qSQ:FracA×FracA:=(qNj,qNj)
noncomputable def qBc:Except Int G2->FracA×FracA
 | .ok g=>qAa g
 | .error _=>qSQ
theorem TurnF.isAV {w:World} {v:Value} {g:G2} (h:TurnF w v g):IsTurnA w v (qAa g):=by
 obtain⟨R,z,P,H,T,E,N,L,S,C,Q,I,U,F,O,M,rfl,q,r⟩:=h;obtain⟨A,c,B,d,b,s,t⟩:=q.isA;obtain⟨y,G,D,J,f,x,q2⟩:=r.isA;injection b with b;injection f with f;simp only[Array.mk.injEq,List.cons.injEq,and_true]at b f;obtain⟨i,j,k,l⟩:=b;obtain⟨m,n,o,p⟩:=f;rw[i,j,k,l,m,n,o,p];exact⟨_,_,_,_,_,_,_,_,rfl,⟨_,_,_,_,rfl,s,t⟩,⟨_,_,_,_,rfl,x,q2⟩⟩
theorem IsResT.isAV {w:World} {v:Value} {c:Int} {res:Except Int G2} (h:IsResT w v c res):IsTurnA w v (qBc res):=by
 cases res with
 | ok g=>exact h.1.isAV
 | error x=>
  obtain⟨rfl,-⟩:=h;exact⟨none,0,none,0,none,0,none,0,rfl,qJc _ w,qJc _ w⟩
theorem qC6 {g:G2} (h:TSz g 40):tval (qAa g)=some g:=qJg (qJe h.1) (qJe h.2)
theorem qQY {g r:G2} (h:outG g= .ok r):TSz r 40:=by
 unfold outG at h
 split at h
 ·injection h with h;rw[<-h];assumption
 ·cases h
noncomputable def mulG (x y:FracA×FracA):Except Int G2:=opG (λa b=>outG (gmul a b)) x y
noncomputable def qKV (x y:FracA×FracA):Except Int G2:=opG (λa b=>outG (gadd a b)) x y
theorem qRp {f:G2->G2->G2} {x y:FracA×FracA} {r:G2} (h:opG (λa b=>outG (f a b)) x y= .ok r):TSz r 40:=by
 unfold opG at h
 split at h
 ·exact qQY h
 ·cases h
noncomputable def armG (u:FracA×FracA) (s:G2) (a:ArmA):Except Int G2:=
 match powG u a.k with
 | .error e=> .error e
 | .ok x=>match mulG a.c (qAa x)with
  | .error e=> .error e
  | .ok y=>qKV (qAa s) (qAa y)
noncomputable def qBL (u:FracA×FracA):G2->List ArmA->Except Int G2
 | s,[]=> .ok s
 | s,a::l=>match armG u s a with
  | .error e=> .error e
  | .ok t=>qBL u t l
theorem qMO {u:FracA×FracA} {s:G2} {l:List ArmA} {m:Nat} (h:m<l.length):qBL u s (l.drop m)=match armG u s (l.getD m default)with
  | .error e=> .error e
  | .ok t=>qBL u t (l.drop (m+1)):=by
 rw[List.drop_eq_getElem_cons h,show l.getD m default=l[m]from by simp[List.getD_eq_getElem?_getD,List.getElem?_eq_getElem h]]
 rfl
theorem qNt {u:FracA×FracA} {s:G2} {l:List ArmA}:qBL u s (l.drop l.length)= .ok s:=by rw[List.drop_length];rfl
theorem qRX {u:FracA×FracA} {s t:G2} {a:ArmA} (h:armG u s a= .ok t):TSz t 40:=by
 unfold armG at h
 split at h
 ·cases h
 ·split at h
  ·cases h
  ·exact qRp h
noncomputable def qB0 (x:FracA×FracA):Except Int (Int×Int):=
 if (qAV x.1).2≠0 then .error (qAV x.1).2
 else if (qAV x.2).2≠0 then .error (qAV x.2).2
 else if (-10000<=(qAV x.1).1/\(qAV x.1).1<=10000)/\(-10000<=(qAV x.2).1/\(qAV x.2).1<=10000)then .ok ((qAV x.1).1,(qAV x.2).1)
 else .error 22
noncomputable def iG:FracA×FracA:=qBc (qBz 1 1)
noncomputable def uA (n idx:Nat):FracA×FracA:=qBc (mulG (qBc (powG iG ((idx / n:Nat):Int))) (qBc (qBz ((idx%n:Nat):Int) (n:Int))))
noncomputable def qR:Nat->FracA×FracA
 | 0=>qAa gone
 | k+1=>qBc (mulG (qR k) iG)
noncomputable def qCa (l:List ArmA) (n idx:Nat):Except Int (Int×Int):=
 match qBL (uA n idx) (0,0) l with
 | .error e=> .error e
 | .ok g=>qB0 (qAa g)
noncomputable def qAz (l:List ArmA) (n:Nat):Nat->Except Int (List (Int×Int))
 | 0=> .ok []
 | m+1=>match qAz l n m with
  | .error e=> .error e
  | .ok L=>match qCa l n m with
   | .error e=> .error e
   | .ok x=> .ok (L++[x])
noncomputable def qA4 (l:List ArmA) (n:Int):Except Int (List (Int×Int)):=
 if qC5 l≠0 then .error (qC5 l)
 else if 1<=n/\n<=16 then qAz l n.toNat (4*n.toNat)
 else .error 2
theorem qI4 {l:List ArmA} {n m:Nat} {e:Int} (h:qAz l n m= .error e):∀d,qAz l n (m+d)= .error e
 | 0=>h
 | d+1=>by
  show qAz l n ((m+d)+1)=_
  unfold qAz;rw[qI4 h d]
theorem qI5 {l:List ArmA} {n m M:Nat} {e:Int} {L:List (Int×Int)} (h:qAz l n m= .ok L) (h1:qCa l n m= .error e) (hm:m<M):qAz l n M= .error e:=by
 obtain⟨d,rfl⟩:∃d,M=m+1+d:=⟨M - (m+1),by omega⟩;refine qI4 ?_ d;unfold qAz;rw[h];simp only;rw[h1]
theorem qMP {l:List ArmA} {n m:Nat} {x:Int×Int} {L:List (Int×Int)} (h:qAz l n m= .ok L) (h1:qCa l n m= .ok x):qAz l n (m+1)= .ok (L++[x]):=by
 unfold qAz;rw[h];simp only;rw[h1]
theorem qEh {l:List ArmA} {n:Nat}:∀{m:Nat} {L:List (Int×Int)},qAz l n m= .ok L->L.length=m
 | 0,L,h=>by injection h with h;rw[<-h];rfl
 | m+1,L,h=>by
  unfold qAz at h
  split at h
  ·cases h
  ·rename_i L0 h0
   split at h
   ·cases h
   ·injection h with h;rw[<-h,List.length_append,qEh h0]
    rfl
def KC (W W':World):Prop:=W.heap.size<=W'.heap.size/\∀(B:Nat) (o:Obj),W.heap[B]? =some o->o.isCells=true->W'.heap[B]? =some o
theorem KC.at {W W':World} (h:KC W W') {B:Nat} {cs:Array Value} {t:TypeId} (hB:W.heap[B]? =some (.cells cs t)):W'.heap[B]? =some (.cells cs t):=h.2 _ _ hB rfl
theorem KC.of_grown {W W':World} {row:Option Nat} (h:W.grownBy W' row) (hr:∀r,row=some r->∃o:Obj,W.heap[r]? =some o/\o.isCells=false):KC W W':=
 ⟨h.size,λB o hB ho=>(h.block B (gsl hB) (λe=>by
  obtain⟨o',h1,h2⟩:=hr B e.symm;rw[hB]at h1;injection h1 with h1;subst h1;rw[ho]at h2
  cases h2)).trans hB⟩
theorem ArrL.kc {α:Type} {L:Nat->Prop} {f:α->Value} {W W':World} {v:Value} {xs:List α} (h:ArrL L f W v xs) (hk:KC W W'):ArrL L f W' v xs:=by
 obtain⟨A,c,B,l,m,r,n⟩:=h;refine⟨A,c,B,l,m,r,λk=>?_⟩;obtain⟨b,off,s,x,g,y⟩:=n k;refine⟨b,off,s,x,Nat.lt_of_lt_of_le g hk.1,λj z=>?_⟩;have d:=y j z
 have p:∃o,W.heap[b]? =some o/\o.isCells=true:=by
  cases ho:W.heap[b]? with
  | none=>simp[World.cell?,ho]at d
  | some o=>
   cases o with
   | cells cs t=>exact⟨_,rfl,rfl⟩
   | _=>simp[World.cell?,ho]at d
 obtain⟨o,i,q⟩:=p;exact(World.cell?_of_block ((hk.2 _ _ i q).trans i.symm)).trans d
theorem Unf.kc {W W':World} {v:Value} (h:Unf W v) (hk:KC W W'):Unf W' v:=λb off m c e=>by
 obtain⟨cs,t,h1⟩:=h b off m c e;exact⟨cs,t,hk.at h1⟩
theorem FracL.kc {L:Nat->Prop} {W W':World} {v:Value} {r:Rat} (h:FracL L W v r) (hk:KC W W'):FracL L W' v r:=by
 obtain⟨A,c,C,d,e,b,f⟩:=h;exact⟨A,c,C,d,e,⟨b.1.kc hk,b.2.kc hk⟩,⟨f.1.kc hk,f.2.kc hk⟩⟩
theorem TurnF.kc {W W':World} {v:Value} {g:G2} (h:TurnF W v g) (hk:KC W W'):TurnF W' v g:=by
 obtain⟨s,d,q,k,x,i,o,m,t,f,r,l,y,j,p,n,rfl,b,c⟩:=h;exact .mk (b.kc hk) (c.kc hk)
theorem NumL.put64 {L:Nat->Prop} {W:World} {v:Value} {n B:Nat} {z z':Int} {t:TypeId} (h:NumL L .u32 W v n) (hk:W.heap[B]? =some (.cells #[.int .i64 z] t)):NumL L .u32 (W.setCell ⟨B,0,none⟩ (.int .i64 z')) v n:=by
 obtain⟨A,c,y,l,o,q,p⟩:=h;refine⟨A,c,y,l,o,q,λi=>?_⟩;obtain⟨b,off,r,s,f,k⟩:=p i
 have g:b≠B:=by
  rintro rfl;have d:=k 0 i;simp only[World.cell?,hk]at d
  cases hoff:(off+0)with
  | zero=>rw[hoff]at d;simp[gv]at d
  | succ m=>rw[hoff]at d;simp at d
 exact⟨b,off,r,s,by simpa[World.setCell]using f,λj x=>(World.cell?_of_block (Below.heap_setCell _ _ _ _ g)).trans (k j x)⟩
theorem Unf.put64 {W:World} {v:Value} {B:Nat} {z z':Int} {t:TypeId} (h:Unf W v) (hk:W.heap[B]? =some (.cells #[.int .i64 z] t)):Unf (W.setCell ⟨B,0,none⟩ (.int .i64 z')) v:=λb off m c e=>by
 obtain⟨cs,t1,h1⟩:=h b off m c e
 by_cases hb:b=B
 ·subst hb;exact⟨_,_,qAZ hk⟩
 ·exact⟨cs,t1,(Below.heap_setCell _ _ _ _ hb).trans h1⟩
theorem FracL.put64 {L:Nat->Prop} {W:World} {v:Value} {r:Rat} {B:Nat} {z z':Int} {t:TypeId} (h:FracL L W v r) (hk:W.heap[B]? =some (.cells #[.int .i64 z] t)):FracL L (W.setCell ⟨B,0,none⟩ (.int .i64 z')) v r:=by
 obtain⟨A,c,C,d,e,b,f⟩:=h;exact⟨A,c,C,d,e,⟨b.1.put64 hk,b.2.put64 hk⟩,⟨f.1.put64 hk,f.2.put64 hk⟩⟩
theorem TurnF.put64 {W:World} {v:Value} {g:G2} {B:Nat} {z z':Int} {t:TypeId} (h:TurnF W v g) (hk:W.heap[B]? =some (.cells #[.int .i64 z] t)):TurnF (W.setCell ⟨B,0,none⟩ (.int .i64 z')) v g:=by
 obtain⟨s,d,q,k,y,i,o,m,x,f,r,l,A,j,p,n,rfl,b,c⟩:=h;exact .mk (b.put64 hk) (c.put64 hk)
def gi:G2:=(0,1)
theorem qPP (k:Nat):GF (gpow gi k) 1 1:=by
 have h:GF gi 1 1:=⟨0,1,1,by decide,by decide,by unfold gi;decide+kernel,by unfold gi;decide+kernel,by decide⟩;have:=h.pow k;simpa using this
theorem qL7 (n:Nat) (h:0<n):1024<B9^n:=by
 have b:B9^1<=B9^n:=Nat.pow_le_pow_right (by rw[qA3];decide) h;have c:B9^1=1000000000:=by rw[Nat.pow_one,qA3]
 omega
theorem GF.sz1 {a:G2} {P D n:Nat} (h:GF a P D) (hP:P<=1024) (hD:D<=1024) (hn:0<n):TSz a n:=
 h.sz (Nat.lt_of_le_of_lt hP (qL7 n hn)) (Nat.lt_of_le_of_lt hD (qL7 n hn))
theorem qFv (k n:Nat) (hn:0<n):TSz (gpow gi k) n:=(qPP k).sz1 (by decide) (by decide) hn
theorem qMl {s n:Nat} (h:0<n):gdiv (ndG (s:Int) (n:Int)) (qA0 (ndG (s:Int) (n:Int)))=
  (((((n:Int)*n - (s:Int)*s:Int):Rat) / ((n*n+s*s:Nat):Rat)),((((n:Int)*s+(s:Int)*n:Int):Rat) / ((n*n+s*s:Nat):Rat))):=by
 unfold gdiv qA0 gmul qAR ndG
 ext
 ·simp only
  push_cast
  congr 1<;>grind
 ·simp only
  push_cast
  congr 1<;>grind
theorem qJl {s n:Nat} (hn:0<n) (hn2:n<=16) (hs:s<=n):GF (gdiv (ndG (s:Int) (n:Int)) (qA0 (ndG (s:Int) (n:Int)))) 1024 512:=by
 rw[qMl hn];have c:n*n<=256:=Nat.le_trans (Nat.mul_le_mul hn2 hn2) (by decide);have d:s*s<=n*n:=Nat.mul_le_mul hs hs;have f:n*s<=n*n:=Nat.mul_le_mul (Nat.le_refl _) hs;have g:0<n*n:=Nat.mul_pos hn hn;have h:s*n=n*s:=Nat.mul_comm _ _;refine⟨_,_,n*n+s*s,by omega,by omega,rfl,rfl,?_⟩
 have i:((n:Int)*n - (s:Int)*s).natAbs <=n*n:=by
  have:(n:Int)*n=((n*n:Nat):Int):=by simp
  have b:(s:Int)*s=((s*s:Nat):Int):=by simp
  rw[this,b];omega
 have j:((n:Int)*s+(s:Int)*n).natAbs <=2*(n*n):=by
  have:(n:Int)*s=((n*s:Nat):Int):=by simp
  have b:(s:Int)*n=((s*n:Nat):Int):=by simp
  rw[this,b];omega
 omega
theorem qI6 {s n:Nat} (hn:0<n) (hn2:n<=16) (hs:s<=n):qBz (s:Int) (n:Int)= .ok (gdiv (ndG (s:Int) (n:Int)) (qA0 (ndG (s:Int) (n:Int)))):=by
 unfold qBz;rw[if_neg (by omega),qCR ((qJl hn hn2 hs).sz1 (by decide) (by decide) (by decide))]
theorem qNu:iG=qAa gi:=by
 unfold iG;have h:=qI6 (s:=1) (n:=1) (by decide) (by decide) (by decide);rw[show((1:Nat):Int)=1 from rfl]at h;rw[h];show qAa _=_;have:=qMl (s:=1) (n:=1) (by decide);rw[show((1:Nat):Int)=1 from rfl]at this;rw[this]
 congr 1
 unfold gi
 decide+kernel
theorem qRq {k:Nat} (hk:k<=64):powG iG (k:Int)= .ok (gpow gi k):=by
 have b:tval iG=some gi:=by rw[qNu];exact qC6 (by have:=qFv 1 40 (by decide);rwa[show gpow gi 1=gi from by unfold gpow gpow;exact qEB gi]at this)
 rw[qLY b (by omega) (by omega),Int.natAbs_natCast,qCR (qFv k 40 (by decide))]
theorem qQf:∀k,qR k=qAa (gpow gi k)
 | 0=>rfl
 | k+1=>by
  have hv:tval iG=some gi:=by rw[qNu];exact qC6 (by have:=qFv 1 40 (by decide);rwa[show gpow gi 1=gi from by unfold gpow gpow;exact qEB gi]at this)
  unfold qR;rw[qQf k];unfold mulG;rw[qFu (qC6 (qFv k 40 (by decide))) hv];show qBc (outG (gpow gi (k+1)))=_;rw[qCR (qFv (k+1) 40 (by decide))]
  rfl
theorem qSR {n k s:Nat} (hn:0<n) (hn2:n<=16) (hk:k<=64) (hs:s<n):∃g,TSz g 2/\uA n (k*n+s)=qAa g/\qBc (mulG (qBc (qBz (s:Int) (n:Int))) (qR k))=qAa g:=by
 have i:(k*n+s) / n=k:=by rw[Nat.mul_comm,Nat.mul_add_div hn,Nat.div_eq_of_lt hs,Nat.add_zero]
 have j:(k*n+s)%n=s:=by rw[Nat.mul_comm,Nat.mul_add_mod,Nat.mod_eq_of_lt hs]
 have f:=qJl hn hn2 (Nat.le_of_lt hs);obtain⟨a,l⟩:∃a,gdiv (ndG (s:Int) (n:Int)) (qA0 (ndG (s:Int) (n:Int)))=a:=⟨_,rfl⟩;have d:=qI6 hn hn2 (Nat.le_of_lt hs);rw[l]at f d;have h:GF (gmul (gpow gi k) a) (1*1024) (1*512):=(qPP k).mul f;have b:tval (qAa a)=some a:=qC6 (f.sz1 (by decide) (by decide) (by decide));have c:=qC6 (qFv k 40 (by decide));refine⟨gmul (gpow gi k) a,h.sz1 (by decide) (by decide) (by decide),?_,?_⟩
 ·unfold uA;rw[i,j,qRq hk,d];show qBc (mulG (qAa (gpow gi k)) (qAa a))=_;unfold mulG;rw[qFu c b,qCR (h.sz1 (by decide) (by decide) (by decide))]
  rfl
 ·rw[d,qQf];show qBc (mulG (qAa a) (qAa (gpow gi k)))=_;unfold mulG;rw[qFu b c,qFU,qCR (h.sz1 (by decide) (by decide) (by decide))]
  rfl
end Go.Proofs.YtabfaobakmjiaaaGreat

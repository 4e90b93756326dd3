/- The reference's whole and both. How many ranges there are, and how great; plain. The reference's Last, in, less. Lists of lists of numbers in memory; the .. -/
import Derived.Test.YtabfaobakmjiaaaGreatPy11
import Derived.ArgAppend
import Derived.BigRegion
namespace Go.Proofs.YtabfaobakmjiaaaGreat
set_option maxRecDepth 100000
open Go.RowKit
set_option linter.unusedVariables false
set_option linter.unusedSimpArgs false
theorem SpB.of_in {L:List Spn} (hn:Nm L) (h:∀x,inL L x-> -2000000000000<=x/\x<=2000000000000):SpB L:=λs hs=>by
 have hv:=hn.1 s hs;exact⟨h s.1 ⟨s,hs,Int.le_refl _,hv⟩,h s.2 ⟨s,hs,hv,Int.le_refl _⟩⟩
theorem SpB.in {L:List Spn} (h:SpB L) {x:Int} (hx:inL L x): -2000000000000<=x/\x<=2000000000000:=by
 obtain⟨s,b,c,d⟩:=hx;have:=h s b;omega
theorem SpB.joined {l:List Spn} {x:Spn} (hn:Nm l) (h:SpB l) (hx:SpB [x]):SpB (qBW l x):=by
 refine SpB.of_in (qFL hn).1 λy b=>?_
 rcases((qFL hn).2 y).1 b with q|q
 ·exact h.in q
 ·have:=hx x List.mem_cons_self;omega
theorem qEw:∀(l:List Spn) (x:Spn),(qDN l x).length <=l.length+1
 | [],x=>by unfold qDN;simp
 | s::l,x=>by
  unfold qDN
  split
  ·have:=qEw l x;simp;omega
  ·split
   ·simp
   ·have:=qEw l (min x.1 s.1,max x.2 s.2);simp;omega
theorem qJy (l:List Spn) (x:Spn):(qBW l x).length <=l.length+1:=by
 unfold qBW
 split
 ·omega
 ·exact qEw l x
theorem qLx {l:List Spn} (hl:SpB l):∀(o:List Spn),Nm o->SpB o->Nm (l.foldl qBW o)/\SpB (l.foldl qBW o)/\(l.foldl qBW o).length <=o.length+l.length:=by
 induction l with
 | nil=>intro o d g;exact⟨d,g,Nat.le_refl _⟩
 | cons x l ih=>
  intro o d g;have h:SpB [x]:=λs f=>by rw[List.mem_singleton]at f;rw[f];exact hl x List.mem_cons_self
  obtain⟨a,b,c⟩:=ih (λs f=>hl s (List.mem_cons_of_mem _ f)) _ (qFL (x:=x) d).1 (SpB.joined d g h);have:=qJy o x;exact⟨a,b,by simp only[List.foldl_cons,List.length_cons];omega⟩
theorem qCq:∀A B:List Spn,(qA5 A B).length <=A.length+B.length
 | [],B=>by unfold qA5;simp
 | a::la,[]=>by unfold qA5;simp
 | a::la,b::lb=>by
  unfold qA5;simp only
  split
  ·split
   ·have h1:=qCq la (b::lb);simp only[List.length_cons]at h1 ⊢;omega
   ·have h2:=qCq (a::la) lb;simp only[List.length_cons]at h2 ⊢;omega
  ·split
   ·have h1:=qCq la (b::lb);simp only[List.length_cons]at h1 ⊢;omega
   ·have h2:=qCq (a::la) lb;simp only[List.length_cons]at h2 ⊢;omega
termination_by A B=>A.length+B.length
section
variable {n:Nat} {rds:List Rd} {lift:List Int} {throw adv:Int}
end
end Go.Proofs.YtabfaobakmjiaaaGreat
namespace Go.Proofs.YtabfaobakmjiaaaGreat
set_option maxRecDepth 100000
open Go.RowKit
set_option linter.unusedVariables false
set_option linter.unusedSimpArgs false
def GridL (w:World) (v:Value) (L:List (List Int)):Prop:=
 ∃A c,v= .slice A L.length c/\L.length<=c/\c<=maxLen/\(A=none->c=0)∧
  (0<L.length->∃b off,A=some ⟨b,off,none⟩/\b<w.heap.size/\∀j (h:j<L.length),∃vr,w.cell? ⟨b,off+j,none⟩=some vr/\Ints w vr L[j])
theorem GridL.le {w W:World} {v:Value} {L:List (List Int)} (h:GridL w v L) (hb:Below w.heap.size w W):GridL W v L:=by
 obtain⟨A,c,s,i,k,m,l⟩:=h;refine⟨A,c,s,i,k,m,λg=>?_⟩;obtain⟨b,off,o,d,q⟩:=l g;refine⟨b,off,o,Nat.lt_of_lt_of_le d hb.size,λj r=>?_⟩;obtain⟨x,f,t⟩:=q j r;exact⟨x,(Below.cell hb (p:=⟨b,_,none⟩) d).trans f,t.below hb⟩
theorem GridL.at {w:World} {v:Value} {L:List (List Int)} (h:GridL w v L) {j:Nat} (hj:j<L.length):∃b off c vr,v= .slice (some ⟨b,off,none⟩) L.length c/\b<w.heap.size/\w.cell? ⟨b,off+j,none⟩=some vr/\Ints w vr L[j]:=by
 obtain⟨A,c,rfl,l,m,o,g⟩:=h;obtain⟨b,off,rfl,d,i⟩:=g (by omega);obtain⟨vr,f,k⟩:=i j hj;exact⟨b,off,c,vr,rfl,d,f,k⟩
theorem GridL.slice {w:World} {v:Value} {L:List (List Int)} (h:GridL w v L):∃A c,v= .slice A L.length c/\L.length<=maxLen:=by
 obtain⟨A,c,rfl,b,d,-⟩:=h;exact⟨A,c,rfl,by omega⟩
theorem qKi {L:List (List Int)} {steps n r s:Nat} {ph all:Int} (h:s<steps) (hs:qAq L steps n r (ph+(s:Int)) all=true) (hb:∀t,t<s->qAq L steps n r (ph+(t:Int)) all=false):qF7 L steps n r ph all=some s:=by
 unfold qF7;rw[List.find?_range_eq_some];exact⟨hs,List.mem_range.2 h,λj b=>by rw[hb j b];rfl⟩
theorem qKj {L:List (List Int)} {steps n r:Nat} {ph all:Int} (hb:∀t,t<steps->qAq L steps n r (ph+(t:Int)) all=false):qF7 L steps n r ph all=none:=by
 unfold qF7;rw[List.find?_range_eq_none];exact λj b=>by rw[hb j b];rfl
def IsSl (u:Value):Prop:=∃A n c,u= .slice A n c
theorem qQq:(Tryz.prog.info? 56).map (λi=>(i.zero,i.size,i.bytes))=some (some (.slice none 0 0),1,24):=by kernel_rfl
def qA7 (rds:List Rd) (lift:List Int) (throw adv start cut:Int) (k:Nat):List Int:=((List.range k).filter λph=>inB start (qC7 rds lift throw adv cut ph)).map λ(ph:Nat)=>(ph:Int)
theorem qGI (rds:List Rd) (lift:List Int) (throw adv start cut:Int) (k:Nat):qA7 rds lift throw adv start cut (k+1)=qA7 rds lift throw adv start cut k++(if inB start (qC7 rds lift throw adv cut k)then[(k:Int)]else[]):=by
 unfold qA7;rw[List.range_succ,List.filter_append,List.map_append]
 congr 1
 by_cases h:inB start (qC7 rds lift throw adv cut k)=true
 ·simp[h]
 ·simp[h]
theorem qFO (rds:List Rd) (lift:List Int) (throw adv start cut:Int) (k:Nat):(qA7 rds lift throw adv start cut k).length <=k:=by
 unfold qA7;rw[List.length_map];exact Nat.le_trans (List.length_filter_le _ _) (by simp)
def qOT (p:Pic) (lift:List Int) (f:Fnd) (start:Int) (k:Nat):List (List Int):=(List.range k).map λ(c:Nat)=>qAe p.rds lift f.throw f.adv start (c:Int)
theorem qKk {p:Pic} {f:Fnd} {start:Int} (hp:picB p=true) (ha:argB p f start=true) {k:Nat} (hk:k<=(qCY p.rds).toNat) (h:qAe p.rds (p.lift f.head.toNat) f.throw f.adv start (k:Int)=[]):qBM p f start=6:=by
 unfold qBM;rw[hp,ha]
 have:(qGm p f start).any (λl=>l.isEmpty)=true:=by
  rw[List.any_eq_true];exact⟨_,List.mem_map.2 ⟨k,List.mem_range.2 (by omega),rfl⟩,by rw[h];rfl⟩
 rw[if_pos rfl,if_pos rfl,if_pos this]
theorem qOU {p:Pic} {f:Fnd} {start:Int} (hp:picB p=true) (ha:argB p f start=true) (h:∀k:Nat,k<=(qCY p.rds).toNat ->qAe p.rds (p.lift f.head.toNat) f.throw f.adv start (k:Int)≠[]):qBM p f start=0/\qCx p f start=qOT p (p.lift f.head.toNat) f start ((qCY p.rds).toNat +1):=by
 have b:qBM p f start=0:=by
  unfold qBM;rw[hp,ha]
  have:(qGm p f start).any (λl=>l.isEmpty)=false:=by
   rw[List.any_eq_false];intro l d;obtain⟨k,c,rfl⟩:=List.mem_map.1 d;have:=h k (by have:=List.mem_range.1 c;omega);simpa using this
  rw[if_pos rfl,if_pos rfl,if_neg (by rw[this];decide)]
 exact⟨b,by unfold qCx;rw[if_pos b];rfl⟩
def fndV (f:Fnd):Value:= .agg #[.int .i64 f.head,.int .i64 f.throw,.int .i64 f.adv,.int .i64 f.lo,.int .i64 f.hi]
def Fnd.Fit (f:Fnd):Prop:=qA6 f.head/\qA6 f.throw/\qA6 f.adv/\qA6 f.lo/\qA6 f.hi
theorem GridL.nil (w:World):GridL w (.slice none 0 0) []:=⟨none,0,rfl,Nat.le_refl _,Nat.zero_le _,λ_=>rfl,λh=>absurd h (Nat.lt_irrefl 0)⟩
theorem qM6 (p:Pic) (f:Fnd) (start:Int):argB p f start=(qAE f.head 0 ((p.hs.length:Int) - 1)&&(qAE f.throw p.tl p.th&&(qAE f.adv p.al p.ah&&(qAE start f.lo f.hi&&qAE start 0 10000)))):=rfl
theorem qFm {p:Pic} {f:Fnd} {start:Int} (h:qBM p f start≠0):qCx p f start=[]:=if_neg h
def qCP (L:List (List Int)) (steps n:Nat) (first:Int) (k:Nat):Option (List Int):=(List.range k).foldl (λb (all:Nat)=>qGn b (qBb L steps n first (all:Int))) none
theorem qHK (L:List (List Int)) (steps n:Nat) (first:Int) (k:Nat):qCP L steps n first (k+1)=qGn (qCP L steps n first k) (qBb L steps n first (k:Int)):=by
 unfold qCP;rw[List.range_succ,List.foldl_append];rfl
theorem qE3 {L:List (List Int)} {steps n:Nat} {first:Int} (hn:0<n):∀(k:Nat) (l:List Int),qCP L steps n first k=some l->l.length=n
 | 0,l,h=>by cases h
 | k+1,l,h=>by
  rw[qHK]at h;unfold qGn at h
  split at h
  ·exact qE3 hn k l h
  ·rename_i x hx _;injection h with h;rw[<-h];exact qDx hn hx
  ·rename_i x b hx hb
   split at h
   ·injection h with h;rw[<-h];exact qDx hn hx
   ·injection h with h;rw[<-h];exact qE3 hn k b hb
theorem qKl (L:List (List Int)) (steps n:Nat) (first:Int):qEJ L steps n first=qCP L steps n first steps:=rfl
theorem qDB {α:Type} {f:Nat->Option α}:∀{l:List Nat},(∀k∈l,f k=none)->qB5 f l=none
 | [],_=>rfl
 | k::l,h=>by
  unfold qB5;rw[h k List.mem_cons_self];exact qDB λq hq=>h q (List.mem_cons_of_mem _ hq)
theorem qEx {α:Type} {f:Nat->Option α}:∀{l m:List Nat},(∀k∈l,f k=none)->qB5 f (l++m)=qB5 f m
 | [],_,_=>rfl
 | k::l,m,h=>by
  show qB5 f (k::(l++m))=_
  unfold qB5;rw[h k List.mem_cons_self];exact(qEx λq hq=>h q (List.mem_cons_of_mem _ hq)).trans (by cases m<;>rfl)
theorem qFP {α:Type} {f:Nat->Option α} {n k:Nat} {x:α} (hk:k<n) (hx:f k=some x) (h:∀j,j<k->f j=none):qB5 f (List.range n)=some x:=by
 have e:List.range n=List.range k++(List.range (n - k)).map (k+ ·):=by
  rw[<-List.range_add];congr 1;omega
 rw[e,qEx λj c=>h j (List.mem_range.1 c)];obtain⟨d,b⟩:∃d,n - k=d+1:=⟨n - k - 1,by omega⟩;rw[b,List.range_succ_eq_map,List.map_cons];unfold qB5;rw[Nat.add_zero,hx]
theorem qLy {L:List (List Int)} {steps n first:Nat} {l:List Int} (hn:1<=n) (hn2:n<=12) (hf:first<steps) (hb:qEJ L steps n (first:Int)=some l) (h1:∀k,1<=k->k<n->∀j,j<steps->qEJ L steps k (j:Int)=none) (h2:∀j,j<first->qEJ L steps n (j:Int)=none):qDw L steps=some (first,l):=by
 unfold qDw;refine qFP (k:=n - 1) (by omega) ?_ λk c=>?_
 ·rw[show n - 1+1=n by omega];exact qFP hf (by rw[hb];rfl) λj b=>by rw[h2 j b];rfl
 ·exact qDB λj b=>by rw[h1 (k+1) (by omega) (by omega) j (List.mem_range.1 b)];rfl
theorem qLz {L:List (List Int)} {steps:Nat} (h1:∀k,1<=k->k<13->∀j,j<steps->qEJ L steps k (j:Int)=none):qDw L steps=none:=by
 unfold qDw;exact qDB λk c=>qDB λj b=>by rw[h1 (k+1) (by omega) (by have:=List.mem_range.1 c;omega) j (List.mem_range.1 b)];rfl
def qFQ (p:Pic) (f:Fnd) (start:Int):Int:=if qBM p f start=0 then(if qDw (qCx p f start) p.steps=none then 6 else 0)else qBM p f start
def qDc (p:Pic) (f:Fnd) (start:Int):Prog:=if qBM p f start=0 then(match qDw (qCx p f start) p.steps with
 | some (first,l)=>⟨qB4 (p.hs.getD f.head.toNat default).ros (first:Int),(p.hs.getD f.head.toNat default).rub,start,f.throw,f.adv,l⟩
 | none=>⟨[],[],0,0,0,[]⟩)else⟨[],[],0,0,0,[]⟩
theorem qKP {W:World} {X:Nat} {a b c d e f:Value} {t:TypeId} (h:W.heap[X]? =some (Obj.cells #[a,b,c,d,e,f] t)) (u0 u1 u2 u3 u4 u5:Value):((((((W.setCell ⟨X,0,none⟩ u0).setCell ⟨X,1,none⟩ u1).setCell ⟨X,2,none⟩ u2).setCell ⟨X,3,none⟩ u3).setCell ⟨X,4,none⟩ u4).setCell ⟨X,5,none⟩ u5).heap[X]? =some (.cells #[u0,u1,u2,u3,u4,u5] t):=by
 simp only[World.setCell,Array.getElem?_modify,h];simp
theorem qKm {n:Nat} {w W:World} {X:Nat} (h:Below n w W) (hX:n<=X) (u0 u1 u2 u3 u4 u5:Value):Below n w ((((((W.setCell ⟨X,0,none⟩ u0).setCell ⟨X,1,none⟩ u1).setCell ⟨X,2,none⟩ u2).setCell ⟨X,3,none⟩ u3).setCell ⟨X,4,none⟩ u4).setCell ⟨X,5,none⟩ u5):=
 (((((Below.setCell h (p:=⟨X,0,none⟩) hX _).setCell (p:=⟨X,1,none⟩) hX _).setCell (p:=⟨X,2,none⟩) hX _).setCell (p:=⟨X,3,none⟩) hX _).setCell (p:=⟨X,4,none⟩) hX _).setCell (p:=⟨X,5,none⟩) hX _
def IntsN (n:Nat) (w:World) (v:Value) (L:List Int):Prop:=Ints w v L/\∀g,v.ownBlock=some g->n<g
theorem IntsN.later {n:Nat} {w w':World} {v:Value} {L:List Int} (h:IntsN n w v L) (hb:Below w.heap.size w w'):IntsN n w' v L:=⟨h.1.below hb,h.2⟩
theorem qOV {n:Nat} (W:World) (u0 u1 u2 u3 u4 u5:Value) {b:Nat} (hb:n<b):((((((W.setCell ⟨n,0,none⟩ u0).setCell ⟨n,1,none⟩ u1).setCell ⟨n,2,none⟩ u2).setCell ⟨n,3,none⟩ u3).setCell ⟨n,4,none⟩ u4).setCell ⟨n,5,none⟩ u5).heap[b]? =W.heap[b]? :=by
 have h:¬n=b:=by omega
 simp only[World.setCell,Array.getElem?_modify,if_neg h]
theorem qOW {n:Nat} (W:World) (u0 u1 u2 u3 u4 u5:Value):((((((W.setCell ⟨n,0,none⟩ u0).setCell ⟨n,1,none⟩ u1).setCell ⟨n,2,none⟩ u2).setCell ⟨n,3,none⟩ u3).setCell ⟨n,4,none⟩ u4).setCell ⟨n,5,none⟩ u5).heap.size =W.heap.size:=by
 simp[World.setCell]
end Go.Proofs.YtabfaobakmjiaaaGreat

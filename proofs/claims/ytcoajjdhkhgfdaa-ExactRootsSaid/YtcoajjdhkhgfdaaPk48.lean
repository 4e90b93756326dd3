/- Roots, the reference: rows of rows, rows of whole numbers; changes. -/
import Derived.Test.YtcoajjdhkhgfdaaPk47
namespace Go.Proofs.Ytcoajjdhkhgfdaa
set_option maxRecDepth 100000
set_option maxHeartbeats 1000000
open Go.RowKit Go.Shelf
set_option linter.unusedVariables false
set_option linter.unusedSimpArgs false
def slJ (k:IntKind):EK (Option Addr×Nat×Nat) where
 ik:=k
 sz:=1
 pos:=by decide
 small:=by decide
 rd w cs x:=cs=[.slice x.1 x.2.1 x.2.2]
 len:=by rintro w cs a rfl;rfl
 one:=by rintro w cs a rfl u hu;simp only[List.mem_cons,List.not_mem_nil,or_false]at hu;subst hu;rfl
 ni:=by rintro w cs a rfl u hu;simp only[List.mem_cons,List.not_mem_nil,or_false]at hu;subst hu;exact qAF _ _ _
 kp:=by rintro w W cs a rfl hk;rfl
def iK:EK Int where
 ik:= .u32
 sz:=1
 pos:=by decide
 small:=by decide
 rd w cs x:=cs=[.int .i64 x]
 len:=by rintro w cs a rfl;rfl
 one:=by rintro w cs a rfl u hu;simp only[List.mem_cons,List.not_mem_nil,or_false]at hu;subst hu;rfl
 ni:=by rintro w cs a rfl u hu;simp only[List.mem_cons,List.not_mem_nil,or_false]at hu;subst hu;exact qKN _
 kp:=by rintro w W cs a rfl hk;rfl
def RowsJ {α:Type} (K:EK α) (e e2:TypeId) (base:Nat) (W:World) (vo:Value) (L:List (List α)):Prop:=
 ∃xs:List (Option Addr×Nat×Nat),xs.length=L.length/\RowE (slJ K.ik) e2 base W vo xs/\∀i (h1:i<xs.length) (h2:i<L.length),RowE K e 0 W (slV xs[i]) L[i]
theorem RowsJ.le {α:Type} {K:EK α} {e e2:TypeId} {base:Nat} {W V:World} {vo:Value} {L:List (List α)} (h:RowsJ K e e2 base W vo L) (hb:Le W V):RowsJ K e e2 base V vo L:=by
 obtain⟨g,c,d,f⟩:=h;exact⟨g,c,d.le hb,λi a b=>(f i a b).le hb⟩
theorem RowsJ.base0 {α:Type} {K:EK α} {e e2:TypeId} {base:Nat} {W:World} {vo:Value} {L:List (List α)} (h:RowsJ K e e2 base W vo L):RowsJ K e e2 0 W vo L:=by
 obtain⟨f,b,c,d⟩:=h;exact⟨f,b,c.base (Nat.zero_le _),d⟩
theorem RowsJ.slice {α:Type} {K:EK α} {e e2:TypeId} {base:Nat} {W:World} {vo:Value} {L:List (List α)} (h:RowsJ K e e2 base W vo L):∃A c,vo= .slice A L.length c:=by
 obtain⟨g,b,d,f⟩:=h;obtain⟨A,c,rfl⟩:=d.slice;exact⟨A,c,by rw[b]⟩
theorem RowsJ.at {α:Type} {K:EK α} {e e2:TypeId} {base:Nat} {W:World} {vo:Value} {L:List (List α)} (h:RowsJ K e e2 base W vo L) {j:Nat} (hj:j<L.length):
  ∃g c A n d,vo= .slice (some ⟨g,0,none⟩) L.length c/\base<=g/\g<W.heap.size/\W.cell? ⟨g,j,none⟩=some (.slice A n d)/\RowE K e 0 W (.slice A n d) L[j]:=by
 obtain⟨i,p,q,r⟩:=h;have b:j<i.length:=by omega
 obtain⟨g,c,rfl,s,v,-,-,m,k,t⟩:=q.at b;have f:m=[.slice i[j].1 i[j].2.1 i[j].2.2]:=k;subst f;have l:=t 0 _ rfl;have o:j*(slJ K.ik).sz +0=j:=by show j*1+0=j;omega
 rw[o]at l;exact⟨g,c,_,_,_,by rw[p],s,v,l,r j b hj⟩
theorem RowsJ.mk1 {α:Type} {K:EK α} {e e2:TypeId} {base:Nat} {w:World} {g:Nat} {A:Option Addr} {n c:Nat} {l:List α} (h:w.heap[g]? =some (.cells #[.slice A n c] e2)) (hb:base<=g) (hl:RowE K e 0 w (.slice A n c) l):RowsJ K e e2 base w (.slice (some ⟨g,0,none⟩) 1 1) [l]:=
 ⟨[(A,n,c)],rfl,RowE.mk1 (cs:=[.slice A n c]) h hb rfl,λi h1 h2=>by
  have:i=0:=by simp at h1;omega
  subst this
  exact hl⟩
theorem RowsJ.append {α:Type} {K:EK α} {P:Program} {e e2:TypeId} (hne:e≠e2) {base:Nat} {w:World} {v:Value} {L:List (List α)} (h:RowsJ K e e2 base w v L) {ops:Array Oper} {rest:List Oper} {o:Oper} {a:Act} {Q:Exit->Act->World->Prop} (hgd:o.guard=none) (s x:Operand) (t:TypeId)
  (ho:o.op= .call {callee:= .builtin .append,args:=#[s,x],argTypes:=#[t,t]}) (ht:P.underlying t=some (.slice e2)) (hinfo:(P.info? e2).map (λi=>(i.zero,i.size,i.bytes))=some (some (.slice none 0 0),1,24))
  (hs:a.eval s=v) (B:Nat) (hx:a.eval x= .slice (some ⟨B,0,none⟩) 1 1) {A:Option Addr} {n c:Nat} {l:List α} (hl:RowE K e 0 w (.slice A n c) l) (hc:w.cell? ⟨B,0,none⟩=some (.slice A n c))
  (hlen:L.length<=1000000) (hbase:base<=w.heap.size)
  (hQ:∀v' w',RowsJ K e e2 base w' v' (L++[l])->Below base w w'->Kp K.ik w w'->(∀(g:Nat) (cur:Array Value),w.heap[g]? =some (Obj.cells cur e)->w'.heap[g]? =w.heap[g]?)->wpList P ops Q rest (a.put o.dst v') w'):wpList P ops Q (o::rest) a w:=by
 obtain⟨m,z,C,G⟩:=h;refine RowE.append (K:=slJ K.ik) C hgd s x t ho 24 (.slice none 0 0) (by decide) ht hinfo rfl (λj N=>?_) hs B hx (cs:=[.slice A n c]) (y:=(A,n,c)) rfl (λi u D=>?_) (by omega) hbase ?_
 ·have:j=0:=by have:(slJ K.ik).sz =1:=rfl;omega
  subst this;exact qAF _ _ _
 ·have q:i<1:=by simpa using(List.getElem?_eq_some_iff.1 D).1
  have:i=0:=by omega
  subst this;simpa using hc.trans (by simpa using D)
 ·intro v' w' J q2 E O M
  have f:∀(g:Nat) (cur:Array Value),w.heap[g]? =some (Obj.cells cur e)->w'.heap[g]? =w.heap[g]? :=λg cur k=>by
   refine M.block g (gsl k) λI=>?_;obtain⟨r,d⟩:=C.tag I.symm;rw[k]at d;injection d with d;injection d with h91 h92;exact hne h92
  have b:∀{v9:Value} {l9:List α},RowE K e 0 w v9 l9->RowE K e 0 w' v9 l9:=λd=>d.keep E λg k=>by
   obtain⟨cur,p⟩:=d.tag k;exact f g cur p
  refine hQ v' w' ⟨m++[(A,n,c)],by simp[z],J,λi H p=>?_⟩ q2 E f
  by_cases q:i<m.length
  ·rw[List.getElem_append_left q,List.getElem_append_left (by omega)];exact b (G i q (by omega))
  ·have:i=m.length:=by simp at H;omega
   subst this;have F:(L++[l])[m.length]'p=l:=by rw[List.getElem_append_right (by omega)];simp[z]
   rw[F];simp only[List.getElem_append_right (Nat.le_refl _),Nat.sub_self];exact b hl
theorem qHA (ss:List Int):∀k,(chgR ss k).1<=k
 | 0=>Nat.le_refl _
 | k+1=>by
  have:=qHA ss k;unfold chgR;dsimp only
  split
  ·omega
  ·dsimp only
   split<;>omega
theorem qFN (v:Value) (ss:List Int) (w:World) (hv:RowE iK 3 0 w v ss) (hl:ss.length<=1000):
  Calls Try.prog 62 #[v] w λe w'=>e= .returned (.int .i64 (qDr ss:Int))/\Le w w':=by
 obtain⟨O,T,rfl⟩:=hv.slice;obtain⟨n,B⟩:∃n,ss.length=n:=⟨_,rfl⟩;rw[B]at hl hv ⊢;have⟨D,m⟩:=hyd2 hv B;clear B hv;go_enter Try.func62,Try.ntmps62;go_wp2_with (fail);go_loopw [3,4,5] (λnn N i wr=>∃k:Nat,i= .int .i64 (k:Int)/\k<=n/\nn= .int .i64 ((chgR ss k).1:Int)/\N= .int .i64 (chgR ss k).2/\wr=w) (λ_ _ i _=>n - (intOf i).toNat)
 case atStart=>exact⟨0,rfl,Nat.zero_le _,rfl,rfl,rfl⟩
 case round=>
  obtain⟨k,rfl,R,rfl,rfl,rfl⟩:=hrel
  by_cases A:k<n
  ·have t:k<ss.length:=by rw[m.out];exact A
   obtain⟨g,P,y,-,J,-,-,E,C,h⟩:=D.out.at t;rw[m.out]at y;injection y with y e2 e3;subst y e3;clear e2;have x:E=[.int .i64 ss[k]]:=C;subst x;have d:ss.getD k 0=ss[k]:=by rw[List.getD_eq_getElem?_getD,List.getElem?_eq_getElem t];rfl
   have q:=qHA ss k;have c:chgR ss (k+1)=if ss[k]=0 then chgR ss k else(if (chgR ss k).2≠0/\ss[k]≠(chgR ss k).2 then(chgR ss k).1+1 else(chgR ss k).1,ss[k]):=by rw[<-d];rfl
   generalize ss[k]=s at h c d
   have U:wr.cell? ⟨g,k,none⟩=some (.int .i64 s):=by
    have:=h 0 _ rfl
    rwa[show k*iK.sz+0=k from by show k*1+0=k;omega]at this
   generalize chgR ss k=cp at q c ⊢;obtain⟨Q,p⟩:=cp;dsimp only at q c ⊢;have M:(k:Int)<(n:Int):=by omega
   have S:(0:Int)<=(k:Int):=by omega
   by_cases o:s=0
   ·subst o;rw[if_pos rfl]at c;have⟨l,f,b⟩:=hyd3 h d c;clear c d h;go_wp2;go_roundw
    case rel=>exact⟨k+1,by go_num,by omega,by rw[b.out],by rw[b.out],trivial⟩
    case measure=>simp[intOf];omega
   ·have L:(s==0)=false:=by simpa using o
    rw[if_neg o]at c
    by_cases j:p=0
    ·subst j;rw[if_neg (by simp)]at c;have⟨l,f,b⟩:=hyd3 h d c;clear c d h;go_wp2;go_roundw
     case rel=>exact⟨k+1,by go_num,by omega,by rw[b.out],by rw[b.out],trivial⟩
     case measure=>simp[intOf];omega
    ·have F:(p==0)=false:=by simpa using j
     by_cases z:s=p
     ·subst z;rw[if_neg (by simp)]at c;have⟨l,f,b⟩:=hyd3 h d c;clear c d h;go_wp2;go_roundw
      case rel=>exact⟨k+1,by go_num,by omega,by rw[b.out],by rw[b.out],trivial⟩
      case measure=>simp[intOf];omega
     ·have H:(s==p)=false:=by simpa using z
      have I:(s != p)=true:=by simpa using z
      have G:(p != 0)=true:=by simpa using j
      rw[if_pos ⟨j,z⟩]at c;have⟨l,f,b⟩:=hyd3 h d c;clear c d h;go_wp2;go_roundw
      case rel=>exact⟨k+1,by go_num,by omega,by rw[b.out];go_num,by rw[b.out],trivial⟩
      case measure=>simp[intOf];omega
  ·obtain rfl:k=n:=by omega
   have M:¬(k:Int)<(k:Int):=by omega
   have r:(chgR ss k).1=qDr ss:=by unfold qDr;rw[m.out]
   rw[r];go_wp2;go_ret;exact⟨rfl,Below.refl _ _⟩
end Go.Proofs.Ytcoajjdhkhgfdaa

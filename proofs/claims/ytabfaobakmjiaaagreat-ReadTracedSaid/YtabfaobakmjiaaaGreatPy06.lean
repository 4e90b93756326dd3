/- append onto a row of the call's own: where the new row lies. append onto a row of the call's own: of which kind all its cells are. Rows of structs of numbers; .. -/
import Derived.Test.YtabfaobakmjiaaaGreatPy05
namespace Go.Proofs.YtabfaobakmjiaaaGreat
set_option maxRecDepth 100000
open Go.RowKit
set_option linter.unusedVariables false
theorem qD5 {P:Program} (w:World) (base:Nat) (t ty e:TypeId) (i:TypeInfo) (z:Value) (size bytes:Nat) (ht:P.underlying t=some (.slice e)) (hi:P.info? e=some i) (hz:i.zero=some z)
  (hsize:i.size=size) (hby:i.bytes=bytes) (hzs:z.cells.size=size) (hsz:0<size)
  (v:Value) (n:Nat) (xs:List Value) (hown:w.ownsRow base e size v n xs)
  (a:Addr) (m c:Nat) (news:List Value) (hl:news.length=m*size) (hnews:∀j u,news[j]? =some u->w.cell? (a.add j)=some u) (h1:∀u∈news,u.oneCell'=true)
  (h63:n+m<=maxLen) (hbytes:(n+m)*bytes<=140737488355328) (hbase:base<=w.heap.size):
  ∃v' w',(Builtin.append_ #[t,t] ty #[v,.slice (some a) m c]).run P w= .ok v' w'/\w'.ownsRow base e size v' (n+m) (xs++news)/\w.grownBy w' v.ownBlock∧
   (v'= .slice none 0 0↔v= .slice none 0 0/\m=0)/\∀k,v'.ownBlock=some k->v.ownBlock=some k∨w.heap.size<=k:=by
 obtain⟨v',w',o,q,r,s⟩:=run_append_own (P:=P) w base t ty e i z size bytes ht hi hz hsize hby hzs hsz v n xs hown a m c news hl hnews h1 h63 hbytes hbase;refine⟨v',w',o,q,r,s,?_⟩;have p:n+m<=9223372036854775807:=by simp only[maxLen]at h63;omega
 rcases hown.2 with⟨rfl,rfl⟩| ⟨g,cap,cur,rfl,hbg,hg,hnc,hcm,hcs,htake⟩
 ·have x:xs=[]:=List.eq_nil_of_length_eq_zero (by simpa using hown.1);subst x;obtain⟨v2,A,b,y,_,_⟩:=run_append_own (P:=P) w w.heap.size t ty e i z size bytes ht hi hz hsize hby hzs hsz (.slice none 0 0) 0 [] (World.ownsRow_nil _ _ _ _) a m c news hl hnews h1 h63 hbytes (Nat.le_refl _);rw[o]at b;injection b with e1 e2;subst e1 e2;exact λk l=> .inr (y.lt k l).1
 ·subst hsize
  by_cases d:n+m<=cap
  ·have h:n*i.size+news.length<=cur.size:=by rw[hl,hcs,<-Nat.add_mul];exact Nat.mul_le_mul_right _ d
   have b:=run_append_room (P:=P) w t ty e i ht hi g n cap cur hg a m c news hl hnews h1 d h;rw[o]at b;injection b with e1 e2;subst e1;exact λk l=> .inl l
  ·have f:∀j u,xs[j]? =some u->w.cell? ((⟨g,0,none⟩:Addr).add j)=some u:=hown.cells (g:=g) rfl;have b:=run_append_grow (P:=P) w t ty e i z ht hi hz ⟨g,0,none⟩ n cap xs hown.1 f a m c news hl hnews (by omega) (by omega) (growslice_fits (by omega) (by rw[hby];exact hbytes));rw[o]at b;injection b with e1 e2;subst e1;intro k l;have:w.heap.size=k:=by simpa[Value.ownBlock]using l
   exact .inr (by omega)
theorem qCn {P:Program} (w:World) {ops:Array Oper} {rest:List Oper} {o:Oper} {a:Act} {Q:Exit->Act->World->Prop} (hgd:o.guard=none) (s x:Operand) (t:TypeId)
  (ho:o.op= .call {callee:= .builtin .append,args:=#[s,x],argTypes:=#[t,t]})
  (base:Nat) (e:TypeId) (i:TypeInfo) (z:Value) (size bytes:Nat) (ht:P.underlying t=some (.slice e)) (hi:P.info? e=some i) (hz:i.zero=some z)
  (hsize:i.size=size) (hby:i.bytes=bytes) (hzs:z.cells.size=size) (hsz:0<size)
  (v:Value) (n:Nat) (xs:List Value) (hs:a.eval s=v) (hown:w.ownsRow base e size v n xs)
  (ad:Addr) (m c:Nat) (news:List Value) (hx:a.eval x= .slice (some ad) m c) (hl:news.length=m*size) (hnews:∀j u,news[j]? =some u->w.cell? (ad.add j)=some u) (h1:∀u∈news,u.oneCell'=true)
  (h63:n+m<=maxLen) (hbytes:(n+m)*bytes<=140737488355328) (hbase:base<=w.heap.size)
  (h:∀v' w',w'.ownsRow base e size v' (n+m) (xs++news)->w.grownBy w' v.ownBlock->(∀k,v'.ownBlock=some k->v.ownBlock=some k∨w.heap.size<=k)->wpList P ops Q rest (a.put o.dst v') w'):wpList P ops Q (o::rest) a w:=by
 refine wpList_plain hgd λ_ hK=>?_;obtain⟨v',w',g,b,d,l,f⟩:=qD5 (P:=P) w base t o.type e i z size bytes ht hi hz hsize hby hzs hsz v n xs hown ad m c news hl hnews h1 h63 hbytes hbase;unfold Oper.wp execOp;simp only[ho,resolve,invoke,builtin,Sem.run_bind,Sem.run_pure,Result.andThen_ok,List.map_toArray,List.map_cons,List.map_nil,hs,hx,g];exact hK _ _ (h v' w' b d f)
def RowAll (p:Value->Prop) (w:World) (v:Value):Prop:=∀g cur t,v.ownBlock=some g->w.heap[g]? =some (.cells cur t)->∀u∈cur.toList,p u
theorem RowAll.nil (p:Value->Prop) (w:World):RowAll p w (.slice none 0 0):=λg cur t h=>by cases h
theorem RowAll.same {p:Value->Prop} {w W:World} {v:Value} (h:RowAll p w v) (hk:∀g,v.ownBlock=some g->W.heap[g]? =w.heap[g]?):RowAll p W v:=λg cur t h1 h2=>h g cur t h1 ((hk g h1).symm.trans h2)
theorem qHt {P:Program} (p:Value->Prop) (w:World) (base:Nat) (t ty e:TypeId) (i:TypeInfo) (z:Value) (size bytes:Nat) (ht:P.underlying t=some (.slice e)) (hi:P.info? e=some i) (hz:i.zero=some z)
  (hsize:i.size=size) (hby:i.bytes=bytes) (hzs:z.cells.size=size) (hsz:0<size)
  (v:Value) (n:Nat) (xs:List Value) (hown:w.ownsRow base e size v n xs)
  (a:Addr) (m c:Nat) (news:List Value) (hl:news.length=m*size) (hnews:∀j u,news[j]? =some u->w.cell? (a.add j)=some u) (h1:∀u∈news,u.oneCell'=true)
  (h63:n+m<=maxLen) (hbytes:(n+m)*bytes<=140737488355328) (hbase:base<=w.heap.size)
  (hm:0<m) (hpn:∀u∈news,p u) (hpz:∀j,j<size->p z.cells[j]!) (hall:RowAll p w v):
  ∃v' w',(Builtin.append_ #[t,t] ty #[v,.slice (some a) m c]).run P w= .ok v' w'/\w'.ownsRow base e size v' (n+m) (xs++news)/\w.grownBy w' v.ownBlock∧
   (∀k,v'.ownBlock=some k->v.ownBlock=some k∨w.heap.size<=k)/\RowAll p w' v'/\∀g,v.ownBlock=some g->∃cur,w'.heap[g]? =some (.cells cur e):=by
 obtain⟨v',w',D,H,I,N,J⟩:=qD5 (P:=P) w base t ty e i z size bytes ht hi hz hsize hby hzs hsz v n xs hown a m c news hl hnews h1 h63 hbytes hbase;refine⟨v',w',D,H,I,J,?_⟩;have E:n+m<=9223372036854775807:=by simp only[maxLen]at h63;omega
 have s:∀k,∀u∈(Builtin.zeroCells z.cells k).toList,p u:=by
  intro k u d;unfold Builtin.zeroCells at d;simp only[Array.toList_map,List.mem_map]at d;obtain⟨q,-,rfl⟩:=d;have:=hpz (q%z.cells.size) (by rw[<-hzs];exact Nat.mod_lt _ (by omega));exact this
 rcases hown.2 with⟨rfl,rfl⟩| ⟨g,cap,cur,rfl,hbg,hg,hnc,hcm,hcs,htake⟩
 ·have M:xs=[]:=List.eq_nil_of_length_eq_zero (by simpa using hown.1);subst M;subst hsize
  subst hby
  have l:=run_append_nil (P:=P) w t ty e i z ht hi hz a m c news hl hnews hm (by omega) (by have L:=hbytes;simp only[Nat.zero_add]at L;omega);rw[D]at l;injection l with e1 e2;subst e1 e2;refine⟨?_,λg h=>by cases h⟩;intro k x G C b u d;have f:w.heap.size=k:=by simpa[Value.ownBlock]using C
  subst f;have B:(w.drew.alloc (.cells (news.toArray++Builtin.zeroCells z.cells (grownCap w m 0 e - m)) e)).heap[w.heap.size]? =some (.cells (news.toArray++Builtin.zeroCells z.cells (grownCap w m 0 e - m)) e (0,0)):=heap_alloc_new w.drew _;rw[B]at b;injection b with b;injection b with b;subst b;simp only[Array.toList_append,List.mem_append]at d
  rcases d with d|d
  ·exact hpn u d
  ·exact s _ u d
 ·subst hsize
  by_cases r:n+m<=cap
  ·have A:n*i.size+news.length<=cur.size:=by rw[hl,hcs,<-Nat.add_mul];exact Nat.mul_le_mul_right _ r
   have l:=run_append_room (P:=P) w t ty e i ht hi g n cap cur hg a m c news hl hnews h1 r A;rw[D]at l;injection l with e1 e2;subst e1 e2;refine⟨?_,λF h=>?_⟩
   rotate_left
   ·have f:g=F:=by simpa[Value.ownBlock]using h
    subst f;exact⟨_,setRow_heap w g cur _ e _ hg⟩
   intro k x G C b u d;have f:g=k:=by simpa[Value.ownBlock]using C
   subst f;have B:(w.setRow g (cur.toList.take (n*i.size)++news++cur.toList.drop (n*i.size+news.length)).toArray).heap[g]? =some (.cells (cur.toList.take (n*i.size)++news++cur.toList.drop (n*i.size+news.length)).toArray e (0,0)):=setRow_heap w g cur _ e _ hg;rw[B]at b;injection b with b;injection b with b;subst b;have o:=hall g cur e rfl hg;simp only[List.mem_append]at d
   rcases d with(d|d)|d
   ·exact o u (List.mem_of_mem_take d)
   ·exact hpn u d
   ·exact o u (List.mem_of_mem_drop d)
  ·have y:∀j u,xs[j]? =some u->w.cell? ((⟨g,0,none⟩:Addr).add j)=some u:=hown.cells (g:=g) rfl;have l:=run_append_grow (P:=P) w t ty e i z ht hi hz ⟨g,0,none⟩ n cap xs hown.1 y a m c news hl hnews (by omega) (by omega) (growslice_fits (by omega) (by rw[hby];exact hbytes));rw[D]at l;injection l with e1 e2;subst e1 e2;refine⟨?_,λF h=>?_⟩
   rotate_left
   ·have f:g=F:=by simpa[Value.ownBlock]using h
    subst f;exact⟨cur,(heap_alloc_old w.drew _ (gsl hg)).trans hg⟩
   intro k x G C b u d;have f:w.heap.size=k:=by simpa[Value.ownBlock]using C
   subst f;have B:(w.drew.alloc (.cells (xs.toArray++news.toArray++Builtin.zeroCells z.cells (grownCap w (n+m) cap e - (n+m))) e)).heap[w.heap.size]? =some (.cells (xs.toArray++news.toArray++Builtin.zeroCells z.cells (grownCap w (n+m) cap e - (n+m))) e (0,0)):=heap_alloc_new w.drew _;rw[B]at b;injection b with b;injection b with b;subst b;have o:=hall g cur e rfl hg;simp only[Array.toList_append,List.mem_append]at d
   rcases d with(d|d)|d
   ·rw[<-htake]at d;exact o u (List.mem_of_mem_take d)
   ·exact hpn u d
   ·exact s _ u d
theorem qGS {P:Program} (p:Value->Prop) (w:World) {ops:Array Oper} {rest:List Oper} {o:Oper} {a:Act} {Q:Exit->Act->World->Prop} (hgd:o.guard=none) (s x:Operand) (t:TypeId)
  (ho:o.op= .call {callee:= .builtin .append,args:=#[s,x],argTypes:=#[t,t]})
  (base:Nat) (e:TypeId) (i:TypeInfo) (z:Value) (size bytes:Nat) (ht:P.underlying t=some (.slice e)) (hi:P.info? e=some i) (hz:i.zero=some z)
  (hsize:i.size=size) (hby:i.bytes=bytes) (hzs:z.cells.size=size) (hsz:0<size)
  (v:Value) (n:Nat) (xs:List Value) (hs:a.eval s=v) (hown:w.ownsRow base e size v n xs)
  (ad:Addr) (m c:Nat) (news:List Value) (hx:a.eval x= .slice (some ad) m c) (hl:news.length=m*size) (hnews:∀j u,news[j]? =some u->w.cell? (ad.add j)=some u) (h1:∀u∈news,u.oneCell'=true)
  (h63:n+m<=maxLen) (hbytes:(n+m)*bytes<=140737488355328) (hbase:base<=w.heap.size)
  (hm:0<m) (hpn:∀u∈news,p u) (hpz:∀j,j<size->p z.cells[j]!) (hall:RowAll p w v)
  (h:∀v' w',w'.ownsRow base e size v' (n+m) (xs++news)->w.grownBy w' v.ownBlock->(∀k,v'.ownBlock=some k->v.ownBlock=some k∨w.heap.size<=k)->RowAll p w' v'->(∀g,v.ownBlock=some g->∃cur,w'.heap[g]? =some (.cells cur e))->wpList P ops Q rest (a.put o.dst v') w'):wpList P ops Q (o::rest) a w:=by
 refine wpList_plain hgd λ_ hK=>?_;obtain⟨v',w',r,b,d,f,l,q⟩:=qHt (P:=P) p w base t o.type e i z size bytes ht hi hz hsize hby hzs hsz v n xs hown ad m c news hl hnews h1 h63 hbytes hbase hm hpn hpz hall;unfold Oper.wp execOp;simp only[ho,resolve,invoke,builtin,Sem.run_bind,Sem.run_pure,Result.andThen_ok,List.map_toArray,List.map_cons,List.map_nil,hs,hx,r];exact hK _ _ (h v' w' b d f l q)
def SV {α:Type} (k:Nat) (enc:α->List Value) (w:World) (v:Value) (L:List α):Prop:=
 ∃A c,v= .slice A L.length c/\L.length<=c/\c<=maxLen/\(A=none->c=0)∧
  (0<L.length->∃b off,A=some ⟨b,off,none⟩/\b<w.heap.size/\∀j (h:j<L.length) i u,(enc L[j])[i]? =some u->w.cell? ⟨b,off+j*k+i,none⟩=some u)
section
variable {α:Type} {k:Nat} {enc:α->List Value}
theorem SV.below {w W:World} {v:Value} {L:List α} {n:Nat} (h:SV k enc w v L) (hb:Below n w W) (hn:w.heap.size<=n):SV k enc W v L:=by
 obtain⟨A,c,y,g,l,o,m⟩:=h;refine⟨A,c,y,g,l,o,λf=>?_⟩;obtain⟨b,off,q,d,r⟩:=m f;exact⟨b,off,q,by have:=hb.size;omega,λj s i u x=>(Below.cell hb (p:=⟨b,_,none⟩) (Nat.lt_of_lt_of_le d hn)).trans (r j s i u x)⟩
theorem SV.le {w W:World} {v:Value} {L:List α} (h:SV k enc w v L) (hb:Below w.heap.size w W):SV k enc W v L:=h.below hb (Nat.le_refl _)
theorem SV.nil (w:World):SV k enc w (.slice none 0 0) ([]:List α):=⟨none,0,rfl,Nat.le_refl _,Nat.zero_le _,λ_=>rfl,λh=>absurd h (Nat.lt_irrefl 0)⟩
theorem qCo (hk:∀x,(enc x).length =k):∀(L:List α) (j:Nat) (h:j<L.length) (i:Nat) (u:Value),(enc L[j])[i]? =some u->(L.flatMap enc)[j*k+i]? =some u
 | x::xs,0,_,i,u,hu=>by
  have hi:=(List.getElem?_eq_some_iff.1 hu).1;have hi2:i<(enc x).length :=hi;rw[List.flatMap_cons,Nat.zero_mul,Nat.zero_add,List.getElem?_append_left hi2];exact hu
 | x::xs,j+1,h,i,u,hu=>by
  have ih:=qCo hk xs j (by simpa using h) i u hu;rw[List.flatMap_cons,List.getElem?_append_right (by rw[hk,Nat.add_mul];omega),hk,show(j+1)*k+i - k=j*k+i by rw[Nat.add_mul];omega];exact ih
theorem qCG (hk:∀x,(enc x).length =k) (L:List α):(L.flatMap enc).length =L.length*k:=by
 induction L with
 | nil=>simp
 | cons x xs ih=>rw[List.flatMap_cons,List.length_append,ih,hk,List.length_cons,Nat.add_mul];omega
theorem SV.of_own {w:World} {base:Nat} {e:TypeId} {v:Value} {L:List α} (hk:∀x,(enc x).length =k) (h:w.ownsRow base e k v L.length (L.flatMap enc)):SV k enc w v L:=by
 have f:=h
 rcases h.2 with⟨rfl,hx⟩| ⟨g,cap,cur,rfl,hbg,hg,hnc,hcm,hcs,htake⟩
 ·have l:L=[]:=List.eq_nil_of_length_eq_zero hx;subst l;exact SV.nil _
 ·refine⟨some ⟨g,0,none⟩,cap,rfl,hnc,hcm,λh=>(by cases h),λ_=>⟨g,0,rfl,(gsl hg),λj c i u d=>?_⟩⟩;have m:i<k:=by have:=(List.getElem?_eq_some_iff.1 d).1;rwa[hk]at this
  have b:j*k+i<L.length*k:=by
   have:(j+1)*k<=L.length*k:=Nat.mul_le_mul_right _ c;rw[Nat.add_mul,Nat.one_mul]at this;omega
  rw[Nat.zero_add,f.cellAt (j*k+i) b];exact qCo hk L j c i u d
theorem SV.at {w:World} {v:Value} {L:List α} (h:SV k enc w v L) {j:Nat} (hj:j<L.length):∃b off c,v= .slice (some ⟨b,off,none⟩) L.length c/\b<w.heap.size/\∀i u,(enc L[j])[i]? =some u->w.cell? ⟨b,off+j*k+i,none⟩=some u:=by
 obtain⟨A,c,rfl,l,m,n,f⟩:=h;obtain⟨b,off,rfl,d,g⟩:=f (by omega);exact⟨b,off,c,rfl,d,g j hj⟩
theorem SV.slice {w:World} {v:Value} {L:List α} (h:SV k enc w v L):∃A c,v= .slice A L.length c/\L.length<=maxLen:=by
 obtain⟨A,c,rfl,b,d,-⟩:=h;exact⟨A,c,rfl,by omega⟩
end
def qBA (r:Rd):List Value:=[.int .i64 r.cut,.int .i64 r.step,.int .i64 r.lo,.int .i64 r.hi]
def qAD (s:Spn):List Value:=[.int .i64 s.1,.int .i64 s.2]
def qBh (f:Fnd):List Value:=[.int .i64 f.head,.int .i64 f.throw,.int .i64 f.adv,.int .i64 f.lo,.int .i64 f.hi]
abbrev RdsL:=SV 4 qBA
abbrev SpnL:=SV 2 qAD
abbrev FndL:=SV 5 qBh
theorem RdsL.cells {w:World} {v:Value} {L:List Rd} (h:RdsL w v L) {j:Nat} (hj:j<L.length):∃b off c,v= .slice (some ⟨b,off,none⟩) L.length c/\b<w.heap.size/\w.cell? ⟨b,off+j*4,none⟩=some (.int .i64 L[j].cut)/\w.cell? ⟨b,off+j*4+1,none⟩=some (.int .i64 L[j].step)/\w.cell? ⟨b,off+j*4+2,none⟩=some (.int .i64 L[j].lo)/\w.cell? ⟨b,off+j*4+3,none⟩=some (.int .i64 L[j].hi):=by
 obtain⟨b,off,c,rfl,f,d⟩:=h.at hj;exact⟨b,off,c,rfl,f,d 0 _ rfl,d 1 _ rfl,d 2 _ rfl,d 3 _ rfl⟩
theorem SpnL.cells {w:World} {v:Value} {L:List Spn} (h:SpnL w v L) {j:Nat} (hj:j<L.length):∃b off c,v= .slice (some ⟨b,off,none⟩) L.length c/\b<w.heap.size/\w.cell? ⟨b,off+j*2,none⟩=some (.int .i64 L[j].1)/\w.cell? ⟨b,off+j*2+1,none⟩=some (.int .i64 L[j].2):=by
 obtain⟨b,off,c,rfl,f,d⟩:=h.at hj;exact⟨b,off,c,rfl,f,d 0 _ rfl,d 1 _ rfl⟩
theorem FndL.cells {w:World} {v:Value} {L:List Fnd} (h:FndL w v L) {j:Nat} (hj:j<L.length):∃b off c,v= .slice (some ⟨b,off,none⟩) L.length c/\b<w.heap.size/\w.cell? ⟨b,off+j*5,none⟩=some (.int .i64 L[j].head)/\w.cell? ⟨b,off+j*5+1,none⟩=some (.int .i64 L[j].throw)/\w.cell? ⟨b,off+j*5+2,none⟩=some (.int .i64 L[j].adv)/\w.cell? ⟨b,off+j*5+3,none⟩=some (.int .i64 L[j].lo)/\w.cell? ⟨b,off+j*5+4,none⟩=some (.int .i64 L[j].hi):=by
 obtain⟨b,off,c,rfl,f,d⟩:=h.at hj;exact⟨b,off,c,rfl,f,d 0 _ rfl,d 1 _ rfl,d 2 _ rfl,d 3 _ rfl,d 4 _ rfl⟩
def qR8 (w:World) (b o:Nat) (h:Hd):Prop:=∃vr vb,w.cell? ⟨b,o,none⟩=some vr/\w.cell? ⟨b,o+1,none⟩=some vb/\Ints w vr h.ros/\Ints w vb h.rub
def HeadsL (w:World) (v:Value) (hs:List Hd):Prop:=
 ∃A c,v= .slice A hs.length c/\hs.length<=c/\c<=maxLen/\(A=none->c=0)∧
  (0<hs.length->∃b off,A=some ⟨b,off,none⟩/\b<w.heap.size/\∀j (h:j<hs.length),qR8 w b (off+j*2) hs[j])
theorem HeadsL.le {w W:World} {v:Value} {hs:List Hd} (h:HeadsL w v hs) (hb:Below w.heap.size w W):HeadsL W v hs:=by
 obtain⟨A,c,x,l,m,o,n⟩:=h;refine⟨A,c,x,l,m,o,λi=>?_⟩;obtain⟨b,off,q,d,r⟩:=n i;refine⟨b,off,q,Nat.lt_of_lt_of_le d hb.size,λj s=>?_⟩;obtain⟨C,B,f,g,y,z⟩:=r j s;exact⟨C,B,(Below.cell hb (p:=⟨b,_,none⟩) d).trans f,(Below.cell hb (p:=⟨b,_,none⟩) d).trans g,y.below hb,z.below hb⟩
theorem HeadsL.at {w:World} {v:Value} {hs:List Hd} (h:HeadsL w v hs) {j:Nat} (hj:j<hs.length):∃b off c vr vb,v= .slice (some ⟨b,off,none⟩) hs.length c/\b<w.heap.size/\w.cell? ⟨b,off+j*2,none⟩=some vr/\w.cell? ⟨b,off+j*2+1,none⟩=some vb/\Ints w vr hs[j].ros /\Ints w vb hs[j].rub :=by
 obtain⟨A,c,rfl,o,p,q,i⟩:=h;obtain⟨b,off,rfl,d,l⟩:=i (by omega);obtain⟨vr,vb,f,g,m,n⟩:=l j hj;exact⟨b,off,c,vr,vb,rfl,d,f,g,m,n⟩
theorem HeadsL.slice {w:World} {v:Value} {hs:List Hd} (h:HeadsL w v hs):∃A c,v= .slice A hs.length c/\hs.length<=maxLen:=by
 obtain⟨A,c,rfl,b,d,-⟩:=h;exact⟨A,c,rfl,by omega⟩
def IsPic (w:World) (v:Value) (p:Pic):Prop:=∃vh vr,v= .agg #[vh,.int .i64 p.tl,.int .i64 p.th,.int .i64 p.al,.int .i64 p.ah,vr]/\HeadsL w vh p.hs/\RdsL w vr p.rds
theorem IsPic.le {w W:World} {v:Value} {p:Pic} (h:IsPic w v p) (hb:Below w.heap.size w W):IsPic W v p:=by
 obtain⟨d,f,rfl,b,c⟩:=h;exact⟨d,f,rfl,b.le hb,c.le hb⟩
def qA6 (z:Int):Prop:= -9223372036854775808<=z/\z<=9223372036854775807
structure Pic.Fit (p:Pic):Prop where
 tl:qA6 p.tl
 th:qA6 p.th
 al:qA6 p.al
 ah:qA6 p.ah
 rds:∀r∈p.rds,qA6 r.cut/\qA6 r.step/\qA6 r.lo/\qA6 r.hi
 hs:∀h∈p.hs,(∀x∈h.ros,qA6 x)/\∀x∈h.rub,qA6 x
theorem newb (w:World) (o:Obj):∃V,w.alloc o=V/\Below w.heap.size w V/\V.heap[w.heap.size]? =some o:=⟨_,rfl,alc1 _ _,qCN _ _⟩
theorem blk {w W:World} {B:Nat} {o:Obj} (h:Below w.heap.size w W) (hk:w.heap[B]? =some o):W.heap[B]? =some o:=(h.block B (gsl hk)).trans hk
section
variable {W:World} {X:Nat} {v0 v1 v2 v3 v4 v5:Value} {t:TypeId}
theorem pc2 (h:W.heap[X]? =some (Obj.cells #[v0,v1] t)):W.cell? ⟨X,0,none⟩=some v0/\W.cell? ⟨X,1,none⟩=some v1:=⟨cell_of_row W X 0 _ _ _ h,cell_of_row W X 1 _ _ _ h⟩
theorem pc3 (h:W.heap[X]? =some (Obj.cells #[v0,v1,v2] t)):W.cell? ⟨X,0,none⟩=some v0/\W.cell? ⟨X,1,none⟩=some v1/\W.cell? ⟨X,2,none⟩=some v2:=⟨cell_of_row W X 0 _ _ _ h,cell_of_row W X 1 _ _ _ h,cell_of_row W X 2 _ _ _ h⟩
theorem pc4 (h:W.heap[X]? =some (Obj.cells #[v0,v1,v2,v3] t)):W.cell? ⟨X,0,none⟩=some v0/\W.cell? ⟨X,1,none⟩=some v1/\W.cell? ⟨X,2,none⟩=some v2/\W.cell? ⟨X,3,none⟩=some v3:=⟨cell_of_row W X 0 _ _ _ h,cell_of_row W X 1 _ _ _ h,cell_of_row W X 2 _ _ _ h,cell_of_row W X 3 _ _ _ h⟩
theorem pc5 (h:W.heap[X]? =some (Obj.cells #[v0,v1,v2,v3,v4] t)):W.cell? ⟨X,0,none⟩=some v0/\W.cell? ⟨X,1,none⟩=some v1/\W.cell? ⟨X,2,none⟩=some v2/\W.cell? ⟨X,3,none⟩=some v3/\W.cell? ⟨X,4,none⟩=some v4:=⟨cell_of_row W X 0 _ _ _ h,cell_of_row W X 1 _ _ _ h,cell_of_row W X 2 _ _ _ h,cell_of_row W X 3 _ _ _ h,cell_of_row W X 4 _ _ _ h⟩
theorem pc6 (h:W.heap[X]? =some (Obj.cells #[v0,v1,v2,v3,v4,v5] t)):W.cell? ⟨X,0,none⟩=some v0/\W.cell? ⟨X,1,none⟩=some v1/\W.cell? ⟨X,2,none⟩=some v2/\W.cell? ⟨X,3,none⟩=some v3/\W.cell? ⟨X,4,none⟩=some v4/\W.cell? ⟨X,5,none⟩=some v5:=⟨cell_of_row W X 0 _ _ _ h,cell_of_row W X 1 _ _ _ h,cell_of_row W X 2 _ _ _ h,cell_of_row W X 3 _ _ _ h,cell_of_row W X 4 _ _ _ h,cell_of_row W X 5 _ _ _ h⟩
end
theorem qSA {W:World} {X:Nat} {a b:Value} {t:TypeId} (h:W.heap[X]? =some (Obj.cells #[a,b] t)) (u v:Value):((W.setCell ⟨X,0,none⟩ u).setCell ⟨X,1,none⟩ v).heap[X]? =some (.cells #[u,v] t):=by
 simp only[World.setCell,Array.getElem?_modify,h];simp
theorem qR9 {n:Nat} {w W:World} {X:Nat} (h:Below n w W) (hX:n<=X) (u v:Value):Below n w ((W.setCell ⟨X,0,none⟩ u).setCell ⟨X,1,none⟩ v):=(Below.setCell h (p:=⟨X,0,none⟩) hX _).setCell (p:=⟨X,1,none⟩) hX _
theorem pfrz {W:World} {B:Nat} {cs:Array Value} {t:TypeId} (h:W.heap[B]? =some (.cells cs t)) (i:Nat):W.frozen? ⟨B,i,none⟩=false:=by simp[World.frozen?,h]
end Go.Proofs.YtabfaobakmjiaaaGreat

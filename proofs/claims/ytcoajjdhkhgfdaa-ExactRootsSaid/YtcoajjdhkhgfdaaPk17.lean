/- append onto a row of the call's own: where the new row lies. append onto a row of the call's own: of which kind all its cells are. -/
import Derived.Test.YtcoajjdhkhgfdaaPk01
namespace Go.Proofs.Ytcoajjdhkhgfdaa
set_option maxRecDepth 100000
open Go.RowKit
set_option linter.unusedVariables false
theorem qGU {P:Program} (w:World) (base:Nat) (t ty e:TypeId) (i:TypeInfo) (z:Value) (size bytes:Nat) (ht:P.underlying t=some (.slice e)) (hi:P.info? e=some i) (hz:i.zero=some z)
  (hsize:i.size=size) (hby:i.bytes=bytes) (hzs:z.cells.size=size) (hsz:0<size)
  (v:Value) (n:Nat) (xs:List Value) (hown:w.ownsRow base e size v n xs)
  (a:Addr) (m c:Nat) (news:List Value) (hl:news.length=m*size) (hnews:∀j u,news[j]? =some u->w.cell? (a.add j)=some u) (h1:∀u∈news,u.oneCell'=true)
  (h63:n+m<=maxLen) (hbytes:(n+m)*bytes<=140737488355328) (hbase:base<=w.heap.size):
  ∃v' w',(Builtin.append_ #[t,t] ty #[v,.slice (some a) m c]).run P w= .ok v' w'/\w'.ownsRow base e size v' (n+m) (xs++news)/\w.grownBy w' v.ownBlock∧
   (v'= .slice none 0 0↔v= .slice none 0 0/\m=0)/\∀k,v'.ownBlock=some k->v.ownBlock=some k∨w.heap.size<=k:=by
 obtain⟨v',w',o,q,r,s⟩:=run_append_own (P:=P) w base t ty e i z size bytes ht hi hz hsize hby hzs hsz v n xs hown a m c news hl hnews h1 h63 hbytes hbase;refine⟨v',w',o,q,r,s,?_⟩;have p:n+m<=9223372036854775807:=by simp only[maxLen]at h63;omega
 rcases hown.2 with⟨rfl,rfl⟩| ⟨g,cap,cur,rfl,hbg,hg,hnc,hcm,hcs,htake⟩
 ·have x:xs=[]:=List.eq_nil_of_length_eq_zero (by simpa using hown.1);subst x;obtain⟨A,B,b,y,_,_⟩:=run_append_own (P:=P) w w.heap.size t ty e i z size bytes ht hi hz hsize hby hzs hsz (.slice none 0 0) 0 [] (World.ownsRow_nil _ _ _ _) a m c news hl hnews h1 h63 hbytes (Nat.le_refl _);rw[o]at b;injection b with e1 e2;subst e1 e2;exact λk l=> .inr (y.lt k l).1
 ·subst hsize
  by_cases d:n+m<=cap
  ·have h:n*i.size+news.length<=cur.size:=by rw[hl,hcs,<-Nat.add_mul];exact Nat.mul_le_mul_right _ d
   have b:=run_append_room (P:=P) w t ty e i ht hi g n cap cur hg a m c news hl hnews h1 d h;rw[o]at b;injection b with e1 e2;subst e1;exact λk l=> .inl l
  ·have f:∀j u,xs[j]? =some u->w.cell? ((⟨g,0,none⟩:Addr).add j)=some u:=hown.cells (g:=g) rfl;have b:=run_append_grow (P:=P) w t ty e i z ht hi hz ⟨g,0,none⟩ n cap xs hown.1 f a m c news hl hnews (by omega) (by omega) (growslice_fits (by omega) (by rw[hby];exact hbytes));rw[o]at b;injection b with e1 e2;subst e1;intro k l;have:w.heap.size=k:=by simpa[Value.ownBlock]using l
   exact .inr (by omega)
def RowAll (p:Value->Prop) (w:World) (v:Value):Prop:=∀g cur t,v.ownBlock=some g->w.heap[g]? =some (.cells cur t)->∀u∈cur.toList,p u
theorem RowAll.nil (p:Value->Prop) (w:World):RowAll p w (.slice none 0 0):=λg cur t h=>by cases h
theorem RowAll.same {p:Value->Prop} {w W:World} {v:Value} (h:RowAll p w v) (hk:∀g,v.ownBlock=some g->W.heap[g]? =w.heap[g]?):RowAll p W v:=λg cur t h1 h2=>h g cur t h1 ((hk g h1).symm.trans h2)
theorem qGV {P:Program} (p:Value->Prop) (w:World) (base:Nat) (t ty e:TypeId) (i:TypeInfo) (z:Value) (size bytes:Nat) (ht:P.underlying t=some (.slice e)) (hi:P.info? e=some i) (hz:i.zero=some z)
  (hsize:i.size=size) (hby:i.bytes=bytes) (hzs:z.cells.size=size) (hsz:0<size)
  (v:Value) (n:Nat) (xs:List Value) (hown:w.ownsRow base e size v n xs)
  (a:Addr) (m c:Nat) (news:List Value) (hl:news.length=m*size) (hnews:∀j u,news[j]? =some u->w.cell? (a.add j)=some u) (h1:∀u∈news,u.oneCell'=true)
  (h63:n+m<=maxLen) (hbytes:(n+m)*bytes<=140737488355328) (hbase:base<=w.heap.size)
  (hm:0<m) (hpn:∀u∈news,p u) (hpz:∀j,j<size->p z.cells[j]!) (hall:RowAll p w v):
  ∃v' w',(Builtin.append_ #[t,t] ty #[v,.slice (some a) m c]).run P w= .ok v' w'/\w'.ownsRow base e size v' (n+m) (xs++news)/\w.grownBy w' v.ownBlock∧
   (∀k,v'.ownBlock=some k->v.ownBlock=some k∨w.heap.size<=k)/\RowAll p w' v'/\∀g,v.ownBlock=some g->∃cur,w'.heap[g]? =some (.cells cur e)/\∀u∈cur.toList,p u:=by
 obtain⟨v',w',D,H,I,N,J⟩:=qGU (P:=P) w base t ty e i z size bytes ht hi hz hsize hby hzs hsz v n xs hown a m c news hl hnews h1 h63 hbytes hbase;refine⟨v',w',D,H,I,J,?_⟩;have E:n+m<=9223372036854775807:=by simp only[maxLen]at h63;omega
 have s:∀k,∀u∈(Builtin.zeroCells z.cells k).toList,p u:=by
  intro k u d;unfold Builtin.zeroCells at d;simp only[Array.toList_map,List.mem_map]at d;obtain⟨q,-,rfl⟩:=d;have:=hpz (q%z.cells.size) (by rw[<-hzs];exact Nat.mod_lt _ (by omega));exact this
 rcases hown.2 with⟨rfl,rfl⟩| ⟨g,cap,cur,rfl,hbg,hg,hnc,hcm,hcs,htake⟩
 ·have M:xs=[]:=List.eq_nil_of_length_eq_zero (by simpa using hown.1);subst M;subst hsize
  subst hby
  have o:=run_append_nil (P:=P) w t ty e i z ht hi hz a m c news hl hnews hm (by omega) (by have L:=hbytes;simp only[Nat.zero_add]at L;omega);rw[D]at o;injection o with e1 e2;subst e1 e2;refine⟨?_,λg h=>by cases h⟩;intro k x G C b u d;have l:w.heap.size=k:=by simpa[Value.ownBlock]using C
  subst l;have B:(w.drew.alloc (.cells (news.toArray++Builtin.zeroCells z.cells (grownCap w m 0 e - m)) e)).heap[w.heap.size]? =some (.cells (news.toArray++Builtin.zeroCells z.cells (grownCap w m 0 e - m)) e (0,0)):=heap_alloc_new w.drew _;rw[B]at b;injection b with b;injection b with b;subst b;simp only[Array.toList_append,List.mem_append]at d
  rcases d with d|d
  ·exact hpn u d
  ·exact s _ u d
 ·subst hsize
  by_cases r:n+m<=cap
  ·have A:n*i.size+news.length<=cur.size:=by rw[hl,hcs,<-Nat.add_mul];exact Nat.mul_le_mul_right _ r
   have o:=run_append_room (P:=P) w t ty e i ht hi g n cap cur hg a m c news hl hnews h1 r A;rw[D]at o;injection o with e1 e2;subst e1 e2;refine⟨?_,λF h=>?_⟩
   rotate_left
   ·have l:g=F:=by simpa[Value.ownBlock]using h
    subst l;refine⟨_,setRow_heap w g cur _ e _ hg,λu d=>?_⟩;have f:=hall g cur e rfl hg;simp only[List.mem_append]at d
    rcases d with(d|d)|d
    ·exact f u (List.mem_of_mem_take d)
    ·exact hpn u d
    ·exact f u (List.mem_of_mem_drop d)
   intro k x G C b u d;have l:g=k:=by simpa[Value.ownBlock]using C
   subst l;have B:(w.setRow g (cur.toList.take (n*i.size)++news++cur.toList.drop (n*i.size+news.length)).toArray).heap[g]? =some (.cells (cur.toList.take (n*i.size)++news++cur.toList.drop (n*i.size+news.length)).toArray e (0,0)):=setRow_heap w g cur _ e _ hg;rw[B]at b;injection b with b;injection b with b;subst b;have f:=hall g cur e rfl hg;simp only[List.mem_append]at d
   rcases d with(d|d)|d
   ·exact f u (List.mem_of_mem_take d)
   ·exact hpn u d
   ·exact f u (List.mem_of_mem_drop d)
  ·have y:∀j u,xs[j]? =some u->w.cell? ((⟨g,0,none⟩:Addr).add j)=some u:=hown.cells (g:=g) rfl;have o:=run_append_grow (P:=P) w t ty e i z ht hi hz ⟨g,0,none⟩ n cap xs hown.1 y a m c news hl hnews (by omega) (by omega) (growslice_fits (by omega) (by rw[hby];exact hbytes));rw[D]at o;injection o with e1 e2;subst e1 e2;refine⟨?_,λF h=>?_⟩
   rotate_left
   ·have l:g=F:=by simpa[Value.ownBlock]using h
    subst l;exact⟨cur,(heap_alloc_old w.drew _ (gsl hg)).trans hg,hall g cur e rfl hg⟩
   intro k x G C b u d;have l:w.heap.size=k:=by simpa[Value.ownBlock]using C
   subst l;have B:(w.drew.alloc (.cells (xs.toArray++news.toArray++Builtin.zeroCells z.cells (grownCap w (n+m) cap e - (n+m))) e)).heap[w.heap.size]? =some (.cells (xs.toArray++news.toArray++Builtin.zeroCells z.cells (grownCap w (n+m) cap e - (n+m))) e (0,0)):=heap_alloc_new w.drew _;rw[B]at b;injection b with b;injection b with b;subst b;have f:=hall g cur e rfl hg;simp only[Array.toList_append,List.mem_append]at d
   rcases d with(d|d)|d
   ·rw[<-htake]at d;exact f u (List.mem_of_mem_take d)
   ·exact hpn u d
   ·exact s _ u d
theorem qDN {P:Program} (p:Value->Prop) (w:World) {ops:Array Oper} {rest:List Oper} {o:Oper} {a:Act} {Q:Exit->Act->World->Prop} (hgd:o.guard=none) (s x:Operand) (t:TypeId)
  (ho:o.op= .call {callee:= .builtin .append,args:=#[s,x],argTypes:=#[t,t]})
  (base:Nat) (e:TypeId) (i:TypeInfo) (z:Value) (size bytes:Nat) (ht:P.underlying t=some (.slice e)) (hi:P.info? e=some i) (hz:i.zero=some z)
  (hsize:i.size=size) (hby:i.bytes=bytes) (hzs:z.cells.size=size) (hsz:0<size)
  (v:Value) (n:Nat) (xs:List Value) (hs:a.eval s=v) (hown:w.ownsRow base e size v n xs)
  (ad:Addr) (m c:Nat) (news:List Value) (hx:a.eval x= .slice (some ad) m c) (hl:news.length=m*size) (hnews:∀j u,news[j]? =some u->w.cell? (ad.add j)=some u) (h1:∀u∈news,u.oneCell'=true)
  (h63:n+m<=maxLen) (hbytes:(n+m)*bytes<=140737488355328) (hbase:base<=w.heap.size)
  (hm:0<m) (hpn:∀u∈news,p u) (hpz:∀j,j<size->p z.cells[j]!) (hall:RowAll p w v)
  (h:∀v' w',w'.ownsRow base e size v' (n+m) (xs++news)->w.grownBy w' v.ownBlock->(∀k,v'.ownBlock=some k->v.ownBlock=some k∨w.heap.size<=k)->RowAll p w' v'->(∀g,v.ownBlock=some g->∃cur,w'.heap[g]? =some (.cells cur e)/\∀u∈cur.toList,p u)->wpList P ops Q rest (a.put o.dst v') w'):wpList P ops Q (o::rest) a w:=by
 refine wpList_plain hgd λ_ hK=>?_;obtain⟨v',w',r,b,d,f,l,q⟩:=qGV (P:=P) p w base t o.type e i z size bytes ht hi hz hsize hby hzs hsz v n xs hown ad m c news hl hnews h1 h63 hbytes hbase hm hpn hpz hall;unfold Oper.wp execOp;simp only[ho,resolve,invoke,builtin,Sem.run_bind,Sem.run_pure,Result.andThen_ok,List.map_toArray,List.map_cons,List.map_nil,hs,hx,r];exact hK _ _ (h v' w' b d f l q)
end Go.Proofs.Ytcoajjdhkhgfdaa

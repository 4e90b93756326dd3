/- Roots, program side: lists of whole polynomials; counter. -/
import Derived.Test.YtcoajjdhkhgfdaaPk37
namespace Go.Proofs.Ytcoajjdhkhgfdaa
set_option maxRecDepth 100000
set_option maxHeartbeats 1000000
open Go.RowKit Go.Shelf
set_option linter.unusedVariables false
set_option linter.unusedSimpArgs false
def slK:EK (Option Addr×Nat×Nat) where
 ik:= .u32
 sz:=1
 pos:=by decide
 small:=by decide
 rd w cs x:=cs=[.slice x.1 x.2.1 x.2.2]
 len:=by rintro w cs a rfl;rfl
 one:=by rintro w cs a rfl u hu;simp only[List.mem_cons,List.not_mem_nil,or_false]at hu;subst hu;rfl
 ni:=by rintro w cs a rfl u hu;simp only[List.mem_cons,List.not_mem_nil,or_false]at hu;subst hu;exact qAF _ _ _
 kp:=by rintro w W cs a rfl hk;rfl
def slV (x:Option Addr×Nat×Nat):Value:= .slice x.1 x.2.1 x.2.2
def RowsE {α:Type} (K:EK α) (e e2:TypeId) (base:Nat) (W:World) (vo:Value) (L:List (List α)):Prop:=
 ∃xs:List (Option Addr×Nat×Nat),xs.length=L.length/\RowE slK e2 base W vo xs/\∀i (h1:i<xs.length) (h2:i<L.length),RowE K e 0 W (slV xs[i]) L[i]
theorem RowsE.le {α:Type} {K:EK α} {e e2:TypeId} {base:Nat} {W V:World} {vo:Value} {L:List (List α)} (h:RowsE K e e2 base W vo L) (hb:Le W V):RowsE K e e2 base V vo L:=by
 obtain⟨g,c,d,f⟩:=h;exact⟨g,c,d.le hb,λi a b=>(f i a b).le hb⟩
theorem RowsE.slice {α:Type} {K:EK α} {e e2:TypeId} {base:Nat} {W:World} {vo:Value} {L:List (List α)} (h:RowsE K e e2 base W vo L):∃A c,vo= .slice A L.length c:=by
 obtain⟨g,b,d,f⟩:=h;obtain⟨A,c,rfl⟩:=d.slice;exact⟨A,c,by rw[b]⟩
theorem RowsE.at {α:Type} {K:EK α} {e e2:TypeId} {base:Nat} {W:World} {vo:Value} {L:List (List α)} (h:RowsE K e e2 base W vo L) {j:Nat} (hj:j<L.length):
  ∃g c A n d,vo= .slice (some ⟨g,0,none⟩) L.length c/\base<=g/\g<W.heap.size/\W.cell? ⟨g,j,none⟩=some (.slice A n d)/\RowE K e 0 W (.slice A n d) L[j]:=by
 obtain⟨i,p,q,r⟩:=h;have b:j<i.length:=by omega
 obtain⟨g,c,rfl,s,v,-,-,m,k,t⟩:=q.at b;have f:m=[.slice i[j].1 i[j].2.1 i[j].2.2]:=k;subst f;have l:=t 0 _ rfl;have o:j*slK.sz+0=j:=by show j*1+0=j;omega
 rw[o]at l;exact⟨g,c,_,_,_,by rw[p],s,v,l,r j b hj⟩
theorem RowE.mk1 {α:Type} {K:EK α} {e:TypeId} {base:Nat} {w:World} {g:Nat} {cs:List Value} {a:α} (h:w.heap[g]? =some (.cells cs.toArray e)) (hb:base<=g) (hr:K.rd w cs a):RowE K e base w (.slice (some ⟨g,0,none⟩) 1 1) [a]:=
 ⟨[cs],rfl,⟨by simp[K.len hr],.inr ⟨g,1,cs.toArray,rfl,hb,h,Nat.le_refl _,by decide,by simp[K.len hr],by simp[List.take_of_length_le (Nat.le_of_eq (K.len hr))]⟩⟩,λg' cur t hg hc u hu=>by
  have e1:g=g':=by simpa[Value.ownBlock]using hg
  subst e1;rw[h]at hc;injection hc with hc;injection hc with hc1 hc2;subst hc1
  exact K.ni hr u (by simpa using hu),λj b=>by
  have:j=0:=by simp at b;omega
  subst this
  exact hr⟩
theorem RowE.tag {α:Type} {K:EK α} {e:TypeId} {base:Nat} {w:World} {v:Value} {xs:List α} (h:RowE K e base w v xs) {g:Nat} (hg:v.ownBlock=some g):∃cur,w.heap[g]? =some (.cells cur e):=by
 obtain⟨b,d,c,f,i⟩:=h
 rcases c.2 with⟨rfl,-⟩| ⟨g',cap,cur,rfl,hbg,hg',-⟩
 ·cases hg
 ·have:g'=g:=by simpa[Value.ownBlock]using hg
  subst this;exact⟨cur,hg'⟩
theorem RowsE.mk1 {α:Type} {K:EK α} {e e2:TypeId} {base:Nat} {w:World} {g:Nat} {A:Option Addr} {n c:Nat} {l:List α} (h:w.heap[g]? =some (.cells #[.slice A n c] e2)) (hb:base<=g) (hl:RowE K e 0 w (.slice A n c) l):RowsE K e e2 base w (.slice (some ⟨g,0,none⟩) 1 1) [l]:=
 ⟨[(A,n,c)],rfl,RowE.mk1 (cs:=[.slice A n c]) h hb rfl,λi h1 h2=>by
  have:i=0:=by simp at h1;omega
  subst this
  exact hl⟩
theorem RowsE.append {α:Type} {K:EK α} (hik:K.ik= .u32) {P:Program} {e e2:TypeId} (hne:e≠e2) {base:Nat} {w:World} {v:Value} {L:List (List α)} (h:RowsE K e e2 base w v L) {ops:Array Oper} {rest:List Oper} {o:Oper} {a:Act} {Q:Exit->Act->World->Prop} (hgd:o.guard=none) (s x:Operand) (t:TypeId)
  (ho:o.op= .call {callee:= .builtin .append,args:=#[s,x],argTypes:=#[t,t]}) (ht:P.underlying t=some (.slice e2)) (hinfo:(P.info? e2).map (λi=>(i.zero,i.size,i.bytes))=some (some (.slice none 0 0),1,24))
  (hs:a.eval s=v) (B:Nat) (hx:a.eval x= .slice (some ⟨B,0,none⟩) 1 1) {A:Option Addr} {n c:Nat} {l:List α} (hl:RowE K e 0 w (.slice A n c) l) (hc:w.cell? ⟨B,0,none⟩=some (.slice A n c))
  (hlen:L.length<=1000000) (hbase:base<=w.heap.size)
  (hQ:∀v' w',RowsE K e e2 base w' v' (L++[l])->Below base w w'->Kp .u32 w w'->(∀(g:Nat) (cur:Array Value),w.heap[g]? =some (Obj.cells cur e)->w'.heap[g]? =w.heap[g]?)->wpList P ops Q rest (a.put o.dst v') w'):wpList P ops Q (o::rest) a w:=by
 obtain⟨m,z,C,G⟩:=h;refine RowE.append (K:=slK) C hgd s x t ho 24 (.slice none 0 0) (by decide) ht hinfo rfl (λj N=>?_) hs B hx (cs:=[.slice A n c]) (y:=(A,n,c)) rfl (λi u D=>?_) (by omega) hbase ?_
 ·have:j=0:=by have:slK.sz=1:=rfl;omega
  subst this;exact qAF _ _ _
 ·have q:i<1:=by simpa using(List.getElem?_eq_some_iff.1 D).1
  have:i=0:=by omega
  subst this;simpa using hc.trans (by simpa using D)
 ·intro v' w' J q2 E O M
  have f:∀(g:Nat) (cur:Array Value),w.heap[g]? =some (Obj.cells cur e)->w'.heap[g]? =w.heap[g]? :=λg cur k=>by
   refine M.block g (gsl k) λI=>?_;obtain⟨r,d⟩:=C.tag I.symm;rw[k]at d;injection d with d;injection d with h91 h92;exact hne h92
  have b:∀{v9:Value} {l9:List α},RowE K e 0 w v9 l9->RowE K e 0 w' v9 l9:=λd=>d.keep (by rw[hik];exact E) λg k=>by
   obtain⟨cur,p⟩:=d.tag k;exact f g cur p
  refine hQ v' w' ⟨m++[(A,n,c)],by simp[z],J,λi H p=>?_⟩ q2 E f
  by_cases q:i<m.length
  ·rw[List.getElem_append_left q,List.getElem_append_left (by omega)];exact b (G i q (by omega))
  ·have:i=m.length:=by simp at H;omega
   subst this;have F:(L++[l])[m.length]'p=l:=by rw[List.getElem_append_right (by omega)];simp[z]
   rw[F];simp only[List.getElem_append_right (Nat.le_refl _),Nat.sub_self];exact b hl
def chgK (ss:List Int):Nat->Nat×Int
 | 0=>(0,0)
 | k+1=>let p:=chgK ss k;let s:=ss.getD k 0;(if s*p.2<0 then p.1+1 else p.1,if s=0 then p.2 else s)
def chgN (ss:List Int):Nat:=(chgK ss ss.length).1
theorem qGv (ss:List Int):∀k,(chgK ss k).1<=k
 | 0=>Nat.le_refl _
 | k+1=>by
  have:=qGv ss k;unfold chgK;dsimp only
  split<;>omega
theorem qFx {ss:List Int} (h:∀s∈ss,-1<=s/\s<=1):∀k,-1<=(chgK ss k).2/\(chgK ss k).2<=1
 | 0=>by unfold chgK;decide
 | k+1=>by
  have ih:=qFx h k;unfold chgK;dsimp only
  split
  ·exact ih
  ·rw[List.getD_eq_getElem?_getD]
   cases e:ss[k]? with
   | none=>decide
   | some s=>exact h s (List.mem_of_getElem? e)
theorem qDz (g:FuncId) (cap:Array Value) (sg:List Int->Int) (L:List (List Int)) (vl:Value) (B:Nat) (tB:TypeId) (w:World) (kB:w.heap[B]? =some (.cells #[vl] tB)) (hL:RowsE intK 84 75 0 w vl L) (hl:L.length<=1000) (hg:qA8 Try.prog g) (hs:∀l∈L,-1<=sg l/\sg l<=1)
  (hf:∀W,Le w W->∀l∈L,∀A n c,RowE intK 84 0 W (.slice A n c) l->Calls Try.prog g (#[]++#[.slice A n c]++cap) W (λe W'=>e= .returned (.int .i64 (sg l))/\Le W W')):
  Calls Try.prog 34 #[.func (.func g) #[] cap,.pointer (some ⟨B,0,none⟩)] w λe w'=>e= .returned (.int .i64 (chgN (L.map sg):Int))/\Le w w':=by
 obtain⟨LA,lc,rfl⟩:=hL.slice;obtain⟨n,Z⟩:∃n,L.length=n:=⟨_,rfl⟩;obtain⟨r,C⟩:∃l,L.map sg=l:=⟨_,rfl⟩;have T:r.length=n:=by rw[<-C,List.length_map,Z]
 have Q:∀s∈r,-1<=s/\s<=1:=λs h=>by
  rw[<-C,List.mem_map]at h;obtain⟨l,h1,rfl⟩:=h;exact hs l h1
 rw[C];rw[Z]at kB hL hl;have av:=gsl kB;have b0:w.cell? ⟨B,0,none⟩=some (.slice LA n lc):=cell_of_row w B 0 _ _ _ kB;unfold qA8 at hg;have⟨a0,aa,P,V,U,af,R,ab⟩:=hyd8 kB hL Z C T hs Q hf;clear hf Q hs T C Z hL kB;go_enter Try.func34,Try.ntmps34;go_wp2_with (fail);go_loopw [4,5,11] (λnn la i wr=>∃k:Nat,i= .int .i64 (k:Int)/\k<=n/\nn= .int .i64 ((chgK r k).1:Int)/\la= .int .i64 (chgK r k).2/\Hid (Below w.heap.size w wr)) (λ_ _ i _=>n - (intOf i).toNat)
 case atStart=>exact⟨0,rfl,Nat.zero_le _,rfl,rfl,Lib.hid (Below.refl _ _)⟩
 case round=>
  obtain⟨k,rfl,hk,rfl,rfl,M⟩:=hrel
  by_cases ac:k<n
  ·have E:k<L.length:=by rw[P.out];exact ac
   obtain⟨gl,c',A,m,d,Y,-,aw,x0,y⟩:=(aa.out.le M.out).at E;rw[P.out]at Y;injection Y with Y e2 e3;subst Y e3;clear e2;have kc:=ab.out wr M.out L[k] (List.getElem_mem E) A m d y;obtain⟨s,z⟩:∃s,sg L[k]=s:=⟨_,rfl⟩;rw[z]at kc;have J:r.getD k 0=s:=by rw[<-V.out,List.getD_eq_getElem?_getD,List.getElem?_map,List.getElem?_eq_getElem E,Option.map_some,z];rfl
   have S:=af.out L[k] (List.getElem_mem E);rw[z]at S;have G:=qFx R.out k;have N:=qGv r k;have v:chgK r (k+1)=(if s*(chgK r k).2<0 then(chgK r k).1+1 else(chgK r k).1,if s=0 then(chgK r k).2 else s):=by rw[<-J];rfl
   generalize chgK r k=cp at G N v ⊢;obtain⟨cn,X⟩:=cp;dsimp only at G N v ⊢;obtain⟨pr,I⟩:∃p,s*X=p:=⟨_,rfl⟩
   have ad: -1<=pr/\pr<=1:=by
    rw[<-I]
    rcases(by omega:s= -1∨s=0∨s=1)with rfl|rfl|rfl<;>rcases(by omega:X= -1∨X=0∨X=1)with h|h|h<;>rw[h]<;>decide
   obtain⟨ax,ay⟩:=ad;obtain⟨an,ao⟩:=S;obtain⟨ak,al⟩:=G;rw[I]at v;have j1:(k:Int)<(n:Int):=by omega
   have j2:(0:Int)<=(k:Int):=by omega
   have⟨ae,ai,am,ap,x,D⟩:=hyd6 y kc z J v M;clear M v J z kc y;go_wp2_with (fail);refine ai.out.mono ?_;rintro e W1 ⟨rfl,o⟩;have t:Below w.heap.size w W1:=D.out.out.trans (o.mono D.out.out.size)
   by_cases H:pr<0
   ·have q:¬s=0:=λh=>by rw[h]at I;omega
    have ag:(s==0)=false:=by simpa using q
    have b:=x.out;rw[if_pos H,if_neg q]at b;have⟨F,j,f⟩:=hyd3 o t b;clear b t o;go_wp2;go_roundw
    case rel=>exact⟨k+1,by go_num,by omega,by rw[f.out];go_num,by rw[f.out],j⟩
    case measure=>simp[intOf];omega
   ·by_cases q:s=0
    ·have b:=x.out;rw[if_neg H,if_pos q]at b;subst q;have⟨F,j,f⟩:=hyd3 o t b;clear b t o;go_wp2;go_roundw
     case rel=>exact⟨k+1,by go_num,by omega,by rw[f.out],by rw[f.out],j⟩
     case measure=>simp[intOf];omega
    ·have ag:(s==0)=false:=by simpa using q
     have b:=x.out;rw[if_neg H,if_neg q]at b;have⟨F,j,f⟩:=hyd3 o t b;clear b t o;go_wp2;go_roundw
     case rel=>exact⟨k+1,by go_num,by omega,by rw[f.out],by rw[f.out],j⟩
     case measure=>simp[intOf];omega
  ·obtain rfl:k=n:=by omega
   have j1:¬(k:Int)<(k:Int):=by omega
   have O:(chgK r k).1=chgN r:=by unfold chgN;rw[U.out]
   rw[O];have D:=hyd1 M;clear M;go_wp2;go_ret;exact⟨rfl,D.out.out⟩
end Go.Proofs.Ytcoajjdhkhgfdaa

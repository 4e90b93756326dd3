/- A list in a box, appended to by the body of a range over a function. math/bits.Mul; slices.Repeat at spans. The reference's joined: ranges and one more. -/
import Derived.Test.YtabfaobakmjiaaaGreatPx10
import Derived.Deep.RegionLaw
import Derived.Laws.MakeOwn
namespace Go.Proofs.YtabfaobakmjiaaaGreat
set_option maxRecDepth 100000
open Go.RowKit Go.Shelf
set_option linter.unusedVariables false
set_option linter.unusedSimpArgs false
theorem qJz {W W':World} {row:Option Nat} {base e n size:Nat} {v:Value} {xs:List Value} (h:W.ownsRow base e size v n xs) (hg:W.grownBy W' row) (hr:∀r,row=some r->∃o:Obj,W.heap[r]? =some o/\o.isCells=false):W'.ownsRow base e size v n xs:=
 qF4 h λk o hk hc=>(hg.block k (gsl hk) (λe=>by
  obtain⟨o',ho',hc'⟩:=hr k e.symm;rw[hk]at ho'
  cases ho'
  rw[hc]at hc'
  cases hc')).trans hk
set_option maxHeartbeats 1000000
open Go.RowKit
theorem qRn (n:Nat) (hn:n<=1000000) (w:World):Calls Tryz.prog 150 #[.int .u64 1,.int .u64 (n:Int)] w λe w'=>e= .returned (.tuple #[.int .u64 0,.int .u64 (n:Int)])/\w=w':=by
 have c:=λW=>qQU n hn W;have b:=hyd1 c;clear c;go_enter Tryz.func150,Tryz.ntmps150;go_wp2_with (first | (go_at_call 189;((with_reducible refine(b.out _).mono ?_);rintro e w' ⟨rfl,rfl⟩)));go_ret2;exact⟨rfl,rfl⟩
theorem qGq {P:Program} (w:World) {ops:Array Oper} {rest:List Oper} {o:Oper} {a:Act} {Q:Exit->Act->World->Prop} (hg:o.guard=none) (l c:Operand) (t:TypeId) (hop:o.op=Op.makeSlice t l c) (e:TypeId) (z:Value) (sz bytes:Nat)
  (ht:P.underlying t=some (.slice e)) (hi:(P.info? e).map (λi=>(i.zero,i.size,i.bytes))=some (some z,sz,bytes)) (hb5:bytes<=1000) (n:Nat) (hl:a.eval l= .int .i64 (n:Int)) (hc:a.eval c= .int .i64 (n:Int)) (hn:n<=1000000)
  (hK:∀w',Hid (w'.heap[w.heap.size]? =some (.cells (madeCells z.cells (n*sz)) e))->Below w.heap.size w w'->wpList P ops Q rest (a.put o.dst (.slice (some ⟨w.heap.size,0,none⟩) n n)) w'):wpList P ops Q (o::rest) a w:=by
 obtain⟨i,g,k,j,p⟩:=info_parts hi;refine wpList_plain hg λm d=>?_
 have f:(i.bytes:Int)*(n:Int)<=281474976710656:=by
  have:i.bytes*n<=1000*1000000:=Nat.mul_le_mul (by omega) hn;have h:((i.bytes*n:Nat):Int)<=281474976710656:=by omega
  rwa[Int.natCast_mul]at h
 have b:=run_make (P:=P) w t e i z ht g k .i64 .i64 (n:Int) (n:Int) (by omega) (Int.le_refl _) f (by omega);rw[Int.toNat_natCast,j]at b;unfold Oper.wp;simp[execOp,hop,hl,hc,b,Result.andThen];exact d _ _ (hK _ (qCH _ _) (alc1 _ _))
theorem qNv {P:Program} {ops:Array Oper} {o:Oper} {a:Act} {w:World} {K:Act->World->Prop} {Q:Exit->Act->World->Prop} {E:Prop} (hgd:o.guard=none) (d s:Operand) (dT sT:TypeId)
  (ho:o.op= .call {callee:= .builtin .copy,args:=#[d,s],argTypes:=#[dT,sT]}) (elem:TypeId) (hu:P.underlying dT=some (.slice elem)) (sz:Nat) (hsz:(P.info? elem).map (·.size)=some sz)
  (g off dLen dCap:Nat) (ad:Addr) (sLen sCap:Nat) (hd:a.eval d= .slice (some ⟨g,off,none⟩) dLen dCap) (hs:a.eval s= .slice (some ad) sLen sCap)
  (cur:List Value) (t:TypeId) (hg:w.heap[g]? =some (.cells cur.toArray t (0,0))) (n:Nat) (hmin:Nat.min sLen dLen=n) (cs:List Value) (hn:cs.length=n*sz)
  (hsrc:∀j v,cs[j]? =some v->w.cell? (ad.add j)=some v) (hfit:off+cs.length<=cur.length) (h1:∀v∈cs,v.oneCell'=true)
  (h:∀w',Hid (w'.heap[g]? =some (.cells (splice cur off cs).toArray t (0,0)))->Below g w w'->K (a.put o.dst (.int .i64 (n:Int))) w'):
  if Region.wanted o (yielded ops a.tmps)=true then Oper.wp P o a w K Q else E:=by
 have c:Region.wanted o (yielded ops a.tmps)=true:=by simp[Region.wanted,hgd]
 rw[if_pos c];have b:=qG2 (P:=P) w dT sT o.type elem sz g off dLen dCap ad sLen sCap cur.toArray t cs hu hsz hg (by rw[hmin];exact hn) hsrc (by simpa using hfit) h1;rw[hmin]at b;unfold Oper.wp;simp[execOp,ho,resolve,invoke,builtin,hd,hs,b,Result.andThen];refine h _ ?_ (below_setRow (Below.refl _ _) (Nat.le_refl _) _);show _=_;simpa[splice]using setRow_heap w g _ _ t _ hg
theorem qRo (n:Nat):madeCells #[.int .i64 0,.int .i64 0] (n*2)=(qAv (0,0) n).toArray :=by
 apply Array.ext';apply List.ext_getElem
 ·simp[madeCells,qBL]
 ·intro i h c;simp[madeCells,Value.cells]
  have g:∀v∈qAv (0,0) n,v= .int .i64 0:=by
   intro v b;unfold qAv at b;rw[List.mem_flatMap]at b;obtain⟨x,f,b⟩:=b;obtain rfl:=List.eq_of_mem_replicate f;simpa[qAE]using b
  have d:=g _ (List.getElem_mem c);rw[show(qAv (0,0) n).toArray.toList[i]=Value.int .i64 0 from d];have:i%2=0∨i%2=1:=by omega
  rcases this with e|e<;>simp[e]
theorem qQ1:(Tryz.prog.info? 115).map (λi=>(i.zero,i.size,i.bytes))=some (some (.agg #[.int .i64 0,.int .i64 0]),2,16):=by kernel_rfl
theorem qLU:(Tryz.prog.info? 115).map (·.size)=some 2:=by kernel_rfl
theorem qPC (X n:Nat) (s:Spn) (w:World) (h0:0<n) (hn:n<=1000) (hX:X<w.heap.size) (hk:w.heap[X]? =some (.cells #[.int .i64 s.1,.int .i64 s.2] 115)):
  Calls Tryz.prog 93 #[.slice (some ⟨X,0,none⟩) 1 1,.int .i64 (n:Int)] w λe w'=>e= .returned (.slice (some ⟨w.heap.size,0,none⟩) n n)/\Below w.heap.size w w'/\w'.heap[w.heap.size]? =some (.cells ((List.replicate n s).flatMap qAE).toArray 115):=by
 have hm:=λW=>qRn n (by omega) W;have j1:¬(n:Int)<0:=by omega
 have j2:(0:Int)<=(n:Int):=by omega
 have j3:(n:Int)<=1000:=by omega
 have j4:¬(9223372036854775807:Int)<(n:Int):=by omega
 have⟨U,T⟩:=hyd2 hm hk;clear hk hm;go_enter Tryz.func93,Tryz.ntmps93;go_wp2_with (first | (go_at_call 150;((with_reducible refine(U.out _).mono ?_);rintro e w' ⟨rfl,rfl⟩))| (at_make;go_must (refine qGq _ rfl _ _ 110 rfl 115 _ 2 16 Tryz.underlying110 qQ1 (by decide) n rfl rfl (by omega) ?_)));intro w1 Q g;have I:w1.heap[w.heap.size]? =some (.cells (qAv (0,0) n).toArray 115):=by rw[Q.out,qRo]
 have r:=blk g T.out;obtain⟨x0,x1⟩:=pc2 r;have ao:X≠w.heap.size:=by omega
 clear Q;have⟨J,D,ag⟩:=hyd3 I g r;clear r g I;generalize hG:w.heap.size=G at*;go_wp2_with (first |refine qLM rfl (.tmp 31) (.tmp 32) _ _ rfl 115 Tryz.underlying110 2 qLU G 0 n n ⟨X,0,none⟩ 1 1 rfl rfl (qAv (0,0) n) 115 J.out 1 (Nat.min_eq_left (by omega)) (qAE s) rfl ?_ (by rw[qBL];show 0+2<=_;omega) (by simp[qAE,Value.oneCell']) ?_)
 ·intro j v P;have hj:j<2:=(List.getElem?_eq_some_iff.1 P).1;have b:(⟨X,0,none⟩:Addr).add j=⟨X,j,none⟩:=by unfold Addr.add;split<;>simp_all
  rw[b];have:j=0∨j=1:=by omega
  rcases this with rfl|rfl
  ·rw[x0];simpa[qAE]using P
  ·rw[x1];simpa[qAE]using P
 intro R p i
 have L:R.heap[G]? =some (.cells (repS s 1 n).toArray 115):=by
  have h:=p.out;rw[<-qOv s,show qAv (0,0) n=repS s 0 n from by unfold repS;rw[Nat.sub_zero];simp[qAv],show(0:Nat)=0*2 from rfl,qHd (by omega)]at h;simpa using h
 have E:Below G w R:=D.out.trans i;have z:Below G w R/\R.heap[G]? =some (.cells (repS s 1 n).toArray 115):=⟨E,L⟩;clear x0 x1 L E;have⟨A,af,ac⟩:=hyd3 z p i;clear i p z;go_wp2;go_loopw [8] (λnx wr=>∃m:Nat,1<=m/\m<=n/\nx= .int .i64 (m:Int)/\Hid (Below G w wr/\wr.heap[G]? =some (.cells (repS s m n).toArray 115))) (λnx _=>n - (intOf nx).toNat)
 case atStart=>exact⟨1,by omega,by omega,rfl,A⟩
 case round=>
  obtain⟨m,V,an,rfl,y⟩:=hrel
  by_cases am:m<n
  ·obtain⟨F,t⟩:=y.out;obtain⟨q,hq,Z,O⟩:∃q,Nat.min m (n - m)=q/\q<=m/\m+q<=n:=⟨_,rfl,Nat.min_le_left _ _,by have h:Nat.min m (n - m)<=n - m:=Nat.min_le_right m (n - m);have h2:m+(n - m)=n:=(by omega);exact Nat.le_trans (Nat.add_le_add_left h m) (Nat.le_of_eq h2)⟩;have ap:1<=q:=by rw[<-hq];exact Nat.le_min.2 ⟨V,by omega⟩
   have e1:(m:Int)<(n:Int):=by omega
   have e2:(0:Int)<=(m:Int):=by omega
   have e3:(m:Int)<=(n:Int):=by omega
   have e4:(m:Int)+(q:Int)<=1000:=by omega
   have e6:IntKind.i64.wrap ((m:Int)+(q:Int))=(m:Int)+(q:Int):=by rw[IntKind.wrap_i64];omega
   have d:∀j v,(qAv s q)[j]? =some v->wr.cell? ((⟨G,0,none⟩:Addr).add j)=some v:=by
    intro j v P;have b:(⟨G,0,none⟩:Addr).add j=⟨G,j,none⟩:=by unfold Addr.add;split<;>simp_all
    have h:=qQT (N:=n) Z P;rw[b];simp only[World.cell?,t];simpa using h
   have c:m*2+(qAv s q).length <=(repS s m n).length :=by rw[qBL,qM5 (by omega)];omega
   have⟨f,H,M,Y,x,l,S⟩:=hyd7 y F t hq d c e6;clear e6 c d hq t F y;go_wp2_with (fail);go_region_law (refine qNv rfl (.tmp 41) (.tmp 44) _ _ rfl 115 Tryz.underlying110 2 qLU G (m*2) (n - m) (n - m) ⟨G,0,none⟩ m n (by simp[Act.eval,Act.put];omega) (by simp[Act.eval,Act.put]) (repS s m n) 115 M.out q Y.out (qAv s q) (qBL s q) x.out l.out (qM4 s q) ?_;intro w4 o k);have B:Below G w w4/\w4.heap[G]? =some (.cells (repS s (m+q) n).toArray 115):=⟨(qAL H.out 1).trans k,by rw[<-qHd O];exact o.out⟩;have⟨C,ae,ad⟩:=hyd3 B o k;clear k o B;go_wp2;simp only[S.out];go_roundw
   case rel=>exact⟨m+q,by omega,O,by go_num,C⟩
   case measure=>simp[intOf];omega
  ·obtain rfl:m=n:=by omega
   have f:=hyd1 y;clear y;go_wp2;go_ret;subst hG;exact⟨rfl,f.out.out.1,by rw[<-qOw];exact f.out.out.2⟩
theorem qAF {w:World} {base e size n:Nat} {v:Value} {xs:List Value} (h:w.ownsRow base e size v n xs):∃A c,v= .slice A n c:=by
 rcases h.2 with⟨rfl,rfl⟩| ⟨g,cap,cur,rfl,_⟩
 ·exact⟨none,0,rfl⟩
 ·exact⟨_,cap,rfl⟩
def SpB (L:List Spn):Prop:=∀s∈L,(-2000000000000<=s.1/\s.1<=2000000000000)/\(-2000000000000<=s.2/\s.2<=2000000000000)
theorem qQ2 (L:List Spn) (x:Spn):(L++[x]).flatMap qAE=L.flatMap qAE++[.int .i64 x.1,.int .i64 x.2]:=by rw[List.flatMap_append];simp[qAE]
theorem qE1 {P:Program} (w:World) {ops:Array Oper} {rest:List Oper} {o:Oper} {a:Act} {Q:Exit->Act->World->Prop} (hgd:o.guard=none) (s x:Operand) (t:TypeId)
  (ho:o.op= .call {callee:= .builtin .append,args:=#[s,x],argTypes:=#[t,t]})
  (base:Nat) (e:TypeId) (ht:P.underlying t=some (.slice e)) (hinfo:(P.info? e).map (λi=>(i.zero,i.size,i.bytes))=some (some (.agg #[.int .i64 0,.int .i64 0]),2,16))
  (v:Value) (L:List Spn) (hs:a.eval s=v) (hown:w.ownsRow base e 2 v L.length (L.flatMap qAE))
  (B:Nat) (y:Spn) (hx:a.eval x= .slice (some ⟨B,0,none⟩) 1 1) (hc0:w.cell? ⟨B,0,none⟩=some (.int .i64 y.1)) (hc1:w.cell? ⟨B,1,none⟩=some (.int .i64 y.2)) (hlen:L.length<=1000000) (hbase:base<=w.heap.size)
  (h:∀v' w',w'.ownsRow base e 2 v' (L++[y]).length ((L++[y]).flatMap qAE)->(∀n,n<=base->Below n w w')->(∀k,v'.ownBlock=some k->v.ownBlock=some k∨w.heap.size<=k)->wpList P ops Q rest (a.put o.dst v') w'):wpList P ops Q (o::rest) a w:=by
 obtain⟨z,d,f,g,l⟩:=info_parts hinfo;refine qDI w hgd s x t ho base e z _ 2 16 ht d f g l rfl (by decide) v L.length (L.flatMap qAE) hs hown ⟨B,0,none⟩ 1 1 [.int .i64 y.1,.int .i64 y.2] hx rfl (λj u b=>?_) (λu b=>?_) (by unfold maxLen;omega) (by omega) hbase ?_
 ·have r:j<2:=(List.getElem?_eq_some_iff.1 b).1;have c:(⟨B,0,none⟩:Addr).add j=⟨B,j,none⟩:=by unfold Addr.add;split<;>simp_all
  rw[c]
  match j,r with
  | 0,_=>rw[hc0];simpa using b
  | 1,_=>rw[hc1];simpa using b
 ·simp at b;rcases b with rfl|rfl<;>rfl
 ·intro v' w' m p q;refine h v' w' (by rw[qQ2,show(L++[y]).length =L.length+1 by simp];exact m) (λn A=>?_) q;exact Below.grown (Below.refl n w) p (by omega) (λk e=>by have:=(hown.lt k e).1;omega)
end Go.Proofs.YtabfaobakmjiaaaGreat

/- Copying rows of structs; slices.Repeat at spans. The bases of a mount: a map from cuts to rows of ranges, in memory. -/
import Derived.Test.YtabfaobakmjiaaaGreatPy06
import Derived.Lib.Mul64
import Derived.Laws.Bits64b
import Derived.Maps.OwnSet
import Derived.Maps.OwnOps
import Derived.Maps.RangeWalk
namespace Go.Proofs.YtabfaobakmjiaaaGreat
set_option maxRecDepth 100000
open Go.RowKit
set_option linter.unusedVariables false
set_option linter.unusedSimpArgs false
theorem qGD {P:Program} (w:World) (dT sT ty elem:TypeId) (sz g o dLen dCap:Nat) (a:Addr) (sLen sCap:Nat) (cur:Array Value) (t:TypeId) (cs:List Value)
  (hu:P.underlying dT=some (.slice elem)) (hs:(P.info? elem).map (·.size)=some sz)
  (hg:w.heap[g]? =some (.cells cur t (0,0))) (hn:cs.length=Nat.min sLen dLen*sz)
  (hsrc:∀j v,cs[j]? =some v->w.cell? (a.add j)=some v) (hfit:o+cs.length<=cur.size) (h1:∀v∈cs,v.oneCell'=true):
  (Builtin.copy_ #[dT,sT] ty #[.slice (some ⟨g,o,none⟩) dLen dCap,.slice (some a) sLen sCap]).run P w=
   .ok (goInt (Nat.min sLen dLen)) (w.setRow g (cur.toList.take o++cs++cur.toList.drop (o+cs.length)).toArray):=by
 have d:=run_loadCells_list (P:=P) w a cs hsrc;have b:=run_storeCells_at P g o t cs 0 cur w hg (by simpa using hfit) h1
 cases hq:P.info? elem with
 | none=>simp[hq]at hs
 | some i=>
  have c:i.size=sz:=by simpa[hq]using hs
  simp[Builtin.copy_,run_underlying hu,Builtin.lenOf,Builtin.firstCells,sizeOf,typeInfo,hq,c,<-hn,d,b]
theorem qK7 {P:Program} {w:World} {ops:Array Oper} {rest:List Oper} {o:Oper} {a:Act} {Q:Exit->Act->World->Prop} (hgd:o.guard=none) (d s:Operand) (dT sT:TypeId)
  (ho:o.op= .call {callee:= .builtin .copy,args:=#[d,s],argTypes:=#[dT,sT]}) (elem:TypeId) (hu:P.underlying dT=some (.slice elem)) (sz:Nat) (hsz:(P.info? elem).map (·.size)=some sz)
  (g off dLen dCap:Nat) (ad:Addr) (sLen sCap:Nat) (hd:a.eval d= .slice (some ⟨g,off,none⟩) dLen dCap) (hs:a.eval s= .slice (some ad) sLen sCap)
  (cur:List Value) (t:TypeId) (hg:w.heap[g]? =some (.cells cur.toArray t (0,0))) (n:Nat) (hmin:Nat.min sLen dLen=n) (cs:List Value) (hn:cs.length=n*sz)
  (hsrc:∀j v,cs[j]? =some v->w.cell? (ad.add j)=some v) (hfit:off+cs.length<=cur.length) (h1:∀v∈cs,v.oneCell'=true)
  (h:∀w',Hid (w'.heap[g]? =some (.cells (splice cur off cs).toArray t (0,0)))->Below g w w'->wpList P ops Q rest (a.put o.dst (.int .i64 (n:Int))) w'):
  wpList P ops Q (o::rest) a w:=by
 refine wpList_plain hgd λK hK=>?_;have b:=qGD (P:=P) w dT sT o.type elem sz g off dLen dCap ad sLen sCap cur.toArray t cs hu hsz hg (by rw[hmin];exact hn) hsrc (by simpa using hfit) h1;rw[hmin]at b;unfold Oper.wp;simp[execOp,ho,resolve,invoke,builtin,hd,hs,b,Result.andThen];refine hK _ _ (h _ ?_ (below_setRow (Below.refl _ _) (Nat.le_refl _) _));show _=_;simpa[splice]using setRow_heap w g _ _ t _ hg
def qAl (s:Spn) (n:Nat):List Value:=(List.replicate n s).flatMap qAD
theorem qBE (s:Spn) (n:Nat):(qAl s n).length =n*2:=by unfold qAl;rw[qCG (k:=2) (λ_=>rfl)];simp
theorem qGT (s:Spn) (m n:Nat):qAl s (m+n)=qAl s m++qAl s n:=by unfold qAl;rw[<-List.flatMap_append,List.replicate_append_replicate]
theorem qOL (s:Spn):qAl s 1=qAD s:=by unfold qAl;simp
theorem qLp (s:Spn) (n:Nat):∀v∈qAl s n,v.oneCell'=true:=by
 intro v b;unfold qAl at b;rw[List.mem_flatMap]at b;obtain⟨x,-,b⟩:=b;simp[qAD]at b
 rcases b with rfl|rfl<;>rfl
def repS (s:Spn) (m N:Nat):List Value:=qAl s m++qAl (0,0) (N - m)
theorem qLq {s:Spn} {m N:Nat} (h:m<=N):(repS s m N).length =N*2:=by unfold repS;rw[List.length_append,qBE,qBE,<-Nat.add_mul];congr 1;omega
theorem qHI {s:Spn} {m N k:Nat} (h:m+k<=N):splice (repS s m N) (m*2) (qAl s k)=repS s (m+k) N:=by
 unfold splice repS;have e:N - m=k+(N - (m+k)):=by omega
 have b:(qAl s m++qAl (0,0) k).length =(m+k)*2:=by rw[List.length_append,qBE,qBE,<-Nat.add_mul]
 rw[List.take_left' (qBE s m),qBE,<-Nat.add_mul,qGT s m k,e,qGT (0,0),<-List.append_assoc (qAl s m) (qAl (0,0) k),List.drop_left' b,List.append_assoc]
theorem qP7 {s:Spn} {m N k j:Nat} {v:Value} (hk:k<=m) (h:(qAl s k)[j]? =some v):(repS s m N)[j]? =some v:=by
 unfold repS;obtain⟨d,rfl⟩:∃d,m=k+d:=⟨m - k,by omega⟩;have b:=(List.getElem?_eq_some_iff.1 h).1;rw[qGT,List.append_assoc,List.getElem?_append_left b];exact h
theorem qOM (s:Spn) (N:Nat):repS s N N=(List.replicate N s).flatMap qAD:=by unfold repS;rw[Nat.sub_self];unfold qAl;simp
theorem qK8 (a:Nat) (ha:a<18446744073709551616):bits .and .u64 (a:Int) 4294967295=((a%4294967296:Nat):Int):=by
 have h:=bits_and_u64_nat a 4294967295 ha (by omega);have e:a&&& 4294967295=a%4294967296:=Nat.and_two_pow_sub_one_eq_mod a 32;rw[e]at h;exact h
theorem qP8 (n:Nat) (hn:n<=1000000) (w:World):Calls Tryz.prog 189 #[.int .u64 1,.int .u64 (n:Int)] w λe w'=>e= .returned (.tuple #[.int .u64 0,.int .u64 (n:Int)])/\w=w':=by
 have d:bits .and .u64 1 4294967295=1:=qK8 1 (by decide);have c:bits .and .u64 0 4294967295=0:=qK8 0 (by decide);have f:bits .and .u64 (n:Int) 4294967295=(n:Int):=by rw[qK8 n (by omega),Nat.mod_eq_of_lt (by omega)]
 have b:(n:Int) / 4294967296=0:=by omega
 go_enter Tryz.func189,Tryz.ntmps189;go_wp2;go_ret2;exact⟨by simp[d,f,c,b],rfl⟩
def hdD (b n c:Nat):DataW Unit:= .agg [.lit (.int .i64 (b:Int)),.lit (.int .i64 (n:Int)),.lit (.int .i64 (c:Int))]
def hdV:Option (Nat×Nat×Nat)->Value
 | none=> .slice none 0 0
 | some (b,n,c)=> .slice (some ⟨b,0,none⟩) n c
def hdY:Option (Nat×Nat×Nat)->DataW Unit
 | none=> .nil
 | some (b,n,c)=>hdD b n c
def hdR:Value->Option (DataW Unit×List MemPlace)
 | .slice none n c=>if n=0/\c=0 then some (.nil,[])else none
 | .slice (some a) n c=>if a.off=0/\a.spot=none then some (hdD a.block n c,[])else none
 | _=>none
theorem qF9 (x:Option (Nat×Nat×Nat)):hdR (hdV x)=some (hdY x,[]):=by
 cases x with
 | none=>rfl
 | some y=>obtain⟨b,n,c⟩:=y;rfl
theorem qFa {v:Value} {y:DataW Unit×List MemPlace} (h:hdR v=some y):∃x,v=hdV x/\y=(hdY x,[]):=by
 unfold hdR at h
 split at h
 ·rename_i n c
  split at h
  ·rename_i hc;obtain⟨rfl,rfl⟩:=hc;injection h with h;exact⟨none,rfl,h.symm⟩
  ·cases h
 ·rename_i a n c
  split at h
  ·rename_i hc;obtain⟨b,o,e⟩:=a;simp only at hc;obtain⟨rfl,rfl⟩:=hc;injection h with h;exact⟨some (b,n,c),rfl,h.symm⟩
  ·cases h
 ·cases h
theorem qGo {x:Option (Nat×Nat×Nat)} {b n c:Nat} (h:hdY x=hdD b n c):x=some (b,n,c):=by
 cases x with
 | none=>cases h
 | some y=>
  obtain⟨d,k,f⟩:=y;unfold hdY hdD at h;simp at h;obtain⟨l,m,p⟩:=h;have g:d=b:=by omega
  have i:k=n:=by omega
  have j:f=c:=by omega
  rw[g,i,j]
theorem qM3 {x:Option (Nat×Nat×Nat)} (h:hdY x= .nil):x=none:=by
 cases x with
 | none=>rfl
 | some y=>cases h
theorem qER:Maps.Keyed Tryz.prog 3:=Maps.int_keyed Tryz.underlying3
theorem qKO (w:World):(zeroValue 110).run Tryz.prog w= .ok (.slice none 0 0) w:=by kernel_rfl
section
variable {w:World} {ops:Array Oper} {rest:List Oper} {o:Oper} {a:Act} {Q:Exit->Act->World->Prop} {B n:Nat} {D:DataW Unit}
theorem qIk (hg:o.guard=none) (m x:Operand) (hop:o.op=Op.lookup 106 m x false) (hm:a.eval m= .map (some B)) (hown:w.ownsMap Tryz.prog 3 hdR B n D)
  (c:Int) (hx:a.eval x= .int .i64 c) (hc:(Lit.int .i64 c).wf =true) (b l k:Nat) (hat:∀z,D.atKey (.int .i64 c) z=hdD b l k)
  (hK:wpList Tryz.prog ops Q rest (a.put o.dst (.slice (some ⟨b,0,none⟩) l k)) w):wpList Tryz.prog ops Q (o::rest) a w:=by
 refine wpList_plain hg λi f=>?_;obtain⟨v,j,d,g⟩:=hown.lookup qER Tryz.underlying106 (qKO w) (qF9 none) (Maps.keyOf_int_mk Tryz.underlying3 hc);rw[hat]at g;obtain⟨y,rfl,h⟩:=qFa g;obtain rfl:=qGo (congrArg Prod.fst h).symm;unfold Oper.wp;simp[execOp,hop,hm,hx,d,Result.andThen];exact f _ _ hK
theorem qIl (hg:o.guard=none) (m x:Operand) (hop:o.op=Op.lookup 106 m x false) (hm:a.eval m= .map (some B)) (hown:w.ownsMap Tryz.prog 3 hdR B n D)
  (c:Int) (hx:a.eval x= .int .i64 c) (hc:(Lit.int .i64 c).wf =true) (hat:Maps.has D (.int .i64 c)=false)
  (hK:wpList Tryz.prog ops Q rest (a.put o.dst (.slice none 0 0)) w):wpList Tryz.prog ops Q (o::rest) a w:=by
 refine wpList_plain hg λh d=>?_;obtain⟨v,i,b,f⟩:=hown.lookup qER Tryz.underlying106 (qKO w) (qF9 none) (Maps.keyOf_int_mk Tryz.underlying3 hc);rw[Maps.atKey_of_not_has hat]at f;obtain⟨y,rfl,g⟩:=qFa f;obtain rfl:=qM3 (congrArg Prod.fst g).symm;unfold Oper.wp;simp[execOp,hop,hm,hx,b,Result.andThen];exact d _ _ hK
theorem qGE (hg:o.guard=none) (m x:Operand) (hop:o.op=Op.lookup 106 m x true) (hm:a.eval m= .map (some B)) (hown:w.ownsMap Tryz.prog 3 hdR B n D)
  (c:Int) (hx:a.eval x= .int .i64 c) (hc:(Lit.int .i64 c).wf =true)
  (hK:∀y,hdY y=D.atKey (.int .i64 c) .nil ->wpList Tryz.prog ops Q rest (a.put o.dst (.tuple #[hdV y,.bool (Maps.has D (.int .i64 c))])) w):wpList Tryz.prog ops Q (o::rest) a w:=by
 refine wpList_lookup_own_ok w hg m x _ hop _ _ qER Tryz.underlying106 hdR (qKO w) .nil [] (qF9 none) B n D hm hown _ _ hx (Maps.keyOf_int_mk Tryz.underlying3 hc) λv f b=>?_;obtain⟨y,rfl,d⟩:=qFa b;exact hK y (congrArg Prod.fst d).symm
end
theorem qP9 {w:World} {B n:Nat} {D:DataW Unit} (hown:w.ownsMap Tryz.prog 3 hdR B n D) {c:Int} (hc:(Lit.int .i64 c).wf =true) {b l k:Nat} (hat:∀z,D.atKey (.int .i64 c) z=hdD b l k):
  (Instr.lookup 106 (.map (some B)) (.int .i64 c) false).run Tryz.prog w= .ok (.slice (some ⟨b,0,none⟩) l k) w:=by
 obtain⟨v,h,d,f⟩:=hown.lookup qER Tryz.underlying106 (qKO w) (qF9 none) (Maps.keyOf_int_mk Tryz.underlying3 hc);rw[hat]at f;obtain⟨y,rfl,g⟩:=qFa f;obtain rfl:=qGo (congrArg Prod.fst g).symm;exact d
structure Bases (w:World) (B n:Nat) (D:DataW Unit) (bl:Int->Nat) (Z len:Nat) (cs:Int->Bool) (row:Int->List Spn):Prop where
 own:w.ownsMap Tryz.prog 3 hdR B n D
 has:∀c,(Lit.int .i64 c).wf =true->Maps.has D (.int .i64 c)=cs c
 wf:∀c,cs c=true->(Lit.int .i64 c).wf =true
 get:∀c,cs c=true->∀z,D.atKey (.int .i64 c) z=hdD (bl c) len len
 blk:∀c,cs c=true->Z<=bl c/\w.heap[bl c]? =some (.cells ((row c).flatMap qAD).toArray 115)
 len:∀c,cs c=true->(row c).length =len
 apart:∀c d,cs c=true->cs d=true->bl c=bl d->c=d
theorem qCp {w:World} {B n b:Nat} {D:DataW Unit} {cs:Array Value} {t:TypeId} (h:w.ownsMap Tryz.prog 3 hdR B n D) (hb:w.heap[b]? =some (.cells cs t)):b≠B:=by
 rintro rfl;obtain⟨f,d,c,-⟩:=h;rw[c]at hb
 cases hb
theorem Bases.le {w W:World} {B n:Nat} {D:DataW Unit} {bl:Int->Nat} {Z len:Nat} {cs:Int->Bool} {row:Int->List Spn} (h:Bases w B n D bl Z len cs row) (hb:Below w.heap.size w W):Bases W B n D bl Z len cs row:=by
 refine⟨?_,h.has,h.wf,h.get,λc b=>⟨(h.blk c b).1,(hb.block _ (gsl (h.blk c b).2)).trans (h.blk c b).2⟩,h.len,h.apart⟩;obtain⟨g,f,d,i⟩:=h.own;exact⟨g,f,(hb.block _ (gsl d)).trans d,i⟩
theorem qHu (c:Int):WideAt.IsKeyLit (.int .i64 c):=by unfold WideAt.IsKeyLit;trivial
theorem Bases.put {w W:World} {B n:Nat} {D:DataW Unit} {bl:Int->Nat} {Z len:Nat} {cs:Int->Bool} {row:Int->List Spn} (h:Bases w B n D bl Z len cs row) {c:Int} {g:Nat} (hc:cs (c:Int)=false) (hw:(Lit.int .i64 (c:Int)).wf =true)
  (hg:∀d,cs d=true->bl d≠g) (hZ:Z<=g) (hgB:g≠B) {L:List Spn} (hgr:w.heap[g]? =some (.cells (L.flatMap qAD).toArray 115)) (hL:L.length=len)
  (hown:W.ownsMap Tryz.prog 3 hdR B (n+1) (D.put (.int .i64 (c:Int)) (hdD g len len))) (hgrow:w.grownBy W (some B)):
  Bases W B (n+1) (D.put (.int .i64 (c:Int)) (hdD g len len)) (λd=>if d=(c:Int)then g else bl d) Z len (λd=>decide (d=(c:Int))||cs d) (λd=>if d=(c:Int)then L else row d):=by
 have q:=h.own.isMap;have keep:∀(b:Nat) (v:Array Value) (t:TypeId),b≠B->w.heap[b]? =some (.cells v t)->W.heap[b]? =some (.cells v t):=λb v t m p=>(hgrow.block b (gsl p) (by simpa using m)).trans p;refine⟨hown,λd f=>?_,λd f=>?_,λd f z=>?_,λd f=>?_,λd f=>?_,λd e f l i=>?_⟩
 ·by_cases e:d=(c:Int)
  ·subst e;rw[Maps.has_put_same q (qHu _)];simp
  ·rw[Maps.has_put_other (by simpa using e),h.has d f];simp[e]
 ·by_cases e:d=(c:Int)
  ·subst e;exact hw
  ·simp[e]at f;exact h.wf d f
 ·by_cases e:d=(c:Int)
  ·subst e;rw[Maps.atKey_put_same q (qHu _)];simp
  ·simp[e]at f;rw[Maps.atKey_put_other (by simpa using e),h.get d f];simp[e]
 ·by_cases e:d=(c:Int)
  ·subst e;simp only[if_true];exact⟨hZ,keep _ _ _ hgB hgr⟩
  ·simp[e]at f;simp only[if_neg e];exact⟨(h.blk d f).1,keep _ _ _ (qCp h.own (h.blk d f).2) (h.blk d f).2⟩
 ·by_cases e:d=(c:Int)
  ·subst e;simpa using hL
  ·simp[e]at f;simp only[if_neg e];exact h.len d f
 ·by_cases k:d=(c:Int)
  ·by_cases j:e=(c:Int)
   ·omega
   ·simp only[k,if_neg j]at i l;simp[j]at l;exact absurd i.symm (hg e l)
  ·by_cases j:e=(c:Int)
   ·simp only[j,if_neg k]at i f;simp[k]at f;exact absurd i (hg d f)
   ·simp[k]at f;simp[j]at l;simp only[if_neg k,if_neg j]at i;exact h.apart d e f l i
theorem qGU:∀(L:List Spn) (j:Nat) (s:Spn),j<L.length->((L.flatMap qAD).set (j*2) (.int .i64 s.1)).set (j*2+1) (.int .i64 s.2)=(L.set j s).flatMap qAD
 | x::L,0,s,_=>by simp[qAD]
 | x::L,j+1,s,h=>by
  have ih:=qGU L j s (by simpa using h);rw[List.set_cons_succ,List.flatMap_cons,List.flatMap_cons,<-ih,show(j+1)*2=(j*2)+2 by omega,show j*2+2+1=(j*2+1)+2 by omega]
  rfl
theorem qPa {W:World} {X j:Nat} {L:List Spn} {t:TypeId} (h:W.heap[X]? =some (.cells (L.flatMap qAD).toArray t)) (hj:j<L.length) (s:Spn):
  ((W.setCell ⟨X,j*2,none⟩ (.int .i64 s.1)).setCell ⟨X,j*2+1,none⟩ (.int .i64 s.2)).heap[X]? =some (.cells ((L.set j s).flatMap qAD).toArray t):=by
 rw[<-qGU L j s hj];simp only[World.setCell,Array.getElem?_modify,h];simp
theorem qHY {W:World} {X j:Nat} {L:List Spn} {t:TypeId} (h:W.heap[X]? =some (.cells (L.flatMap qAD).toArray t)) (hj:j<L.length):W.cell? ⟨X,j*2,none⟩=some (.int .i64 L[j].1)/\W.cell? ⟨X,j*2+1,none⟩=some (.int .i64 L[j].2):=by
 have b:=qCo (enc:=qAD) (k:=2) (λ_=>rfl) L j hj 0 _ rfl;have c:=qCo (enc:=qAD) (k:=2) (λ_=>rfl) L j hj 1 _ rfl;exact⟨by simp only[World.cell?,h];simpa using b,by simp only[World.cell?,h];simpa using c⟩
theorem Bases.set {w W:World} {B n:Nat} {D:DataW Unit} {bl:Int->Nat} {Z len:Nat} {cs:Int->Bool} {row:Int->List Spn} (h:Bases w B n D bl Z len cs row) {c:Int} (hc:cs c=true) {L:List Spn} (hL:L.length=len)
  (hb:W.heap[bl c]? =some (.cells (L.flatMap qAD).toArray 115)) (hk:∀k,k≠bl c->W.heap[k]? =w.heap[k]?):Bases W B n D bl Z len cs (λd=>if d=c then L else row d):=by
 refine⟨?_,h.has,h.wf,h.get,λd b=>?_,λd b=>?_,h.apart⟩
 ·obtain⟨g,f,i,j⟩:=h.own;exact⟨g,f,(hk B λe=>qCp h.own (h.blk c hc).2 e.symm).trans i,j⟩
 ·by_cases e:d=c
  ·subst e;simp only[if_true];exact⟨(h.blk d b).1,hb⟩
  ·simp only[if_neg e];exact⟨(h.blk d b).1,(hk _ λq=>e (h.apart d c b hc q)).trans (h.blk d b).2⟩
 ·by_cases e:d=c
  ·subst e;simpa using hL
  ·simp only[if_neg e];exact h.len d b
end Go.Proofs.YtabfaobakmjiaaaGreat

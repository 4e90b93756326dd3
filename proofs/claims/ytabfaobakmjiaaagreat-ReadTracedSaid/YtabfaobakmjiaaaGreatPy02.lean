/- Contracts of the functions of package slices at []int that the program uses. More of package slices at []int: Grow, Concat, Equal. Numbers counted around: the .. -/
import Derived.Test.YtabfaobakmjiaaaGreatPy01
import Derived.Lib.AppendZeros
namespace Go.Proofs.YtabfaobakmjiaaaGreat
set_option maxRecDepth 100000
set_option maxHeartbeats 1000000
open Go.RowKit

def idx {α:Type} (p:α->Bool) (zs:List α):Int:=match zs.findIdx? p with |some k=>k|none=> -1
theorem qMX {α:Type} (p:α->Bool) (zs:List α) (k:Nat) (h:k<zs.length) (hp:p zs[k]=true) (hn:∀j (h:j<zs.length),j<k->p zs[j]=false):(k:Int)=idx p zs:=by
 have:zs.findIdx? p=some k:=by
  rw[List.findIdx?_eq_some_iff_getElem];exact⟨h,hp,λj b=>by have:=hn j (by omega) b;simp[this]⟩
 unfold idx;rw[this]
theorem qKY {α:Type} (p:α->Bool) (zs:List α) (hn:∀j (h:j<zs.length),p zs[j]=false):(-1:Int)=idx p zs:=by
 have:zs.findIdx? p=none:=by
  rw[List.findIdx?_eq_none_iff];intro x c;obtain⟨j,b,rfl⟩:=List.mem_iff_getElem.1 c;exact hn j b
 unfold idx;rw[this]
theorem qMY {α:Type} (p:α->Bool) (zs:List α):decide (0<=idx p zs)=zs.any p:=by
 unfold idx
 cases h:zs.findIdx? p with
 | none=>
  rw[List.findIdx?_eq_none_iff]at h;have:zs.any p=false:=by simp only[List.any_eq_false];intro x d;simp[h x d]
  simp[this]
 | some k=>
  rw[List.findIdx?_eq_some_iff_getElem]at h;obtain⟨b,c,_⟩:=h;have:zs.any p=true:=List.any_eq_true.2 ⟨_,List.getElem_mem b,c⟩;simp[this]

theorem qKZ (p:Int->Bool) (g:FuncId) (cap:Array Value) (v:Value) (zs:List Int) (w:World) (hv:Ints w v zs)
  (hg:qAW Tryz.prog g)
  (hf:∀x,x∈zs->Calls Tryz.prog g (#[.int .i64 x]++cap) w (λe w2=>e= .returned (.bool (p x))/\w=w2)):
  Calls Tryz.prog 155 #[v,.func (.func g) #[] cap] w λe w'=>e= .returned (.int .i64 (idx p zs))/\w=w':=by
 obtain⟨A,c,rfl,C,s,_,B⟩:=hv;unfold qAW at hg;unfold maxLen at s;go_enter Tryz.func155,Tryz.ntmps155;go_wp2
 go_loop [8,4] (λi r=>∃k:Nat,k<=zs.length/\i= .int .i64 k/\r= .int .i64 0/\∀j (h:j<zs.length),j<k->p zs[j]=false) (λi _=>zs.length - (intOf i).toNat)
 case atStart=>exact⟨0,Nat.zero_le _,rfl,rfl,λj _ h=>absurd h (by omega)⟩
 case round=>
  obtain⟨k,F,rfl,rfl,z⟩:=hrel;have l:=hyd1 z;clear z
  by_cases f:k<zs.length
  ·obtain⟨b,off,rfl,D,y⟩:=B (by omega);have q:=y k f;have d:=List.getElem_mem f;generalize hx:zs[k]=x at q d;have o:=hyd1 hx;clear y B hx
   by_cases m:p x=true
   ·go_wp2_with (first | (refine(hf x d).mono ?_;rintro e w' ⟨rfl,rfl⟩));go_ret;exact⟨qEj (qMX p zs k f (by rw[o.out];exact m) l.out),rfl⟩
   ·have n:p x=false:=by simpa using m
    go_wp2_with (first | (refine(hf x d).mono ?_;rintro e w' ⟨rfl,rfl⟩))
    go_round
    case rel=>exact⟨k+1,by omega,by go_num,rfl,λj h E=>by
     by_cases t:j=k
     ·subst t;rw[o.out];exact n
     ·exact l.out j h (by omega)⟩
    case measure=>simp[intOf];omega
  ·go_wp2;go_ret;exact⟨qEj (qKY p zs λj h=>l.out j h (by omega)),rfl⟩
theorem qHi (p:Int->Bool) (g:FuncId) (cap:Array Value) (v:Value) (zs:List Int) (w:World) (hv:Ints w v zs)
  (hg:qAW Tryz.prog g)
  (hf:∀x,x∈zs->Calls Tryz.prog g (#[.int .i64 x]++cap) w (λe w2=>e= .returned (.bool (p x))/\w=w2)):
  Calls Tryz.prog 99 #[v,.func (.func g) #[] cap] w λe w'=>e= .returned (.bool (zs.any p))/\w=w':=by
 go_enter Tryz.func99,Tryz.ntmps99;go_wp2_with (first | (go_at_call 155;refine(qKZ p g cap _ zs _ hv hg hf).mono ?_;rintro e w' ⟨rfl,rfl⟩));go_ret;exact⟨qCE (qMY p zs),rfl⟩
theorem qB9:qBR Tryz.prog 56 3 (.int .i64 0) 8:=⟨Tryz.underlying56,by kernel_rfl,rfl⟩
theorem qP2 (v:Value) (zs:List Int) (w:World) (hv:Ints w v zs) (hlen:zs.length<=1000000):
  Calls Tryz.prog 73 #[v] w λe w'=>∃v',e= .returned v'/\Below w.heap.size w w'/\w'.ownsRow w.heap.size 3 1 v' zs.length (zs.map vint)/\(v'.ownBlock=none->v= .slice none 0 0):=by
 by_cases d:∃a n c,v= .slice (some a) n c
 ·obtain⟨a,n,c,rfl⟩:=d;have b:=λW=>Lib.run_eql_slice_nil (P:=Tryz.prog) W 56 3 (some a) n c 0 0 Tryz.underlying56;go_enter Tryz.func73,Tryz.ntmps73;go_wp2_with (first | (at_builtin;go_must (refine qCb rfl _ _ 56 rfl w.heap.size 3 qB9 _ [] rfl (qJO _ _ _ (Nat.le_refl _)) _ zs rfl ?_ ?_ ?_ ?_)))
  ·exact hv.below ((Below.refl _ _).alloc (Nat.le_refl _) _)
  ·simp;omega
  ·simp
  ·intro v' w' f g k i;go_wp2;go_ret;exact⟨_,rfl,((Below.refl _ _).alloc (Nat.le_refl _) _).trans g,by simpa using f,λh=>absurd (i.1 h).1 (by simp[Value.ownBlock])⟩
 ·obtain⟨rfl,rfl⟩:=hv.nil_of λa n c j=>d ⟨a,n,c,j⟩;have b:=λW=>Lib.run_eql_slice_nil (P:=Tryz.prog) W 56 3 none 0 0 0 0 Tryz.underlying56;go_enter Tryz.func73,Tryz.ntmps73;go_wp2;go_ret;exact⟨_,rfl,Below.refl _ _,World.ownsRow_nil _ _ _ _,by simp⟩
set_option linter.unusedVariables false
set_option linter.unusedSimpArgs false
theorem qLj (n:Nat) (hn:n<=1000000) (w:World):
  Calls Tryz.prog 151 #[.slice none 0 0,.int .i64 n] w λe w'=>∃v',e= .returned v'/\Below w.heap.size w w'/\w'.ownsRow w.heap.size 3 1 v' 0 []:=by
 by_cases s:n=0
 ·subst s;go_enter Tryz.func151,Tryz.ntmps151;go_wp2;go_ret;exact⟨_,rfl,Below.refl _ _,World.ownsRow_nil _ _ _ _⟩
 ·have t:=(qB9:qBR Tryz.prog 56 3 (.int .i64 0) 8);obtain⟨q,j,o⟩:=t;obtain⟨i,h,r,m,d⟩:=info_parts j;have b:=λW v=>Lib.run_append_nil_zeros (P:=Tryz.prog) W 56 3 v 3 i (.int .i64 0) .i64 .i64 q Tryz.underlying3 h r n (by omega) (by omega) (by omega) (by rw[d];omega);have f:=λW:World=>grownCap_ge W n 0 3;have k:=λW:World=>grownCap_le_maxLen W n 0 3 (by unfold maxLen;omega);have⟨c,g,l⟩:=hyd3 b f k;clear b f k j q h r m d o;have p:(0:Int)<(n:Int):=by omega
  go_enter Tryz.func151,Tryz.ntmps151;go_wp2_with (first | (at_builtin;go_must (refine Lib.wpList_append_run _ rfl _ _ _ _ rfl _ _ rfl rfl _ _ (c.out _ _) ?_)));go_ret;refine⟨_,rfl,((Below.refl _ _).alloc (Nat.le_refl _) _).drew,?_⟩;have x:=g.out w;exact World.ownsRow_made w _ _ (Nat.le_refl _) (l.out w) (by simp[size_zeroCells];omega)
def catK (l:List (List Int)) (k:Nat):List Int:=(l.take k).flatten
theorem qF4 (l:List (List Int)) (k:Nat) (h:k<l.length):catK l (k+1)=catK l k++l[k]:=by
 unfold catK;have e:l.take (k+1)=l.take k++[l[k]]:=by rw[List.take_add_one,List.getElem?_eq_getElem h];rfl
 rw[e,List.flatten_append];simp
theorem qK0 (l:List (List Int)) (k:Nat):(catK l k).length <=l.flatten.length:=by
 have e:l.flatten=(l.take k).flatten ++(l.drop k).flatten :=by rw[<-List.flatten_append,List.take_append_drop]
 unfold catK;rw[e,List.length_append];omega
theorem qP3 (l:List (List Int)) (k:Nat) (h:l.length<=k):catK l k=l.flatten:=by
 unfold catK;rw[List.take_of_length_le h]
theorem qJS (v:Value) (vs:List Value) (zss:List (List Int)) (w:World) (hv:Arr id w v vs) (hl:vs.length=zss.length) (hi:∀k (h:k<zss.length) (h':k<vs.length),Ints w vs[k] zss[k]) (hn:zss.flatten.length<=1000000) (hz:zss.length<=1000000):
  Calls Tryz.prog 95 #[v] w λe w'=>∃v',e= .returned v'/\Below w.heap.size w w'/\w'.ownsRow w.heap.size 3 1 v' zss.flatten.length (zss.flatten.map vint):=by
 obtain⟨C,o⟩:∃C,C=zss.flatten:=⟨_,rfl⟩;have E:∀k,(catK zss k).length <=C.length:=λk=>by rw[o];exact qK0 zss k
 rw[<-o]at hn ⊢;have⟨D,r⟩:=hyd2 o E;clear o E;obtain⟨A,c,rfl,aa,O,_,U⟩:=hv;unfold maxLen at O;have⟨J,H,z⟩:=hyd3 U hi hl;have ab:vs.length<=1000000:=by omega
 clear U hi hl;go_enter Tryz.func95,Tryz.ntmps95;go_wp2
 go_loop [11,3] (λi s=>∃k:Nat,k<=vs.length/\i= .int .i64 k/\s= .int .i64 ((catK zss k).length :Nat)) (λi _=>vs.length - (intOf i).toNat)
 case atStart=>exact⟨0,Nat.zero_le _,rfl,rfl⟩
 case round=>
  obtain⟨k,Z,rfl,rfl⟩:=hrel
  by_cases l:k<vs.length
  ·obtain⟨b,off,rfl,S,F⟩:=J.out (by omega);have q:w.cell? ⟨b,off+k,none⟩=some vs[k]:=F k l;have n:k<zss.length:=by have:=z.out;omega
   obtain⟨eA,ec,L,G,T,_,_⟩:=H.out k n l;rw[L]at q;have j:=Lib.hid (qF4 zss k n);have g:=r.out (k+1);rw[j.out,List.length_append]at g;generalize hm:(catK zss k).length =m at g;have B:=hyd1 hm;generalize hy:zss[k].length =y at q g;have Q:=hyd1 hy;have ac:(0:Int)<=((m+y:Nat):Int):=by omega
   clear F L hm hy G;go_wp2
   go_round
   case rel=>exact⟨k+1,by omega,by go_num,by rw[j.out,List.length_append,B.out,Q.out];go_num⟩
   case measure=>simp[intOf];omega
  ·obtain rfl:k=vs.length:=by omega
   have d:catK zss vs.length=C:=by rw[D.out];exact qP3 _ _ (by have:=z.out;omega)
   have x:=hyd1 d;rw[d];clear d;generalize hm:C.length=m at hn;have B:=hyd1 hm;clear hm;go_wp2_with (first | (go_at_call 151;refine(qLj m hn _).mono ?_;rintro e w1 ⟨v1,rfl,N,P⟩));go_loopw [27,6] (λi s wr=>∃k:Nat,k<=vs.length/\i= .int .i64 k/\Below w.heap.size w wr/\Hid (wr.ownsRow w.heap.size 3 1 s (catK zss k).length ((catK zss k).map vint))) (λi _ _=>vs.length - (intOf i).toNat)
   case atStart=>exact⟨0,Nat.zero_le _,rfl,N,P⟩
   case round=>
    obtain⟨k,Z,rfl,f,t⟩:=hrel
    by_cases l:k<vs.length
    ·obtain⟨b,off,rfl,S,F⟩:=J.out (by omega);have q:wr.cell? ⟨b,off+k,none⟩=some vs[k]:=(f.cell (p:=⟨b,off+k,none⟩) S).trans (F k l);have n:k<zss.length:=by have:=z.out;omega
     have I:=Lib.hid ((H.out k n l).below f);have j:=Lib.hid (qF4 zss k n);have g:=r.out (k+1);rw[j.out,List.length_append,B.out]at g;have Y:=f.size;generalize vs[k]=vk at q I;clear F;go_wp2_with (first | (at_builtin;go_must (refine qCb rfl _ _ 56 rfl w.heap.size 3 qB9 _ (catK zss k) rfl t.out _ zss[k] rfl I.out (by omega) (by omega) ?_)));intro v2 w2 R V X _;have M:=hyd1 R;clear R X;go_wp2;go_roundw
     case rel=>exact⟨k+1,by omega,by go_num,f.trans V,by have h:=M.out;rw[j.out,List.length_append,List.map_append];exact h⟩
     case measure=>simp[intOf];omega
    ·obtain rfl:k=vs.length:=by omega
     go_wp2;go_ret;have h:=t.out;rw[x.out]at h;exact⟨_,rfl,f,h⟩
theorem qMq (p n:Int) (hn:0<n): -n<p.tmod n/\p.tmod n<n/\(p.tmod n<0->p.tmod n+n=p%n)/\(0<=p.tmod n->p.tmod n=p%n):=by
 have b:=Int.tmod_lt_of_pos p hn
 have c: -n<p.tmod n:=by
  have:=Int.tmod_lt_of_pos (-p) hn;rw[Int.neg_tmod]at this;omega
 have d:=Int.mul_tdiv_add_tmod p n;refine⟨c,b,λh=>?_,λh=>?_⟩
 ·have e:p=(p.tmod n+n)+n*(p.tdiv n - 1):=by rw[Int.mul_sub];omega
  conv=>rhs;rw[e,Int.add_mul_emod_self_left]
  rw[Int.emod_eq_of_lt (by omega) (by omega)]
 ·have e:p=p.tmod n+n*p.tdiv n:=by omega
  conv=>rhs;rw[e,Int.add_mul_emod_self_left]
  rw[Int.emod_eq_of_lt (by omega) (by omega)]
def Mid (p:Int):Prop:= -1000000000000000<=p/\p<=1000000000000000
theorem qEZ (p n:Int) (w:World) (hn:0<n) (hn2:n<=1000000000) (hp:Mid p):
  Calls Tryz.prog 128 #[.int .i64 p,.int .i64 n] w λe w'=>e= .returned (.int .i64 (p%n))/\w=w':=by
 obtain⟨i,j⟩:=hp;obtain⟨f,g,b,c⟩:=qMq p n hn
 by_cases k:0<=p
 ·have l:=Int.emod_lt_of_pos p hn;have m:=Int.emod_nonneg p (show n≠0 by omega);clear f g b c;go_enter Tryz.func128,Tryz.ntmps128;go_wp2;go_ret;exact⟨rfl,rfl⟩
 ·by_cases h:p.tmod n<0
  ·have d:=Lib.hid (b h);clear b c;go_enter Tryz.func128,Tryz.ntmps128;go_wp2;go_ret;exact⟨qEj d.out,rfl⟩
  ·have d:=Lib.hid (c (by omega));clear b c;go_enter Tryz.func128,Tryz.ntmps128;go_wp2;go_ret;exact⟨qEj d.out,rfl⟩
end Go.Proofs.YtabfaobakmjiaaaGreat

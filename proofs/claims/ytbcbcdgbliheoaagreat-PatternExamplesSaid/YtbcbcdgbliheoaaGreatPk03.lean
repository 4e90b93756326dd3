/- Contracts of the functions of package slices at []int that the program uses. More of package slices at []int: Grow, Concat, Equal. Numbers counted around: the .. -/
import Derived.Test.YtbcbcdgbliheoaaGreatPk01
import Derived.Lib.AppendZeros
namespace Go.Proofs.YtbcbcdgbliheoaaGreat
set_option maxRecDepth 100000
set_option maxHeartbeats 1000000
open Go.RowKit

def idx {α:Type} (p:α->Bool) (zs:List α):Int:=match zs.findIdx? p with |some k=>k|none=> -1
theorem qJx {α:Type} (p:α->Bool) (zs:List α) (k:Nat) (h:k<zs.length) (hp:p zs[k]=true) (hn:∀j (h:j<zs.length),j<k->p zs[j]=false):(k:Int)=idx p zs:=by
 have:zs.findIdx? p=some k:=by
  rw[List.findIdx?_eq_some_iff_getElem];exact⟨h,hp,λj b=>by have:=hn j (by omega) b;simp[this]⟩
 unfold idx;rw[this]
theorem qI4 {α:Type} (p:α->Bool) (zs:List α) (hn:∀j (h:j<zs.length),p zs[j]=false):(-1:Int)=idx p zs:=by
 have:zs.findIdx? p=none:=by
  rw[List.findIdx?_eq_none_iff];intro x c;obtain⟨j,b,rfl⟩:=List.mem_iff_getElem.1 c;exact hn j b
 unfold idx;rw[this]
theorem qJy {α:Type} (p:α->Bool) (zs:List α):decide (0<=idx p zs)=zs.any p:=by
 unfold idx
 cases h:zs.findIdx? p with
 | none=>
  rw[List.findIdx?_eq_none_iff]at h;have:zs.any p=false:=by simp only[List.any_eq_false];intro x d;simp[h x d]
  simp[this]
 | some k=>
  rw[List.findIdx?_eq_some_iff_getElem]at h;obtain⟨b,c,_⟩:=h;have:zs.any p=true:=List.any_eq_true.2 ⟨_,List.getElem_mem b,c⟩;simp[this]

theorem qI5 (p:Int->Bool) (g:FuncId) (cap:Array Value) (v:Value) (zs:List Int) (w:World) (hv:Ints w v zs)
  (hg:qAZ Tryz.prog g)
  (hf:∀x,x∈zs->Calls Tryz.prog g (#[.int .i64 x]++cap) w (λe w2=>e= .returned (.bool (p x))/\w=w2)):
  Calls Tryz.prog 58 #[v,.func (.func g) #[] cap] w λe w'=>e= .returned (.int .i64 (idx p zs))/\w=w':=by
 obtain⟨A,c,rfl,C,s,_,B⟩:=hv;unfold qAZ at hg;unfold maxLen at s;go_enter Tryz.func58,Tryz.ntmps58;go_wp2
 go_loop [8,4] (λi r=>∃k:Nat,k<=zs.length/\i= .int .i64 k/\r= .int .i64 0/\∀j (h:j<zs.length),j<k->p zs[j]=false) (λi _=>zs.length - (intOf i).toNat)
 case atStart=>exact⟨0,Nat.zero_le _,rfl,rfl,λj _ h=>absurd h (by omega)⟩
 case round=>
  obtain⟨k,G,rfl,rfl,z⟩:=hrel;have l:=hyd1 z;clear z
  by_cases f:k<zs.length
  ·obtain⟨b,D,rfl,E,y⟩:=B (by omega);have q:=y k f;have d:=List.getElem_mem f;generalize hx:zs[k]=x at q d;have o:=hyd1 hx;clear y B hx
   by_cases m:p x=true
   ·go_wp2_with (first | (refine(hf x d).mono ?_;rintro e w' ⟨rfl,rfl⟩));go_ret;exact⟨qC1 (qJx p zs k f (by rw[o.out];exact m) l.out),rfl⟩
   ·have n:p x=false:=by simpa using m
    go_wp2_with (first | (refine(hf x d).mono ?_;rintro e w' ⟨rfl,rfl⟩))
    go_round
    case rel=>exact⟨k+1,by omega,by go_num,rfl,λj h F=>by
     by_cases t:j=k
     ·subst t;rw[o.out];exact n
     ·exact l.out j h (by omega)⟩
    case measure=>simp[intOf];omega
  ·go_wp2;go_ret;exact⟨qC1 (qI4 p zs λj h=>l.out j h (by omega)),rfl⟩
theorem qBb (p:Int->Bool) (g:FuncId) (cap:Array Value) (v:Value) (zs:List Int) (w:World) (hv:Ints w v zs)
  (hg:qAZ Tryz.prog g)
  (hf:∀x,x∈zs->Calls Tryz.prog g (#[.int .i64 x]++cap) w (λe w2=>e= .returned (.bool (p x))/\w=w2)):
  Calls Tryz.prog 33 #[v,.func (.func g) #[] cap] w λe w'=>e= .returned (.bool (zs.any p))/\w=w':=by
 go_enter Tryz.func33,Tryz.ntmps33;go_wp2_with (first | (go_at_call 58;refine(qI5 p g cap _ zs _ hv hg hf).mono ?_;rintro e w' ⟨rfl,rfl⟩));go_ret;exact⟨qAo (qJy p zs),rfl⟩
theorem qAc:qAd Tryz.prog 22 3 (.int .i64 0) 8:=⟨Tryz.underlying22,by kernel_rfl,rfl⟩
theorem qI6 (v:Value) (zs:List Int) (w:World) (hv:Ints w v zs) (hlen:zs.length<=1000000):
  Calls Tryz.prog 35 #[v] w λe w'=>∃v',e= .returned v'/\Below w.heap.size w w'/\w'.ownsRow w.heap.size 3 1 v' zs.length (zs.map vint)/\(v'.ownBlock=none->v= .slice none 0 0):=by
 by_cases d:∃a n c,v= .slice (some a) n c
 ·obtain⟨a,n,c,rfl⟩:=d;have b:=λW=>Lib.run_eql_slice_nil (P:=Tryz.prog) W 22 3 (some a) n c 0 0 Tryz.underlying22;go_enter Tryz.func35,Tryz.ntmps35;go_wp2_with (first | (at_builtin;go_must (refine qE1 rfl _ _ 22 rfl w.heap.size 3 qAc _ [] rfl (qHg _ _ _ (Nat.le_refl _)) _ zs rfl ?_ ?_ ?_ ?_)))
  ·exact hv.below ((Below.refl _ _).alloc (Nat.le_refl _) _)
  ·simp;omega
  ·simp
  ·intro v' w' f g k i;go_wp2;go_ret;exact⟨_,rfl,((Below.refl _ _).alloc (Nat.le_refl _) _).trans g,by simpa using f,λh=>absurd (i.1 h).1 (by simp[Value.ownBlock])⟩
 ·obtain⟨rfl,rfl⟩:=hv.nil_of λa n c j=>d ⟨a,n,c,j⟩;have b:=λW=>Lib.run_eql_slice_nil (P:=Tryz.prog) W 22 3 none 0 0 0 0 Tryz.underlying22;go_enter Tryz.func35,Tryz.ntmps35;go_wp2;go_ret;exact⟨_,rfl,Below.refl _ _,World.ownsRow_nil _ _ _ _,by simp⟩
set_option linter.unusedVariables false
set_option linter.unusedSimpArgs false
theorem qJ0 (n:Nat) (hn:n<=1000000) (w:World):
  Calls Tryz.prog 97 #[.slice none 0 0,.int .i64 n] w λe w'=>∃v',e= .returned v'/\Below w.heap.size w w'/\w'.ownsRow w.heap.size 3 1 v' 0 []:=by
 by_cases s:n=0
 ·subst s;go_enter Tryz.func97,Tryz.ntmps97;go_wp2;go_ret;exact⟨_,rfl,Below.refl _ _,World.ownsRow_nil _ _ _ _⟩
 ·have t:=(qAc:qAd Tryz.prog 22 3 (.int .i64 0) 8);obtain⟨q,j,o⟩:=t;obtain⟨i,h,r,m,d⟩:=info_parts j;have b:=λW v=>Lib.run_append_nil_zeros (P:=Tryz.prog) W 22 3 v 3 i (.int .i64 0) .i64 .i64 q Tryz.underlying3 h r n (by omega) (by omega) (by omega) (by rw[d];omega);have f:=λW:World=>grownCap_ge W n 0 3;have k:=λW:World=>grownCap_le_maxLen W n 0 3 (by unfold maxLen;omega);have⟨c,g,l⟩:=hyd3 b f k;clear b f k j q h r m d o;have p:(0:Int)<(n:Int):=by omega
  go_enter Tryz.func97,Tryz.ntmps97;go_wp2_with (first | (at_builtin;go_must (refine Lib.wpList_append_run _ rfl _ _ _ _ rfl _ _ rfl rfl _ _ (c.out _ _) ?_)));go_ret;refine⟨_,rfl,((Below.refl _ _).alloc (Nat.le_refl _) _).drew,?_⟩;have x:=g.out w;exact World.ownsRow_made w _ _ (Nat.le_refl _) (l.out w) (by simp[size_zeroCells];omega)
def catK (l:List (List Int)) (k:Nat):List Int:=(l.take k).flatten
theorem qE8 (l:List (List Int)) (k:Nat) (h:k<l.length):catK l (k+1)=catK l k++l[k]:=by
 unfold catK;have e:l.take (k+1)=l.take k++[l[k]]:=by rw[List.take_add_one,List.getElem?_eq_getElem h];rfl
 rw[e,List.flatten_append];simp
theorem qI7 (l:List (List Int)) (k:Nat):(catK l k).length <=l.flatten.length:=by
 have e:l.flatten=(l.take k).flatten ++(l.drop k).flatten :=by rw[<-List.flatten_append,List.take_append_drop]
 unfold catK;rw[e,List.length_append];omega
theorem qMb (l:List (List Int)) (k:Nat) (h:l.length<=k):catK l k=l.flatten:=by
 unfold catK;rw[List.take_of_length_le h]
theorem qHh (v:Value) (vs:List Value) (zss:List (List Int)) (w:World) (hv:Arr id w v vs) (hl:vs.length=zss.length) (hi:∀k (h:k<zss.length) (h':k<vs.length),Ints w vs[k] zss[k]) (hn:zss.flatten.length<=1000000) (hz:zss.length<=1000000):
  Calls Tryz.prog 79 #[v] w λe w'=>∃v',e= .returned v'/\Below w.heap.size w w'/\w'.ownsRow w.heap.size 3 1 v' zss.flatten.length (zss.flatten.map vint):=by
 obtain⟨D,o⟩:∃D,D=zss.flatten:=⟨_,rfl⟩;have F:∀k,(catK zss k).length <=D.length:=λk=>by rw[o];exact qI7 zss k
 rw[<-o]at hn ⊢;have⟨E,t⟩:=hyd2 o F;clear o F;obtain⟨A,c,rfl,ab,P,_,V⟩:=hv;unfold maxLen at P;have⟨L,I,B⟩:=hyd3 V hi hl;have ac:vs.length<=1000000:=by omega
 clear V hi hl;go_enter Tryz.func79,Tryz.ntmps79;go_wp2
 go_loop [11,3] (λi s=>∃k:Nat,k<=vs.length/\i= .int .i64 k/\s= .int .i64 ((catK zss k).length :Nat)) (λi _=>vs.length - (intOf i).toNat)
 case atStart=>exact⟨0,Nat.zero_le _,rfl,rfl⟩
 case round=>
  obtain⟨k,hk,rfl,rfl⟩:=hrel
  by_cases l:k<vs.length
  ·obtain⟨b,r,rfl,T,G⟩:=L.out (by omega);have q:w.cell? ⟨b,r+k,none⟩=some vs[k]:=G k l;have n:k<zss.length:=by have:=B.out;omega
   obtain⟨eA,ec,M,H,U,_,_⟩:=I.out k n l;rw[M]at q;have j:=Lib.hid (qE8 zss k n);have g:=t.out (k+1);rw[j.out,List.length_append]at g;generalize hm:(catK zss k).length =m at g;have C:=hyd1 hm;generalize hy:zss[k].length =y at q g;have R:=hyd1 hy;have ad:(0:Int)<=((m+y:Nat):Int):=by omega
   clear G M hm hy H;go_wp2
   go_round
   case rel=>exact⟨k+1,by omega,by go_num,by rw[j.out,List.length_append,C.out,R.out];go_num⟩
   case measure=>simp[intOf];omega
  ·obtain rfl:k=vs.length:=by omega
   have d:catK zss vs.length=D:=by rw[E.out];exact qMb _ _ (by have:=B.out;omega)
   have z:=hyd1 d;rw[d];clear d;generalize hm:D.length=m at hn;have C:=hyd1 hm;clear hm;go_wp2_with (first | (go_at_call 97;refine(qJ0 m hn _).mono ?_;rintro e w1 ⟨v1,rfl,O,Q⟩));go_loopw [27,6] (λi s wr=>∃k:Nat,k<=vs.length/\i= .int .i64 k/\Below w.heap.size w wr/\Hid (wr.ownsRow w.heap.size 3 1 s (catK zss k).length ((catK zss k).map vint))) (λi _ _=>vs.length - (intOf i).toNat)
   case atStart=>exact⟨0,Nat.zero_le _,rfl,O,Q⟩
   case round=>
    obtain⟨k,hk,rfl,f,x⟩:=hrel
    by_cases l:k<vs.length
    ·obtain⟨b,r,rfl,T,G⟩:=L.out (by omega);have q:wr.cell? ⟨b,r+k,none⟩=some vs[k]:=(f.cell (p:=⟨b,r+k,none⟩) T).trans (G k l);have n:k<zss.length:=by have:=B.out;omega
     have J:=Lib.hid ((I.out k n l).below f);have j:=Lib.hid (qE8 zss k n);have g:=t.out (k+1);rw[j.out,List.length_append,C.out]at g;have Z:=f.size;generalize vs[k]=vk at q J;clear G;go_wp2_with (first | (at_builtin;go_must (refine qE1 rfl _ _ 22 rfl w.heap.size 3 qAc _ (catK zss k) rfl x.out _ zss[k] rfl J.out (by omega) (by omega) ?_)));intro v2 w2 S X Y _;have N:=hyd1 S;clear S Y;go_wp2;go_roundw
     case rel=>exact⟨k+1,by omega,by go_num,f.trans X,by have h:=N.out;rw[j.out,List.length_append,List.map_append];exact h⟩
     case measure=>simp[intOf];omega
    ·obtain rfl:k=vs.length:=by omega
     go_wp2;go_ret;have h:=x.out;rw[z.out]at h;exact⟨_,rfl,f,h⟩
theorem qEj (v v':Value) (xs ys:List Int) (w:World) (hx:Ints w v xs) (hy:Ints w v' ys):
  Calls Tryz.prog 34 #[v,v'] w λe w'=>e= .returned (.bool (xs==ys))/\∃n,w'=w.drewN n:=by
 obtain⟨A,c,rfl,X,H,_,R⟩:=hx;obtain⟨A',c',rfl,Q,p,_,C⟩:=hy;unfold maxLen at H p;have O:=Lib.hid R;have P:=Lib.hid C;clear R C
 by_cases r:xs.length=ys.length
 ·have s:=hyd1 r;have M:((xs.length:Int) != (ys.length:Int))=false:=by simp[r]
  clear r;go_enter Tryz.func34,Tryz.ntmps34;go_wp2;go_loopw [13] (λi wr=>∃k:Nat,k<=xs.length/\i= .int .i64 k/\Hid (∃n,wr=w.drewN n)/\Hid (xs.take k=ys.take k)) (λi _=>xs.length - (intOf i).toNat)
  case atStart=>exact⟨0,Nat.zero_le _,rfl,⟨0,rfl⟩,rfl⟩
  case round=>
   obtain⟨k,hk,rfl,q,f⟩:=hrel;obtain⟨Z,N⟩:=q.out;subst N
   by_cases t:k<xs.length
   ·have d:k<ys.length:=by have:=s.out;omega
    obtain⟨S,F,rfl,U,m⟩:=O.out (by omega);obtain⟨T,G,rfl,V,o⟩:=P.out (by omega);have J:w.cell? ⟨S,F+k,none⟩=some (.int .i64 xs[k]):=m k t;have L:w.cell? ⟨T,G+k,none⟩=some (.int .i64 ys[k]):=o k d;have D:xs.take (k+1)=xs.take k++[xs[k]]:=by rw[List.take_add_one,List.getElem?_eq_getElem t];rfl
    have E:ys.take (k+1)=ys.take k++[ys[k]]:=by rw[List.take_add_one,List.getElem?_eq_getElem d];rfl
    have⟨g,j⟩:=hyd2 D E;generalize hxk:xs[k]=x at J g;generalize hyk:ys[k]=y at L j;have i1:(0:Int)<=(k:Int):=by omega
    have i2:(k:Int)<(xs.length:Int):=by omega
    have i3:(k:Int)<(ys.length:Int):=by omega
    clear m o D E q
    by_cases b:x=y
    ·subst b;have Y:(x != x)=false:=by simp
     clear hxk hyk;go_wp2;go_quiet (fail);go_wp2;go_roundw
     case rel=>exact⟨k+1,by omega,by go_num,⟨_,rfl⟩,by rw[g.out,j.out,f.out];exact rfl⟩
     case measure=>simp[intOf];omega
    ·have Y:(x != y)=true:=by simpa using b
     have z:(xs==ys)=false:=by
      rw[beq_eq_false_iff_ne];intro l;subst l;exact b (hxk.symm.trans hyk)
     have B:=hyd1 z;clear hxk hyk z b;go_wp2;go_quiet (fail);go_wp2;go_ret;exact⟨qAo (by rw[B.out]),⟨_,World.drewN_drewN _ _ _⟩⟩
   ·have l:(xs==ys)=true:=by
     rw[beq_iff_eq];have h:=f.out
     rwa[List.take_of_length_le (by omega),List.take_of_length_le (by have:=s.out;omega)]at h
    have I:=hyd1 l;clear l;go_wp2;go_ret;exact⟨qAo (by rw[I.out]),⟨Z,rfl⟩⟩
 ·have M:((xs.length:Int) != (ys.length:Int))=true:=by simp;omega
  have l:(xs==ys)=false:=by
   rw[beq_eq_false_iff_ne];intro h;exact r (by rw[h])
  rw[l];clear l r;go_enter Tryz.func34,Tryz.ntmps34;go_wp2;go_ret;exact⟨rfl,⟨0,rfl⟩⟩
theorem qEk (p n:Int) (hn:0<n): -n<p.tmod n/\p.tmod n<n/\(p.tmod n<0->p.tmod n+n=p%n)/\(0<=p.tmod n->p.tmod n=p%n):=by
 have b:=Int.tmod_lt_of_pos p hn
 have c: -n<p.tmod n:=by
  have:=Int.tmod_lt_of_pos (-p) hn;rw[Int.neg_tmod]at this;omega
 have d:=Int.mul_tdiv_add_tmod p n;refine⟨c,b,λh=>?_,λh=>?_⟩
 ·have e:p=(p.tmod n+n)+n*(p.tdiv n - 1):=by rw[Int.mul_sub];omega
  conv=>rhs;rw[e,Int.add_mul_emod_self_left]
  rw[Int.emod_eq_of_lt (by omega) (by omega)]
 ·have e:p=p.tmod n+n*p.tdiv n:=by omega
  conv=>rhs;rw[e,Int.add_mul_emod_self_left]
  rw[Int.emod_eq_of_lt (by omega) (by omega)]
def Mid (p:Int):Prop:= -1000000000000000<=p/\p<=1000000000000000
theorem qFF (p n:Int) (w:World) (hn:0<n) (hn2:n<=1000000000) (hp:Mid p):
  Calls Tryz.prog 114 #[.int .i64 p,.int .i64 n] w λe w'=>e= .returned (.int .i64 (p%n))/\w=w':=by
 obtain⟨i,j⟩:=hp;obtain⟨f,g,b,c⟩:=qEk p n hn
 by_cases k:0<=p
 ·have l:=Int.emod_lt_of_pos p hn;have m:=Int.emod_nonneg p (show n≠0 by omega);clear f g b c;go_enter Tryz.func114,Tryz.ntmps114;go_wp2;go_ret;exact⟨rfl,rfl⟩
 ·by_cases h:p.tmod n<0
  ·have d:=Lib.hid (b h);clear b c;go_enter Tryz.func114,Tryz.ntmps114;go_wp2;go_ret;exact⟨qC1 d.out,rfl⟩
  ·have d:=Lib.hid (c (by omega));clear b c;go_enter Tryz.func114,Tryz.ntmps114;go_wp2;go_ret;exact⟨qC1 d.out,rfl⟩
theorem qBE (p n:Int) (w:World) (hn:0<n) (hn2:n<=1000000000) (hp:Mid p):
  Calls Tryz.prog 23 #[.int .i64 p,.int .i64 n] w λe w'=>e= .returned (.int .i64 (p%n))/\w=w':=by
 obtain⟨i,j⟩:=hp;obtain⟨f,g,b,c⟩:=qEk p n hn
 by_cases k:0<=p
 ·have l:=Int.emod_lt_of_pos p hn;have m:=Int.emod_nonneg p (show n≠0 by omega);clear f g b c;go_enter Tryz.func23,Tryz.ntmps23;go_wp2;go_ret;exact⟨rfl,rfl⟩
 ·by_cases h:p.tmod n<0
  ·have d:=Lib.hid (b h);clear b c;go_enter Tryz.func23,Tryz.ntmps23;go_wp2;go_ret;exact⟨qC1 d.out,rfl⟩
  ·have d:=Lib.hid (c (by omega));clear b c;go_enter Tryz.func23,Tryz.ntmps23;go_wp2;go_ret;exact⟨qC1 d.out,rfl⟩
end Go.Proofs.YtbcbcdgbliheoaaGreat

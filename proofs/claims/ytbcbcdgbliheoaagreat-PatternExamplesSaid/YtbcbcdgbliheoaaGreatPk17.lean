/- pattern.Symmetries. Lists of moves that are only read; the reference's SameMoves. -/
import Derived.Test.YtbcbcdgbliheoaaGreatPk02
import Derived.Test.YtbcbcdgbliheoaaGreatPk16
namespace Go.Proofs.YtbcbcdgbliheoaaGreat
set_option maxRecDepth 100000
set_option maxHeartbeats 2000000
open Go.RowKit Go.Shelf Go.Sort Go.Lib
set_option linter.unusedVariables false
set_option linter.unusedSimpArgs false
attribute [local go_sem] Oper.semAt_some
attribute [local go_sem ↓] Go.wp_at_zero Go.wp_at_succ
def qF8 (B:Nat) (pre:List Mv) (W:World):Prop:=∃v,W.heap[B]? =some (.cells #[v] 94)/\W.ownsRow (B+1) 39 4 v pre.length (qAL pre)
def qF9 (B:Nat) (W:World) (k:Nat):Prop:=k=B∨∃v,W.heap[B]? =some (.cells #[v] 94)/\v.ownBlock=some k
theorem qMv {W W':World} {base e size n:Nat} {v:Value} {xs:List Value} (h:W.ownsRow base e size v n xs) (hk:∀k,v.ownBlock=some k->W'.heap[k]? =W.heap[k]?):W'.ownsRow base e size v n xs:=by
 refine⟨h.1,?_⟩
 rcases h.2 with h'| ⟨g',cap,cur,hv,hb,hh,r⟩
 ·exact .inl h'
 ·exact .inr ⟨g',cap,cur,hv,hb,(hk g' (by rw[hv];rfl)).trans hh,r⟩
theorem qGP {w:World} {base e size n:Nat} {v:Value} {xs:List Value} (h:w.ownsRow base e size v n xs):∃A c,v= .slice A n c:=by
 rcases h.2 with⟨rfl,rfl⟩| ⟨g,cap,cur,rfl,_⟩
 ·exact⟨none,0,rfl⟩
 ·exact⟨_,cap,rfl⟩
theorem qDo {B:Nat} {W:World} {v v':Value} {t:TypeId} (h:W.heap[B]? =some (.cells #[v] t)) (h':W.heap[B]? =some (.cells #[v'] t)):v=v':=by
 rw[h]at h';injection h' with h';injection h' with h';injection h' with h';injection h' with h'
theorem qMw (B:Nat) (pre:List Mv) (x:Mv) (W:World) (n0:Nat) (hB:n0<=B) (h:qF8 B pre W) (hl:pre.length<=10000):
  Calls Tryz.prog 74 #[x.val,.pointer (some ⟨B,0,none⟩)] W λe w'=>e= .returned (.bool true)/\qF8 B (pre++[x]) w'/\Below n0 W w'/\qEu (qF9 B) W w'/\∀k,qF9 B w' k->qF9 B W k∨W.heap.size<=k:=by
 obtain⟨v,l,A⟩:=h;obtain⟨f,j,g,d⟩:=x;show Calls Tryz.prog 74 #[.agg #[.int .i64 f,.int .i64 j,.bool g,.bool d],.pointer (some ⟨B,0,none⟩)] W _;have aa:=(gsl l);have hc:=qAH l;have hf:=qAK l 0;obtain⟨mi,ag,R,T,V⟩:=info_parts qF6;have r:=new4 (W.alloc (.cells #[.int .i64 f,.int .i64 j,.bool g,.bool d] 39)) ⟨f,j,g,d⟩ 39;have D:=qEc ⟨f,j,g,d⟩;have G:(Mv.enc ⟨f,j,g,d⟩)=[.int .i64 f,.int .i64 j,.bool g,.bool d]:=rfl;rw[G]at r D;have⟨m,s,S,U,X,H,N,ak⟩:=hyd8 l A R T V r D G;clear G D r V T R A l;go_enter Tryz.func74,Tryz.ntmps74;go_wp2_with (first | (at_builtin;go_must (refine qFV _ rfl _ _ 94 rfl (B+1) 39 mi _ 4 24 Tryz.underlying94 ag S.out U.out X.out rfl (by decide) v pre.length (qAL pre) rfl ((s.out.alloc _).alloc _) ⟨W.heap.size+1,0,none⟩ 1 1 [.int .i64 f,.int .i64 j,.bool g,.bool d] rfl rfl (by have h:=H.out;simp only[World.size_alloc]at h;exact h) N.out (by unfold maxLen;omega) (by omega) (by simp;omega) ?_)))
 ·intro v4 J b c C;obtain⟨Y,Z,rfl⟩:=qGP b;have F:=s.out.lt;have E:W.grownBy J v.ownBlock:=⟨c.os,c.tape,c.output,by have:=c.size;simp at this;omega,λk hk ah=>(c.block k (by simp;omega) ah).trans ((alc2 W _ _).block k hk)⟩;have q:some B≠v.ownBlock:=λe=>by have:=(F B e.symm).1;omega
  have t:J.heap[B]? =_:=(E.block B aa q).trans m.out;have ao:=qAH t;have aq:=qAK t 0;have n:qAL (pre++[⟨f,j,g,d⟩])=qAL pre++[.int .i64 f,.int .i64 j,.bool g,.bool d]:=by rw[qCW];rfl
  have o:(pre++[(⟨f,j,g,d⟩:Mv)]).length =pre.length+1:=by simp
  replace b:J.ownsRow (B+1) 39 4 (.slice Y (pre.length+1) Z) (pre++[(⟨f,j,g,d⟩:Mv)]).length (qAL (pre++[⟨f,j,g,d⟩])):=by rw[o,n];exact b
  clear hc hf;have⟨y,aj,I,O,z,ai,M,ab⟩:=hyd8 b c C F E q t n;have af:=hyd1 o;clear o n t q E F C c b;go_wp2;go_ret;have Q:=qAy (i:=0) (u:= .slice Y (pre.length+1) Z) M.out;have L:(J.setCell ⟨B,0,none⟩ (.slice Y (pre.length+1) Z)).heap[B]? =some (.cells #[.slice Y (pre.length+1) Z] 94):=Q;refine⟨rfl,⟨_,L,qLV (B:=B) (k:=0) y.out (show B<B+1 by omega) _⟩,?_,?_,?_⟩
  ·exact((Below.refl n0 W).grown z.out (by omega) (λk e=>by have:=(O.out k e).1;omega)).setCell (p:=⟨B,0,none⟩) hB _
  ·intro k hk P;have ad:k≠B:=λe=>P (.inl e);have ae:some k≠v.ownBlock:=λe=>P (.inr ⟨v,m.out,e.symm⟩);exact(Below.heap_setCell J ⟨B,0,none⟩ _ k ad).trans (z.out.block k hk ae)
  ·rintro k (rfl| ⟨v5,h5,h6⟩)
   ·exact .inl (.inl rfl)
   ·obtain rfl:=qDo L h5
    rcases I.out k h6 with h|h
    ·exact .inl (.inr ⟨v,m.out,h⟩)
    ·exact .inr (by omega)
theorem qMx (n0 B:Nat) (hB:n0<=B):Recv Tryz.prog n0 74 #[.pointer (some ⟨B,0,none⟩)] true (qF9 B) (qF8 B) where
 enters:=enters_of Tryz.func74 (by kernel_rfl) rfl
 own:=by
  rintro f W k ⟨v,b,c⟩ (rfl| ⟨j,d,i⟩)
  ·exact⟨hB,(gsl b)⟩
  ·obtain rfl:=qDo b d;have:=c.lt k i;omega
 cells:=by
  rintro f W k ⟨v,b,c⟩ (rfl| ⟨j,d,i⟩)
  ·exact⟨_,b,rfl⟩
  ·obtain rfl:=qDo b d
   rcases c.2 with⟨rfl,_⟩| ⟨g,cap,cur,rfl,_,hh,_⟩
   ·simp[Value.ownBlock]at i
   ·have:g=k:=by simpa[Value.ownBlock]using i
    subst this;exact⟨_,hh,rfl⟩
 frame:=by
  rintro f W l ⟨v,b,c⟩ p i;have d:l.heap[B]? =some (.cells #[v] 94):=(i B (.inl rfl)).trans b;refine⟨⟨v,d,qMv c λk h=>i k (.inr ⟨v,b,h⟩)⟩,?_⟩;rintro k (rfl| ⟨j,m,o⟩)
  ·exact .inl rfl
  ·obtain rfl:=qDo d m;exact .inr ⟨v,b,o⟩
 call:=λf x W h n=>qMw B f x W n0 hB h n
def symL (p:Prog):List Mv:=if qAJ p=0 then qBR p p 3 else[]
theorem qGH (v:Value) (p:Prog) (w:World) (hv:IsProg w v p) (E:Int) (hE:qAJ p=E):
  Calls Tryz.prog 46 #[v] w λe w'=>∃v',e= .returned (.tuple #[v',.int .i64 E])/\Below w.heap.size w w'/\w'.ownsRow w.heap.size 39 4 v' (symL p).length (qAL (symL p)):=by
 have y:=Lib.hid hv;obtain⟨H,I,J,rfl,M,N,O⟩:=hv;clear M N O
 by_cases d:E=0
 ·subst d;have F:=qAr hE;have l:symL p=qBk true (qBR p p 3):=by unfold symL;rw[if_pos hE];rfl
  rw[l];have⟨j,x,G⟩:=hyd3 hE F l;clear l F hE;go_enter Tryz.func46,Tryz.ntmps46;go_wp2_with (first | (go_at_call 21;((with_reducible refine(qAM _ p _ (y.out.below (alc1 _ _)) 0 j.out).mono ?_);rintro e w' ⟨S,rfl,f,-,t⟩;obtain⟨b,rfl,-,c⟩:=t rfl;have m:=Lib.hid c;have g:=(alc1 w (.cells #[H,I,.int .i64 p.start,.int .i64 p.throw,.int .i64 p.adv,J] 27)).trans (f.mono (by simp));have C:=g.size;clear f t c)))
  have A:Calls Tryz.prog 30 #[.pointer (some ⟨b,0,none⟩),.pointer (some ⟨b,0,none⟩),.int .u8 3,.func (.func 74) #[] #[.pointer (some ⟨w'.heap.size,0,none⟩)]] (w'.alloc (.cells #[.slice none 0 0] 94)) λe L=>e= .returned (.tuple #[])/\Below w'.heap.size w' L/\qF8 w'.heap.size (qBk true (qBR p p 3)) L:=
   qLp p p b b 3 74 #[.pointer (some ⟨w'.heap.size,0,none⟩)] true (qF9 w'.heap.size) (qF8 w'.heap.size) w' _ m.out m.out x.out x.out (by omega) (qMx _ _ (Nat.le_refl _)) (alc1 _ _) ⟨_,qAk _ _,World.ownsRow_nil _ _ _ _⟩
  have⟨o,i,B⟩:=hyd3 g C A;clear A C g;go_wp2_with (first | (go_at_call 30;((with_reducible refine(B.out).mono ?_);rintro e w' ⟨rfl,q,P⟩;obtain⟨V,s,k⟩:=P;obtain⟨T,U,rfl⟩:=qGP k;have Q:=qAH s;have z:=Lib.hid k;have r:=Lib.hid q;clear k q s)));go_ret2;exact⟨_,rfl,o.out.trans (r.out.mono i.out),qBv z.out (by have:=i.out;omega)⟩
 ·have R:(E != 0)=true:=by simpa using d
  have D:symL p=[]:=by unfold symL;rw[hE,if_neg d]
  rw[D];have⟨j,n⟩:=hyd2 hE d;clear d hE;go_enter Tryz.func46,Tryz.ntmps46;go_wp2_with (first | (go_at_call 21;((with_reducible refine(qAM _ p _ (y.out.below (alc1 _ _)) E j.out).mono ?_);rintro e w' ⟨S,rfl,f,h,-⟩;obtain rfl:=h n.out;have g:=(alc1 w (.cells #[H,I,.int .i64 p.start,.int .i64 p.throw,.int .i64 p.adv,J] 27)).trans (f.mono (by simp));clear f h)));go_ret2;exact⟨_,rfl,g,World.ownsRow_nil _ _ _ _⟩
end Go.Proofs.YtbcbcdgbliheoaaGreat
namespace Go.Proofs.YtbcbcdgbliheoaaGreat
set_option maxRecDepth 100000
set_option maxHeartbeats 2000000
open Go.RowKit Go.Shelf Go.Sort Go.Lib
set_option linter.unusedVariables false
set_option linter.unusedSimpArgs false
def Mvs (w:World) (v:Value) (L:List Mv):Prop:=
 ∃A c,v= .slice A L.length c/\L.length<=1000000/\(0<L.length->∃b,A=some ⟨b,0,none⟩/\b<w.heap.size/\∀i (h:i<L.length),w.cell? ⟨b,i*4,none⟩=some (.int .i64 L[i].cuts)/\w.cell? ⟨b,i*4+1,none⟩=some (.int .i64 L[i].turn)/\w.cell? ⟨b,i*4+2,none⟩=some (.bool L[i].mirror)/\w.cell? ⟨b,i*4+3,none⟩=some (.bool L[i].back))
theorem Mvs.below {w w':World} {v:Value} {L:List Mv} (h:Mvs w v L) (hb:Below w.heap.size w w'):Mvs w' v L:=by
 obtain⟨A,c,q,m,n⟩:=h;refine⟨A,c,q,m,λg=>?_⟩;obtain⟨b,j,f,k⟩:=n g;refine⟨b,j,Nat.lt_of_lt_of_le f hb.size,λi l=>?_⟩;have d:∀o,w'.cell? ⟨b,o,none⟩=w.cell? ⟨b,o,none⟩:=λo=>hb.cell (p:=⟨b,o,none⟩) f;rw[d,d,d,d];exact k i l
theorem Mvs.of_own {w:World} {base e:Nat} {v:Value} {L:List Mv} (h:w.ownsRow base e 4 v L.length (qAL L)) (hl:L.length<=1000000):Mvs w v L:=by
 have b:=h
 rcases h.2 with⟨rfl,h1⟩| ⟨g,cap,cur,rfl,hb,hh,_⟩
 ·exact⟨none,0,by rw[h1],hl,λh=>by omega⟩
 ·exact⟨_,cap,rfl,hl,λ_=>⟨g,rfl,(gsl hh),λi c=>qHq b c⟩⟩
theorem qLq (w:World) (L:List Mv) (cs:Array Value) (hcs:cs=(qAL L).toArray) (e:TypeId) (hl:L.length<=1000000):Mvs (w.alloc (.cells cs e)) (.slice (some ⟨w.heap.size,0,none⟩) L.length L.length) L:=by
 refine⟨_,_,rfl,hl,λ_=>⟨w.heap.size,rfl,by simp,λi f=>?_⟩⟩
 have b:∀t,t<4->(w.alloc (.cells cs e)).cell? ⟨w.heap.size,i*4+t,none⟩=some ((Mv.enc L[i])[t]!):=λt g=>by
  rw[World.cell?_alloc_at _ _ _ _ rfl,hcs];simp only[List.getElem?_toArray];rw[qD3 L (i*4+t) (by omega)];have c:(i*4+t) / 4=i:=by omega
  have d:(i*4+t)%4=t:=by omega
  rw[c,d,getElem!_pos L i f]
 exact⟨b 0 (by omega),b 1 (by omega),b 2 (by omega),b 3 (by omega)⟩
theorem qIp (v v':Value) (xs ys:List Mv) (w:World) (hx:Mvs w v xs) (hy:Mvs w v' ys):
  Calls Tryz.prog 47 #[v,v'] w λe w'=>e= .returned (.bool (xs==ys))/\∃n,w'=w.drewN n:=by
 obtain⟨A,c,rfl,ar,hr⟩:=hx;obtain⟨A',c',rfl,ac,F⟩:=hy;have R:=Lib.hid hr;have S:=Lib.hid F;clear hr F
 by_cases B:xs.length=ys.length
 ·have C:=hyd1 B;have O:((xs.length:Int) != (ys.length:Int))=false:=by simp[B]
  clear B;go_enter Tryz.func47,Tryz.ntmps47;go_wp2;go_loopw [5] (λi wr=>∃k:Nat,k<=xs.length/\i= .int .i64 k/\Hid (∃n,wr=w.drewN n)/\Hid (xs.take k=ys.take k)) (λi _=>xs.length - (intOf i).toNat)
  case atStart=>exact⟨0,Nat.zero_le _,rfl,⟨0,rfl⟩,rfl⟩
  case round=>
   obtain⟨k,hk,rfl,z,o⟩:=hrel;obtain⟨nd,P⟩:=z.out;subst P
   by_cases D:k<xs.length
   ·have m:k<ys.length:=by have:=C.out;omega
    obtain⟨b1,rfl,ap,s⟩:=R.out (by omega);obtain⟨b2,rfl,aq,t⟩:=S.out (by omega);obtain⟨p0,p1,p2,p3⟩:=s k D;obtain⟨q0,q1,q2,q3⟩:=t k m;have q:xs.take (k+1)=xs.take k++[xs[k]]:=by rw[List.take_add_one,List.getElem?_eq_getElem D];rfl
    have r:ys.take (k+1)=ys.take k++[ys[k]]:=by rw[List.take_add_one,List.getElem?_eq_getElem m];rfl
    have d:xs[k]≠ys[k]->(xs==ys)=false:=λQ=>by
     rw[beq_eq_false_iff_ne];intro p;subst p;exact Q rfl
    generalize xs[k]=x at p0 p1 p2 p3 q d;generalize ys[k]=y at q0 q1 q2 q3 r d;obtain⟨U,X,V,T⟩:=x;obtain⟨Z,yt,ym,Y⟩:=y;simp only at p0 p1 p2 p3 q0 q1 q2 q3;have i1:(0:Int)<=(k:Int):=by omega
    have i2:(k:Int)<(xs.length:Int):=by omega
    have i3:(k:Int)<(ys.length:Int):=by omega
    clear s t z;have⟨G,H,j⟩:=hyd3 q r d;clear d r q
    by_cases l:U=Z/\X=yt/\V=ym/\T=Y
    ·obtain⟨rfl,rfl,rfl,rfl⟩:=l;go_wp2;go_quiet (fail);go_wp2;go_roundw
     case rel=>exact⟨k+1,by omega,by go_num,⟨_,rfl⟩,by rw[G.out,H.out,o.out];exact rfl⟩
     case measure=>simp[intOf];omega
    ·have E:=Lib.hid (j.out (λe=>l (by injection e with e1 e2 e3 e4;exact⟨e1,e2,e3,e4⟩)))
     have f:(((U==Z)&&((X==yt)&&((V==ym)&&(T==Y))))=false):=by
      rw[Bool.eq_false_iff];intro h;simp only[Bool.and_eq_true,beq_iff_eq]at h;exact l h
     clear l j;obtain⟨b0,I⟩:∃b,(U==Z)=b:=⟨_,rfl⟩;obtain⟨b3,J⟩:∃b,(X==yt)=b:=⟨_,rfl⟩;obtain⟨b4,L⟩:∃b,(V==ym)=b:=⟨_,rfl⟩;obtain⟨b5,M⟩:∃b,(T==Y)=b:=⟨_,rfl⟩;rw[I,J,L,M]at f;have g:=hyd1 f;clear f
     cases b0<;>cases b3<;>cases b4<;>cases b5<;>first | (exact absurd g.out (by decide))|skip
     all_goals
      clear g;go_wp2;go_quiet (fail);go_wp2;go_ret;exact⟨qAo (by rw[E.out]),⟨_,World.drewN_drewN _ _ _⟩⟩
   ·have p:(xs==ys)=true:=by
     rw[beq_iff_eq];have h:=o.out
     rwa[List.take_of_length_le (by omega),List.take_of_length_le (by have:=C.out;omega)]at h
    have N:=hyd1 p;clear p;go_wp2;go_ret;exact⟨qAo (by rw[N.out]),⟨nd,rfl⟩⟩
 ·have O:((xs.length:Int) != (ys.length:Int))=true:=by simp;omega
  have p:(xs==ys)=false:=by
   rw[beq_eq_false_iff_ne];intro h;exact B (by rw[h])
  rw[p];clear p B;go_enter Tryz.func47,Tryz.ntmps47;go_wp2;go_ret;exact⟨rfl,⟨0,rfl⟩⟩
end Go.Proofs.YtbcbcdgbliheoaaGreat

/- pattern.Cut. pattern's iterator over phases. pattern.Phases. pattern.Moire. Moire, with its errors, both; the law PatternPairs. -/
import Derived.Test.YtbcbcdgbliheoaaGreatPk13
namespace Go.Proofs.YtbcbcdgbliheoaaGreat
set_option maxRecDepth 100000
set_option maxHeartbeats 4000000
open Go.RowKit
set_option linter.unusedVariables false
set_option linter.unusedSimpArgs false
attribute [local go_sem ↓] Go.wp_at_zero Go.wp_at_succ
theorem qGO (p:Prog) (j:Int):(cutL p j).length =p.ros.length:=by simp[cutL,qIM]
theorem qMj (p:Prog) (j:Int) (k:Nat) (h:k<(cutL p j).length):(cutL p j)[k]=p.start+j*p.adv+p.throw*atR (qAP p.ros p.rub) ((k:Int) - qAS p j):=by
 rw[qGO]at h
 have b:(cutL p j)[k]? =some (p.start+j*p.adv+p.throw*atR (qAP p.ros p.rub) ((k:Int) - qAS p j)):=by
  simp only[cutL,qGh,qCy,qAQ,List.getElem?_map,List.getElem?_range h,Option.map_some];rw[Int.mul_comm p.throw,Int.add_comm]
 exact(List.getElem?_eq_some_iff.1 b).2
def qCD (l:List Int) (k:Nat):List Int:=l.take k++List.replicate (l.length - k) 0
theorem qJc (l:List Int):qCD l 0=qAh l.length:=by simp[qCD,qAh]
theorem qKa (l:List Int):qCD l l.length=l:=by simp[qCD]
theorem qFO (l:List Int) (k:Nat) (h:k<=l.length):(qCD l k).length =l.length:=by simp[qCD];omega
theorem qKb (l:List Int) (k:Nat) (h:k<l.length):(qCD l k).set k l[k]=qCD l (k+1):=by
 apply List.ext_getElem?;intro i;unfold qCD;rw[List.getElem?_set]
 by_cases b:k=i
 ·subst b;rw[if_pos rfl,if_pos (by simp;omega),List.getElem?_append_left (by simp;omega)];simp[List.getElem?_take,h]
 ·rw[if_neg b]
  by_cases c:i<k
  ·rw[List.getElem?_append_left (by simp;omega),List.getElem?_append_left (by simp;omega)];simp[List.getElem?_take,c,show i<k+1 by omega]
  ·rw[List.getElem?_append_right (by simp;omega),List.getElem?_append_right (by simp;omega)];simp only[List.length_take,List.getElem?_replicate]
   congr 1;apply propext;omega
theorem qKc (l:List Int) (k:Nat) (h:k<l.length):∃y,(qCD l k)[k]? =some y:=by
 have:k<(qCD l k).length :=by rw[qFO l k (by omega)];exact h
 exact⟨_,List.getElem?_eq_getElem this⟩
theorem qGm (v:Value) (p:Prog) (j:Int) (w:World) (hv:IsProg w v p) (E:Int) (hE:cutE p j=E):
  Calls Tryz.prog 4 #[v,.int .i64 j] w λe w'=>∃v',e= .returned (.tuple #[v',.int .i64 E])/\Below w.heap.size w w'/\w'.ownsRow w.heap.size 3 1 v' (onOk E (cutL p j)).length ((onOk E (cutL p j)).map vint):=by
 have ag:=Lib.hid hv;obtain⟨v0,v1,v5,rfl,h0,a3,h5⟩:=hv;clear h0 a3 h5;unfold cutE at hE;obtain⟨F,hF⟩:∃F,qAJ p=F:=⟨_,rfl⟩;rw[hF]at hE
 by_cases s:F=0
 ·subst s;have R:=qAr hF;have aV:=R.ros0;have aW:=R.ros1;obtain⟨X1,V⟩:∃X,qA0 j (-5000) 5000=X:=⟨_,rfl⟩;rw[V]at hE;have⟨M,t⟩:=hyd2 hF V;clear V hF
  cases X1 with
  | false=>
   obtain rfl:2=E:=hE;go_enter Tryz.func4,Tryz.ntmps4;go_wp2_with (first | (go_at_call 21;((with_reducible refine(qAM _ p _ (ag.out.below (alc1 _ _)) 0 M.out).mono ?_);rintro e w' ⟨vb,rfl,f,-,I⟩;obtain⟨b,rfl,Z,c⟩:=I rfl;have A:=(Box.start w _).next f;clear f I c))| (go_at_call 22;((with_reducible refine(qAI _ _ _ _).mono ?_);rintro e w' ⟨rfl,rfl⟩;rw[t.out])));go_ret2;exact⟨_,rfl,A.below,World.ownsRow_nil _ _ _ _⟩
  | true=>
   obtain rfl:0=E:=hE;obtain⟨a1,a2⟩:=within_iff.1 t.out;go_enter Tryz.func4,Tryz.ntmps4;go_wp2_with (first | (go_at_call 21;((with_reducible refine(qAM _ p _ (ag.out.below (alc1 _ _)) 0 M.out).mono ?_);rintro e w' ⟨vb,rfl,f,-,I⟩;obtain⟨b,rfl,Z,c⟩:=I rfl;have d:=Lib.hid c;obtain⟨bf,vl,-,-,-,-,-,-,-,c7,-,-⟩:=c.cells;have A:=(Box.start w _).next f;have l:=c.lt;have aC:w.heap.size<b:=(by simp at Z;omega);clear f I c Z))| (go_at_call 22;((with_reducible refine(qAI _ _ _ _).mono ?_);rintro e w' ⟨rfl,rfl⟩;rw[t.out]))| (at_make;go_must (refine qI8 _ rfl _ _ 22 rfl _ 3 qAc p.ros.length rfl rfl (by omega) (Nat.le_refl _) ?_)));intro w3 ho Y ap;have S:=hyd1 Y;have d7:=(Y.cell (p:=⟨b,7,none⟩) l).trans c7;have au:=hyd1 ho;have a0:w'.heap.size<=w'.heap.size:=Nat.le_refl _;clear c7 Y ho;generalize hG:w'.heap.size=g at l a0 ⊢;rw[hG]at au S ap;have U:=hyd1 hG;clear hG;obtain⟨y,hy⟩:∃y,qAS p j=y:=⟨_,rfl⟩;have D:∀W:World,IsBench W b p->Calls Tryz.prog 24 #[.pointer (some ⟨b,0,none⟩),.int .i64 j] W λe w'=>e= .returned (.int .i64 y)/\∃n,w'=W.drewN n:=λW h=>by rw[<-hy];exact qEB b p j W h R (by omega) (by omega)
   have a9:=qBn R j;rw[hy]at a9;have N:=qGO p j;have O:=qMj p j;rw[hy]at O;have am:=R.adv;have aX:=R.start;have a8:=R.throw;have aR:=qNh j p.adv (by omega) am;generalize hCe:cutL p j=C at N O;have⟨aj,Q,aZ,al⟩:=hyd4 hCe D hy O;clear O hy D hCe;go_wp2;go_loopw [32,9] (λi _ wr=>∃k:Nat,k<=p.ros.length/\i= .int .i64 k/\Hid (Below g w' wr)/\Hid (wr.ownsRow g 3 1 (.slice (some ⟨g,0,none⟩) p.ros.length p.ros.length) p.ros.length ((qCD C k).map vint))) (λi _ _=>p.ros.length - (intOf i).toNat)
   case atStart=>exact⟨0,Nat.zero_le _,rfl,S,by rw[qJc,N];exact au⟩
   case round=>
    obtain⟨k,hk,rfl,B,r⟩:=hrel;have L:Below w'.heap.size w' wr:=by rw[U.out];exact B.out
    have aa:=A.next L;have ao:=Lib.hid (d.out.below L);have aN:g<=wr.heap.size:=by have:=L.size;have:=U.out;omega
    clear L
    by_cases aP:k<p.ros.length
    ·obtain⟨p0,p1,p2,p3,p4,p5⟩:=aa.prog;obtain⟨w5,wl,-,hl,-,-,-,-,c6,c7,-,-⟩:=d.out.cells;have av:=Int.emod_nonneg ((k:Int) - y) (show(p.ros.length:Int)≠0 by omega);have a7:=Int.emod_lt_of_pos ((k:Int) - y) (show(0:Int)<(p.ros.length:Int)by omega);obtain⟨q,hq⟩:∃q:Nat,((k:Int) - y)%(p.ros.length:Int)=(q:Int):=⟨_,(Int.toNat_of_nonneg av).symm⟩;have ae:q<(qAP p.ros p.rub).length :=by rw[qAQ];omega
     have P:=al.out k (by omega)
     have an:atR (qAP p.ros p.rub) ((k:Int) - y)=(qAP p.ros p.rub)[q]:=by
      have h1:atR (qAP p.ros p.rub) ((k:Int) - y)=atR (qAP p.ros p.rub) (q:Int):=qDU _ _ _ (by rw[qAQ,hq];exact(Int.emod_eq_of_lt (by omega) (by omega)).symm);rw[h1,qC2 q ae]
     rw[an]at P;have hx:=(rosOk_iff.1 (qDT R.ros R.rub)).2.2 q ae;obtain⟨lA,lc,rfl,a4,a5,-,-⟩:=id hl;obtain⟨lb,lo,rfl,aq,ad⟩:=hl.look ae;rw[U.out]at aq;have c6:=(B.out.cell (p:=⟨b,6,none⟩) l).trans c6;have c7:=(B.out.cell (p:=⟨b,7,none⟩) l).trans c7;have ad:=(B.out.cell (p:=⟨lb,lo+q,none⟩) aq).trans ad;rw[qAQ]at c6 a4;have s1:=λW o u=>qCs (show w.heap.size≠g by omega) W k o u;have s2:=λW o u=>qCs (show b≠g by omega) W k o u;have s3:=λW o u=>qCs (show lb≠g by omega) W k o u;unfold maxLen at a5;generalize (qAP p.ros p.rub)[q]=x at ad hx P
     have m:∀W:World,Calls Tryz.prog 23 #[.int .i64 ((k:Int) - y),.int .i64 p.ros.length] W λe w'=>e= .returned (.int .i64 q)/\W=w':=λW=>by
      have h:=qBE ((k:Int) - y) p.ros.length W (by omega) (by omega) (by unfold Mid;omega);rw[hq]at h;exact h
     have hm:=qFZ x p.throw hx a8;rw[Int.mul_comm]at hm;have J:=qKb C k (by omega);obtain⟨z,hz⟩:=qKc C k (by omega);have T:=qFO C k (by omega);rw[P]at J;have i1:(0:Int)<=(k:Int):=by omega
     have i2:(k:Int)<(p.ros.length:Int):=by omega
     have i3:(0:Int)<=(q:Int):=by omega
     have i4:(q:Int)<(p.ros.length:Int):=by omega
     have j1:IntKind.i64.wrap (j*p.adv)=j*p.adv:=IntWalk.i64_in _ (by omega);have j2:IntKind.i64.wrap (p.start+j*p.adv)=p.start+j*p.adv:=IntWalk.i64_in _ (by omega);have j3:IntKind.i64.wrap ((k:Int) - y)=(k:Int) - y:=IntWalk.i64_in _ (by omega);have j4:IntKind.i64.wrap (p.throw*x)=p.throw*x:=IntWalk.i64_in _ (by omega);have j5:IntKind.i64.wrap (p.start+j*p.adv+p.throw*x)=p.start+j*p.adv+p.throw*x:=IntWalk.i64_in _ (by omega);have aY:w.heap.size<wr.heap.size:=aa.lt;have⟨G,af,ac,aU,aO⟩:=hyd5 m J T hq hl;clear hl hq T J m;have aA:=hyd1 hz;have aL:=qEl r.out (by have:=ac.out;omega) aA.out;have aM:=r.out.frozenAt k;clear an P av a7 hz p0 p1 p5;go_wp2
     go_region_held3 (λw'=>w'.cell? ⟨w.heap.size,2,none⟩=some (.int .i64 p.start)/\w'.cell? ⟨w.heap.size,3,none⟩=some (.int .i64 p.throw)/\w'.cell? ⟨w.heap.size,4,none⟩=some (.int .i64 p.adv)/\w'.cell? ⟨b,6,none⟩=some (.slice (some ⟨lb,lo,none⟩) p.ros.length lc)/\w'.cell? ⟨b,7,none⟩=some (.int .i64 p.ros.length)/\w'.cell? ⟨lb,lo+q,none⟩=some (.int .i64 x)) (go_keep) (first | (go_at_call 24;refine(Q.out _ (by first |exact ao.out.drew|exact ao.out)).mono ?_;rintro e w' ⟨rfl,nd,rfl⟩)| (go_at_call 23;refine(G.out _).mono ?_;rintro e w' ⟨rfl,rfl⟩))
     go_wp2;go_roundw
     case rel=>exact⟨k+1,by omega,by go_num,Lib.hid ((qAF B.out _).setCell (p:=⟨g,k,none⟩) (Nat.le_refl _) _),Lib.hid (by have h:=qHT (qLU r.out (1+nd)) k (p.start+j*p.adv+p.throw*x);rw[af.out]at h;exact h)⟩
     case measure=>simp[intOf];omega
    ·obtain rfl:k=p.ros.length:=by omega
     have H:=r.out;rw[<-N,qKa]at H;have ab:=hyd1 H;clear H;go_wp2;go_ret2;exact⟨_,rfl,aa.below,by rw[qL6,aj.out];exact qBv (by simpa[N]using ab.out) (by omega)⟩
 ·rw[if_pos s]at hE;subst hE;have aT:(F != 0)=true:=by simpa using s
  have hn:=Lib.hid (qNg s (cutL p j));have⟨M,ak⟩:=hyd2 hF s;clear s hF;go_enter Tryz.func4,Tryz.ntmps4;go_wp2_with (first | (go_at_call 21;((with_reducible refine(qAM _ p _ (ag.out.below (alc1 _ _)) F M.out).mono ?_);rintro e w' ⟨vb,rfl,f,ar,-⟩;have a6:=ar ak.out;subst a6;clear ar)));go_ret2;exact⟨_,rfl,((Box.start w _).next f).below,by rw[hn.out];exact World.ownsRow_nil _ _ _ _⟩
end Go.Proofs.YtbcbcdgbliheoaaGreat
namespace Go.Proofs.YtbcbcdgbliheoaaGreat
set_option maxRecDepth 100000
set_option maxHeartbeats 4000000
open Go.RowKit Go.Shelf
set_option linter.unusedVariables false
set_option linter.unusedSimpArgs false
attribute [local go_sem] Oper.semAt_some
theorem Kept.drewN (n₀:Nat) (Bs:List Nat) (W:World) (n:Nat):Kept n₀ Bs W (W.drewN n):=⟨qAF (Below.refl _ _) n,λ_ _=>rfl⟩
theorem qJd (W:World) (n:Nat) (row:Option Nat):W.grownBy (W.drewN n) row:=⟨rfl,rfl,rfl,Nat.le_refl _,λ_ _ _=>rfl⟩
def phAt (p:Prog) (a:Int) (n:Nat) (i:Fin n):Array Value:=#[.int .i64 (a+i.1),.int .i64 (qAS p (a+i.1))]
theorem qEb (p:Prog) (hp:BenchFacts p) (b:Nat) (a:Int) (n:Nat) (w0 w:World) (B1 B2 B3 n₀:Nat) (hbench:IsBench w0 b p) (ha: -100000<=a/\a<=100000) (hn:n<=100000) (h1:B1<w.heap.size) (h2:B2<w.heap.size) (h3:B3<w.heap.size)
  (hn₀:n₀<=w.heap.size) (h0:w0.heap.size<=n₀) (hb:Below w0.heap.size w0 w) (c1:w.cell? ⟨B1,0,none⟩=some (.int .i64 n)) (c2:w.cell? ⟨B2,0,none⟩=some (.int .i64 a)) (c3:w.cell? ⟨B3,0,none⟩=some (.pointer (some ⟨b,0,none⟩))):
  qG8 Tryz.prog 54 #[.pointer (some ⟨B1,0,none⟩),.pointer (some ⟨B2,0,none⟩),.pointer (some ⟨B3,0,none⟩)] n (phAt p a n) n₀ [B1,B2,B3] w:=by
 intro l J I W t j _ G v;have f:=(t.cell (p:=⟨B1,0,none⟩) h1).trans c1;have g:=(t.cell (p:=⟨B2,0,none⟩) h2).trans c2;have h:=(t.cell (p:=⟨B3,0,none⟩) h3).trans c3;have y:Below w0.heap.size w0 W:=hb.trans (t.mono (Nat.le_trans h0 hn₀));have m:=hyd1 j;clear c1 c2 c3 j;refine callsIn_of_wp Tryz.func54 rfl trivial ?_ rfl;simp only[Tryz.ntmps54,List.size_toArray,List.length_cons,List.length_nil,Nat.reduceAdd,Nat.reduceSub,Array.replicate_succ,Array.replicate_zero,List.push_toArray,List.append_toArray,List.nil_append,List.cons_append];gi_wp2;gi_loopw [7,5] (λi _ wr=>∃k:Nat,k<=n/\i= .int .i64 k/\J ((List.finRange n).take k) wr/\Kept n₀ [B1,B2,B3] W wr)
  (λi _ _=>n - (intOf i).toNat)
 case atStart=>exact⟨0,Nat.zero_le _,rfl,v,Kept.refl _ _ _⟩
 case round=>
  obtain⟨k,Q,rfl,o,c⟩:=hrel
  by_cases d:k<n
  ·have M:=(c.cell (B:=B1) (i:=0) (by simp)).trans f;have N:=(c.cell (B:=B2) (i:=0) (by simp)).trans g;have O:=(c.cell (B:=B3) (i:=0) (by simp)).trans h;have z:=Lib.hid (hbench.below (y.trans (c.1.mono h0)));have R:IntKind.i64.wrap (a+(k:Int))=a+k:=IntWalk.i64_in _ (by omega);clear f g h;gi_wp2;refine qBQ qL8 9 (by kernel_rfl) (by kernel_rfl) (by kernel_rfl) ?_;simp only[List.take_succ_cons,List.take_zero,List.drop_succ_cons,List.drop_zero]
   repeat (go_big_quiet_step (exact Calls.quiet_of (qEB b p _ _ (z.out.drewN _) hp (by omega) (by omega))))
   refine wpQuiet_nil ?_;intro _ C;obtain⟨nq,r⟩:=C;subst r;obtain⟨P,E,s,D,H,F⟩:=G _ ⟨k,d⟩ (wr.drewN nq) (m.out _ _ _ none o (qJd _ _ _) (by simp)) (by simp;omega);dsimp only[phAt]at H;gi_wp2;refine F.mono ?_;rintro e L (⟨rfl,x,A⟩| ⟨rfl,q⟩)
   ·gi_wp2;go_roundw
    case rel=>exact⟨k+1,by omega,by go_num,by rw[qA4 k d];exact x,(c.trans (Kept.drewN _ _ _ _)).trans A⟩
    case measure=>simp[intOf];omega
   ·gi_wp2;refine bodyPost_ret (results_none rfl _ _ _) rfl ?_;exact⟨⟨_,rfl⟩,.inr ⟨_,⟨_,by rw[<-qA4 k d];exact List.take_append_drop _ _⟩,q⟩⟩
  ·obtain rfl:k=n:=by omega
   gi_wp2;go_end0;exact⟨⟨_,rfl⟩,.inl ⟨_,List.take_of_length_le (by simp),o⟩⟩
theorem qHo (b:Nat) (a n:Int) (w:World):
  Calls Tryz.prog 29 #[.pointer (some ⟨b,0,none⟩),.int .i64 a,.int .i64 n] w λe w'=>
   e= .returned (.func (.func 54) #[] #[.pointer (some ⟨w.heap.size+1+1,0,none⟩),.pointer (some ⟨w.heap.size+1,0,none⟩),.pointer (some ⟨w.heap.size,0,none⟩)])∧
   ((w.alloc (.cells #[.pointer (some ⟨b,0,none⟩)] 62)).alloc (.cells #[.int .i64 a] 3)).alloc (.cells #[.int .i64 n] 3)=w':=by
 have c:∀(fn:Fn) (first cap:Array Value) (w:World),(Instr.makeFunc fn first cap).run Tryz.prog w= .ok (.func fn first cap) w:=λ_ _ _ _=>rfl;go_enter Tryz.func29,Tryz.ntmps29;go_wp2;go_ret;exact⟨rfl,rfl⟩
end Go.Proofs.YtbcbcdgbliheoaaGreat
namespace Go.Proofs.YtbcbcdgbliheoaaGreat
set_option maxRecDepth 100000
set_option maxHeartbeats 4000000
open Go.RowKit Go.Shelf
set_option linter.unusedVariables false
set_option linter.unusedSimpArgs false
attribute [local go_sem] Oper.semAt_some
end Go.Proofs.YtbcbcdgbliheoaaGreat
namespace Go.Proofs.YtbcbcdgbliheoaaGreat
set_option maxRecDepth 100000
set_option maxHeartbeats 4000000
open Go.RowKit Go.Shelf Go.Maps
set_option linter.unusedVariables false
set_option linter.unusedSimpArgs false
attribute [local go_sem] Oper.semAt_some
attribute [local go_sem ↓] Go.wp_at_zero Go.wp_at_succ
theorem Twins.next {w:World} {cs z:Array Value} {W W2:World} (h:Twins w cs z W) (hb:Below W.heap.size W W2):Twins w cs z W2:=
 ⟨h.below.trans (hb.mono h.below.size),Nat.le_trans h.size hb.size,(hb.block _ (gsl h.box)).trans h.box,(hb.block _ (gsl h.out)).trans h.out⟩
theorem qF4 (W:World) (n:Nat) (v:Value) (t:TypeId):((W.drewN n).alloc (.cells #[v] t)).heap[W.heap.size]? =some (.cells #[v] t):=qAk (W.drewN n) _
theorem qMk (W:World) (n:Nat) (v:Value) (t:TypeId):((W.drewN n).alloc (.cells #[v] t)).cell? ⟨W.heap.size,0,none⟩=some v:=qAH (qF4 W n v t)
theorem qMl (W:World) (n:Nat) (v:Value) (t:TypeId):((W.drewN n).alloc (.cells #[v] t)).frozen? ⟨W.heap.size,0,none⟩=false:=qAK (qF4 W n v t) 0
theorem qLk (W:World) (n:Nat) (v:Value) (t:TypeId):((W.alloc (.cells #[v] t)).drewN n).cell? ⟨W.heap.size,0,none⟩=some v:=qAH (W:=(W.alloc (.cells #[v] t)).drewN n) (qAk W _)
theorem qLl (W:World) (n:Nat) (v:Value) (t:TypeId):((W.alloc (.cells #[v] t)).drewN n).frozen? ⟨W.heap.size,0,none⟩=false:=qAK (W:=(W.alloc (.cells #[v] t)).drewN n) (qAk W _) 0
structure Two (w:World) (b c:Nat) (p q:Prog) (T:Nat) (W:World):Prop where
 below:Below w.heap.size w W
 one:IsBench W b p
 two:IsBench W c q
 box:W.heap[T]? =some (.cells #[.pointer (some ⟨c,0,none⟩)] 62)
theorem Two.next {w:World} {b c:Nat} {p q:Prog} {T:Nat} {W W2:World} (h:Two w b c p q T W) (hb:Below W.heap.size W W2):Two w b c p q T W2:=
 ⟨h.below.trans (hb.mono h.below.size),h.one.below hb,h.two.below hb,(hb.block _ (gsl h.box)).trans h.box⟩
theorem Two.drewN {w:World} {b c:Nat} {p q:Prog} {T:Nat} {W:World} (h:Two w b c p q T W) (n:Nat):Two w b c p q T (W.drewN n):=h.next (Below.of_drewN _ _)
theorem Two.boxedA {w:World} {b c:Nat} {p q:Prog} {T:Nat} {W:World} (h:Two w b c p q T W) (hs:w.heap.size<=W.heap.size) (n:Nat) (v v':Value) (t:TypeId):
  ∃Wx,((W.drewN n).alloc (.cells #[v] t)).setCell ⟨W.heap.size,0,none⟩ v'=Wx/\Two w b c p q T Wx/\Wx.heap[W.heap.size]? =some (.cells #[v'] t)/\Wx.heap.size=W.heap.size+1:=by
 refine⟨_,rfl,(h.drewN n).next ?_,?_,by simp[World.setCell]⟩
 ·exact(alc1 (W.drewN n) _).setCell (p:=⟨W.heap.size,0,none⟩) (Nat.le_refl _) _
 ·rw[qAy (qF4 W n v t)];rfl
theorem Two.boxedB {w:World} {b c:Nat} {p q:Prog} {T:Nat} {W:World} (h:Two w b c p q T W) (hs:w.heap.size<=W.heap.size) (n:Nat) (v v':Value) (t:TypeId):
  ∃Wx,((W.alloc (.cells #[v] t)).drewN n).setCell ⟨W.heap.size,0,none⟩ v'=Wx/\Two w b c p q T Wx/\Wx.heap[W.heap.size]? =some (.cells #[v'] t)/\Wx.heap.size=W.heap.size+1:=by
 refine⟨_,rfl,h.next ?_,?_,by simp[World.setCell]⟩
 ·exact(qAF (alc1 W _) n).setCell (p:=⟨W.heap.size,0,none⟩) (Nat.le_refl _) _
 ·rw[qAy (W:=(W.alloc (.cells #[v] t)).drewN n) (qAk W _)];rfl
theorem qLm {H:Type} (W:World) (P:Program) (k:TypeId) (R:Value->Option (DataW H×List MemPlace)) (t:TypeId):
  ∃W5,(W.alloc (.map #[] 0)).alloc (.cells #[.map (some W.heap.size)] t)=W5/\W5.heap.size=W.heap.size+2/\Below W.heap.size W W5/\W5.ownsMap P k R W.heap.size 0 (.map [])/\W5.heap[W.heap.size+1]? =some (.cells #[.map (some W.heap.size)] t):=
 ⟨_,rfl,by simp,alc2 _ _ _,(World.ownsMap_made W P k R).alloc _,by have h:=heap_alloc_new (W.alloc (.map #[] 0)) (.cells #[.map (some W.heap.size)] t);rw[World.size_alloc]at h;exact h⟩
theorem qGn (w:World) (o0 o1 o2:Obj):∃W0,((w.alloc o0).alloc o1).alloc o2=W0/\W0.heap.size=w.heap.size+3/\Below w.heap.size w W0∧
  W0.heap[w.heap.size]? =some o0/\W0.heap[w.heap.size+1]? =some o1/\W0.heap[w.heap.size+2]? =some o2:=by
 refine⟨_,rfl,by simp,alc3 _ _ _ _,?_,?_,?_⟩
 ·exact(Below.heap_alloc _ _ _ (by simp<;>omega)).trans ((Below.heap_alloc _ _ _ (by simp)).trans (heap_alloc_new _ _))
 ·exact(Below.heap_alloc _ _ _ (by simp)).trans (by have h:=heap_alloc_new (w.alloc o0) o1;rw[World.size_alloc]at h;exact h)
 ·have h:=heap_alloc_new ((w.alloc o0).alloc o1) o2;rw[World.size_alloc,World.size_alloc]at h;exact h
def qFs (p:Prog) (n:Nat) (i:Fin n):Array Value:=#[.int .i64 (i.1:Nat),.int .i64 (qAS p (i.1:Nat))]
structure Met (P:Program) (k e:TypeId) (W0:World) (M n₀:Nat) (Bs:List Nat) (xs:List Int) (W:World):Prop where
 kept:Kept n₀ Bs W0 W
 size:W0.heap.size<=W.heap.size
 own:W.ownsMap P k (plainElem (H:=Unit) P e) M xs.length (Maps.setOf (.lit (.bool true)) (xs.map litI))
theorem Met.from {β:Type} {P:Program} {k e:TypeId} {W0:World} {M n₀:Nat} {Bs:List Nat} (g:β->List Int) (hM:M<W0.heap.size) (hn:n₀<=W0.heap.size) (hBs:∀B∈Bs,B<W0.heap.size):
  OwnFrom W0.heap.size (λs W=>Met P k e W0 M n₀ Bs (g s) W):=by
 rintro s X Y j ⟨f,i,h⟩ c b;exact⟨f.trans ⟨(Below.refl _ _).grown c (by omega) λk e=>Nat.le_trans hn (b k e).1,λB d=>c.block B (by have:=hBs B d;omega) (λe=>by have:=(b _ e.symm).1;have:=hBs B d;omega)⟩,Nat.le_trans i c.size,h.kept c (λe=>by have:=(b _ e.symm).1;omega)⟩
theorem Met.step {P:Program} {k e:TypeId} {W0:World} {M n₀:Nat} {Bs:List Nat} {xs:List Int} {W:World} (h:Met P k e W0 M n₀ Bs xs W) (n:Nat) {W2:World} (x:Int) (hM:M<W0.heap.size) (hn:n₀<=M) (hBs:∀B∈Bs,B<W0.heap.size/\B≠M)
  (ho2:W2.ownsMap P k (plainElem (H:=Unit) P e) M (xs.length+1) ((Maps.setOf (.lit (.bool true)) (xs.map litI)).put (litI x) (.lit (.bool true)))) (hg:(W.drewN n).grownBy W2 (some M)):
  KeepsFrom W0.heap.size W W2/\Kept n₀ Bs W W2/\Met P k e W0 M n₀ Bs (xs++[x]) W2:=by
 have d:=h.size;have b:Kept n₀ Bs W W2:=(Kept.drewN n₀ Bs W n).trans ⟨(Below.refl n₀ (W.drewN n)).grown hg (by simp;omega) (λk e=>by cases e;exact hn),λB c=>hg.block B (by have:=(hBs B c).1;simp;omega) (λe=>by cases e;exact(hBs M c).2 rfl)⟩;refine⟨KeepsFrom.trans (Y:=W.drewN n) ⟨Nat.le_refl _,λ_ _ _ b _=>b⟩ (KeepsFrom.of_grownBy hg λj e=>by cases e;exact hM),b,h.kept.trans b,?_,?_⟩
 ·have:=hg.size;simp at this;omega
 ·rw[List.map_append,List.map_cons,List.map_nil,Maps.setOf_snoc,List.length_append];exact ho2
theorem qGo (vp vq:Value) (p q:Prog) (w:World) (hvp:IsProg w vp p) (hvq:IsProg w vq q) (hEp:qAJ p=0) (hEq:qAJ q=0) (hlen:p.ros.length=q.ros.length):
  Calls Tryz.prog 11 #[vp,vq] w λe w'=>e= .returned (.tuple #[.int .i64 (qCu p q),.int .i64 (qEt p q),.int .i64 0])/\Below w.heap.size w w':=by
 have ct:=Lib.hid hvp;have cu:=Lib.hid hvq;obtain⟨v0,v1,v5,rfl,h0,h1,h5⟩:=hvp;obtain⟨u0,u1,u5,rfl,k0,k1,k5⟩:=hvq;clear h0 h1 h5 k0 k1 k5;have hp:=qAr hEp;have hq:=qAr hEq;have dj:((p.ros.length:Int) != (q.ros.length:Int))=false:=by simp[hlen]
 have bJ:=(qB2 hp);have bM:=(qB2 hq);have dk:=hp.ros1;have dl:=hq.ros1;have cn:=qEE hp hq;have ah:∀W,Calls Tryz.prog 28 #[.int .i64 (per p),.int .i64 (per q)] W λe w'=>e= .returned (.int .i64 (qCH p q))/\∃n,w'=W.drewN n:=λW=>qIg (per p) (per q) W (by omega) (by omega);obtain⟨G,hG⟩:∃G,qCH p q=G:=⟨_,rfl⟩;rw[hG]at cn;simp only[hG]at ah;have ay:=qK4 hp hq;have F:=qHU hp hq;have bK:=hp.sh1;have bN:=hq.sh1;have bx:=(qCo hp).2.2;have b0:=(qCo hq).2.2;have aM:=λj=>qK5 hp hq j;have ag:∀j,qBL p q j=(qAS p j - qAS q j)%(qCH p q:Int):=λj=>rfl;have bT:=λj=>qBn hp j;have bV:=λj=>qBn hq j;have V:qCu p q=qAD p / Nat.gcd (qAD p) (qAD q)*qAD q:=rfl;have z:qFr p q=p.shifts.length*q.shifts.length*qCH p q:=rfl;have ad:qEt p q=(((List.range (qFr p q)).map (qBL p q)).foldl addI []).length :=rfl;rw[V];rw[V]at F;generalize hJ:qFr p q=J at*;rw[hG]at z;simp only[hG]at aM ag;have cl:=ay.2;generalize hMn:p.shifts.length*q.shifts.length=Mn at cl z;have e1:(p.shifts.length:Int)*(q.shifts.length:Int)=(Mn:Int):=by rw[<-hMn];simp
 have e2:(Mn:Int)*(G:Int)=(J:Int):=by rw[z];simp
 have j1:IntKind.i64.wrap ((p.shifts.length:Int)*(q.shifts.length:Int))=(Mn:Int):=by rw[e1];exact IntWalk.i64_in _ (by omega)
 have j2:IntKind.i64.wrap ((Mn:Int)*(G:Int))=(J:Int):=by rw[e2];exact IntWalk.i64_in _ (by omega)
 have dc:=ay.1;have⟨cE,ca,cT,cU,cI,bS,b7,aN⟩:=hyd8 hMn z e1 e2 ay F aM ag;have⟨bU,bW,cw,av,db,bz,b1,cK⟩:=hyd8 bT bV V ad hJ bx b0 bK;have⟨cN,cy,cz⟩:=hyd3 bN j1 j2;clear j2 j1 bN bK b0 bx hJ ad V bV bT ag aM F ay e2 e1 z hMn;have⟨bh,bi,cr,aR,da,cJ,cM⟩:=hyd7 hEp hEq hlen ah hG bJ bM;clear bM bJ hG ah hlen hEq hEp;refine(callsIn_wide (n:=5)).1 ?_;refine callsIn_of_wp_marks Tryz.func11 rfl trivial ?_ rfl;simp only[Tryz.ntmps11,List.size_toArray,List.length_cons,List.length_nil,Nat.reduceAdd,Nat.reduceSub,Array.replicate_succ,Array.replicate_zero,List.push_toArray,List.append_toArray,List.nil_append,List.cons_append];refine wpIn_wide.2 ?_;have ht:=Twins.start w #[v0,v1,.int .i64 p.start,.int .i64 p.throw,.int .i64 p.adv,v5] #[u0,u1,.int .i64 q.start,.int .i64 q.throw,.int .i64 q.adv,u5];go_wp2_with (first | (go_at_call 21;((with_reducible refine(qAM _ p _ (ct.out.below ht.below) 0 bh.out).mono ?_);rintro e w' ⟨vb,rfl,ac,-,bG⟩;obtain⟨b,rfl,-,R⟩:=bG rfl;have X:=Lib.hid R;have a1:=ht.next ac;obtain⟨r0,r1,r2,r3,r4,r5⟩:=qAx a1.out;clear ac bG R ht))| (go_at_call 21;((with_reducible refine(qAM _ q _ (cu.out.below a1.below) 0 bi.out).mono ?_);rintro e w' ⟨vc,rfl,C,-,a9⟩;obtain⟨c,rfl,-,O⟩:=a9 rfl;have Y:=Lib.hid O;have aa:=Lib.hid (X.out.below C);have v:=Lib.hid (a1.next C).below;clear C a9 O X a1 r0 r1 r2 r3 r4 r5)))
 have hT:Two w b c p q w'.heap.size (w'.alloc (.cells #[.pointer (some ⟨c,0,none⟩)] 62)):=⟨v.out.alloc v.out.size _,aa.out.below (alc1 _ _),Y.out.below (alc1 _ _),qAk _ _⟩;have cm:w.heap.size<=w'.heap.size:=v.out.size;have ap:w'.heap.size<(w'.alloc (.cells #[.pointer (some ⟨c,0,none⟩)] 62)).heap.size :=by simp
 generalize w'.alloc (.cells #[.pointer (some ⟨c,0,none⟩)] 62)=W2 at hT ap ⊢;generalize w'.heap.size=T at hT cm ap ⊢;clear aa Y v;obtain⟨_,_,-,-,-,-,-,-,-,c7,c8,-⟩:=hT.one.cells;obtain⟨_,_,-,-,-,-,-,-,-,d7,d8,-⟩:=hT.two.cells;have P:=qAH hT.box;go_quiet (fail);have r:=hT.drewN nq;have bs:T<(W2.drewN nq).heap.size :=ap;clear c7 c8 d7 d8 P hT ap;generalize W2.drewN nq=W3 at r bs ⊢;obtain⟨_,_,-,-,-,-,-,-,-,-,-,c9⟩:=r.one.cells;obtain⟨_,_,-,-,-,-,-,-,-,-,-,d9⟩:=r.two.cells;replace c9:W3.cell? ⟨b,9,none⟩=some (.int .i64 (per p)):=c9;replace d9:W3.cell? ⟨c,9,none⟩=some (.int .i64 (per q)):=d9;have P:=qAH r.box;have dh:=r.one.lt;have di:=r.two.lt;have z1:=λn=>qMk W3 n (.int .i64 0) 3;have z2:=λn=>qMl W3 n (.int .i64 0) 3;have z3:=λn=>qLk W3 n (.int .i64 0) 3;have z4:=λn=>qLl W3 n (.int .i64 0) 3;have s1:=λW o u=>qCs (show b≠W3.heap.size by omega) W 0 o u;have s2:=λW o u=>qCs (show c≠W3.heap.size by omega) W 0 o u;have s3:=λW o u=>qCs (show T≠W3.heap.size by omega) W 0 o u;go_wp2
 go_region_held3 (λw'=>w'.cell? ⟨b,9,none⟩=some (.int .i64 (per p))/\w'.cell? ⟨c,9,none⟩=some (.int .i64 (per q))/\w'.cell? ⟨T,0,none⟩=some (.pointer (some ⟨c,0,none⟩))) (go_keep) (first | (go_at_call 28;refine(aR.out _).mono ?_;rintro e w' ⟨rfl,nd,rfl⟩))
 all_goals clear z1 z2 z3 z4 s1 s2 s3 c9 d9 P
 rotate_left
 all_goals
  first
  | (
    obtain⟨W4,aq,an,am,E⟩:=r.boxedA r.below.size (1+nd) (.int .i64 0) (.int .i64 G) 3
    rw[aq])
  | (
    obtain⟨W4,aq,an,am,E⟩:=r.boxedB r.below.size (1+nd) (.int .i64 0) (.int .i64 G) 3
    rw[aq])
  clear aq;rename_i hHeld;clear hHeld;have dn:=r.below.size;clear r;generalize W3.heap.size=T9 at*;clear W3;have cs:=@run_makeMap Tryz.prog;have g:=hyd1 E;clear E;go_wp2;obtain⟨W5,bu,bO,au,bE,bn⟩:=qLm (H:=Unit) W4 Tryz.prog 3 (plainElem Tryz.prog 4) 74;rw[bu];clear bu cs;have ao:=an.next au;have E:=g.out;clear g;have bk:=(au.block T9 (by omega)).trans am;generalize hMd:W4.heap.size=M at*;obtain⟨_,_,-,-,-,-,-,-,-,-,c8,-⟩:=ao.one.cells;obtain⟨_,_,-,-,-,-,-,-,-,-,d8,-⟩:=ao.two.cells;have P:=qAH ao.box;have bl:=qAH bk;have j1:=cy.out;have j2:=cz.out;have⟨Q,g,ab,bj,a3⟩:=hyd5 hMd E an am au;clear au am an E hMd;refine qDB 12 (by kernel_rfl) (by kernel_rfl) ?_;simp only[List.take_succ_cons,List.take_zero,List.drop_succ_cons,List.drop_zero]
  repeat (go_big_quiet_step (fail))
  refine wpQuiet_nil ?_;intro _ aZ;obtain⟨nq,al⟩:=aZ;subst al;have bF:(W5.drewN nq).ownsMap Tryz.prog 3 (plainElem (H:=Unit) Tryz.prog 4) M 0 (.map []):=bE;have bo:(W5.drewN nq).heap[M+1]? =_:=bn;have aY:(W5.drewN nq).heap.size =M+2:=bO;have bw:=qAF a3.out nq;clear ao bE bk bn bO c8 d8 P bl a3 j1 j2;generalize W5.drewN nq=W6 at*;have aB:=hyd1 aY;clear aY;go_wp2_with (first | (go_at_call 29;((with_reducible refine(qHo _ _ _ _).mono ?_);rintro e w' ⟨rfl,rfl⟩)));have aY:=aB.out;have E:=g.out;clear aB g;obtain⟨W0,bt,bR,be,aC,Y,X⟩:=qGn W6 (.cells #[.pointer (some ⟨b,0,none⟩)] 62) (.cells #[.int .i64 0] 3) (.cells #[.int .i64 J] 3);have bD:=((bF.alloc (.cells #[.pointer (some ⟨b,0,none⟩)] 62)).alloc (.cells #[.int .i64 0] 3)).alloc (.cells #[.int .i64 J] 3);rw[bt]at bD ⊢;clear bt;have bm:=(be.block (M+1) (by omega)).trans bo;have ar:Below M W4 W0:=bw.trans (be.mono (by omega));clear bF bo bw;generalize hL6:W6.heap.size=L6 at*;have s:=qEb p hp b 0 J W4 W0 (L6+1+1) (L6+1) L6 M ab.out.one (by omega) (by omega) (by omega) (by omega) (by omega) (by omega) (by have:=Q.out;omega) (by rw[Q.out];exact ar) (qAH X) (qAH Y) (qAH aC);rw[show phAt p 0 J=qFs p J by funext i;simp[phAt,qFs]]at s;have⟨aa,cB,cC,g,A,cD⟩:=hyd6 X Y aC E bR hL6;clear hL6 bR E aC Y X;refine(wpIn_wide (n:=5)).1 ?_
  refine wpIn_rangeFunc_ownG rfl (by omega) (gf:=54) (lb:=#[.pointer (some ⟨L6+1+1,0,none⟩),.pointer (some ⟨L6+1,0,none⟩),.pointer (some ⟨L6,0,none⟩)]) rfl trivial (enters_of Tryz.func54 (by kernel_rfl) rfl)
   s Kept.trans (Kept.put (by have:=A.out;omega) (by have:=A.out;simp;omega)) (Below.refl _ _) (λ_=>rfl)
   (λI W=>Met Tryz.prog 3 4 W0 M M [M+1,L6+1+1,L6+1,L6] (I.map λ(i:Fin J)=>qBL p q i.1) W)
   (λ_ _ _=>False)
   (Met.from _ (by have:=A.out;omega) (by have:=A.out;omega) (by have:=A.out;simp;omega)) (λ_ _ _ _ _ hs _ _=>hs) ⟨Kept.refl _ _ _,Nat.le_refl _,bD⟩
   ?_ ?_ ?_ ?_ ?_
  rotate_left
  ·skip
   intro l x W K hK;dsimp only[qFs];gi_wp2;exact hK
  ·skip
   rintro l I x W d hlen;have N:=Q.out;have aX:=g.out;have ba:=A.out;have t:=ab.out.next (by rw[N];exact ar.trans d.kept.1);have P:=qAH t.box;have Z:=qAH ((d.kept.2 (M+1) (by simp)).trans bm);have bl:=qAH (((ar.trans d.kept.1).block T9 (by omega)).trans bj.out);have b4:=b7.out x.1;have aL:=aN.out x.1;have ac:=bU.out x.1;have C:=bW.out x.1;have dp:=x.2;have bH:∀n,Calls Tryz.prog 24 #[.pointer (some ⟨c,0,none⟩),.int .i64 (x.1:Nat)] (W.drewN n) λe w'=>e= .returned (.int .i64 (qAS q x.1))/\∃k,w'=(W.drewN n).drewN k:=λn=>qEB c q _ _ (t.two.drewN n) hq (by omega) (by omega);have bP:=λn W2=>d.step n (W2:=W2) (qBL p q x.1) (by omega) (Nat.le_refl _) (by simp;omega);have f:∀n,(W.drewN n).ownsMap Tryz.prog 3 (plainElem (H:=Unit) Tryz.prog 4) M (I.map λ(i:Fin J)=>qBL p q i.1).length (Maps.setOf (.lit (.bool true)) ((I.map λ(i:Fin J)=>qBL p q i.1).map litI)):=λn=>d.own;have aA:((I++[x]).map λ(i:Fin J)=>qBL p q i.1)=(I.map λ(i:Fin J)=>qBL p q i.1)++[qBL p q x.1]:=by simp
   have bB:(I.map λ(i:Fin J)=>qBL p q i.1).length <maxLen:=by simp[maxLen];omega
   generalize hy1:qAS p (x.1:Nat)=y1 at*;generalize hy2:qAS q (x.1:Nat)=y2 at*
   have ae:∀W:World,Calls Tryz.prog 23 #[.int .i64 (y1 - y2),.int .i64 G] W λe w'=>e= .returned (.int .i64 (qBL p q x.1))/\W=w':=λW=>by
    have h:=qBE (y1 - y2) G W (by omega) (by omega) (by unfold Mid;omega);rw[<-aL]at h;exact h
   have j3:IntKind.i64.wrap (y1 - y2)=y1 - y2:=IntWalk.i64_in _ (by omega);generalize qBL p q x.1=dd at*;generalize (I.map λ(i:Fin J)=>qBL p q i.1)=L at*
   have a6:(Lit.int .i64 dd).wf =true:=by
    have h:=wrap64_wf dd
    rwa[show wrap64 dd=dd by unfold wrap64;omega]at h
   have⟨cH,cG,cF,a2,bI,bQ,ai,aV⟩:=hyd8 aL b4 ac C bH bP f aA;have⟨bC,cO,cP,aw,aT,br,aK⟩:=hyd7 bB hy1 hy2 ae d t a6;clear a6 t d ae hy2 hy1 bB aA f bP bH C ac b4 aL;clear s aX ba N;gi_wp2;refine qBQ (qEs l) 8 (by kernel_rfl) (by kernel_rfl) (by kernel_rfl) ?_;simp only[List.take_succ_cons,List.take_zero,List.drop_succ_cons,List.drop_zero]
   repeat (go_big_quiet_step (first | (go_at_call 24;exact Calls.quiet_of (bI.out _))| (go_at_call 23;exact qBY (aw.out _))))
   refine wpQuiet_nil ?_;intro _ aZ;obtain⟨nq,al⟩:=aZ;subst al;gi_wp2_with (first | (gi_at_mapUpdate;refine wpListIn_mapUpdate_own _ rfl _ _ _ 74 rfl 3 4 (Maps.int_keyed Tryz.underlying3) Tryz.underlying74 _ M L.length _ rfl (ai.out nq) bC.out _ _ (litI dd) rfl rfl (Maps.keyOf_int_mk Tryz.underlying3 aK.out) _ [] (plainElem_bool Tryz.underlying4 true) ?_;intro w1 aU ax;have U:=bQ.out nq w1 aU ax));exact⟨U.1,⟨U.2.1.1,λB hB=>U.2.1.2 B (List.mem_cons_of_mem _ hB)⟩,by show Met _ _ _ _ _ _ _ _ _;rw[aV.out];exact U.2.2⟩
  ·skip
   rintro D ys W hD rfl d bg;have N:=Q.out;have aX:=g.out;have ba:=A.out;have t:=ab.out.next (by rw[N];exact ar.trans d.kept.1);have P:=qAH t.box;have Z:=qAH ((d.kept.2 (M+1) (by simp)).trans bm);have a7:((List.finRange J).map λ(i:Fin J)=>qBL p q i.1)=(List.range J).map (qBL p q):=by rw[<-qCT J,List.map_map];rfl
   have f:=d.own;replace f:W.ownsMap Tryz.prog 3 (plainElem (H:=Unit) Tryz.prog 4) M ((List.finRange J).map λ(i:Fin J)=>qBL p q i.1).length (Maps.setOf (.lit (.bool true)) (((List.finRange J).map λ(i:Fin J)=>qBL p q i.1).map litI)):=f;rw[a7]at f;have ak:Maps.size (Maps.setOf (.lit (.bool true)) (((List.range J).map (qBL p q)).map litI):DataW Unit)=(qEt p q:Nat):=by rw[qLb,av.out]
   have y:∀m n ty,(Builtin.len_ #[74] ty #[.map (some M)]).run Tryz.prog ((W.drewN m).drewN n)= .ok (.int .i64 (qEt p q:Nat)) ((W.drewN m).drewN n):=λm n ty=>by
    have h:((W.drewN m).drewN n).ownsMap Tryz.prog 3 (plainElem (H:=Unit) Tryz.prog 4) M _ _:=f;have h2:=h.len Tryz.underlying74 ty;rw[ak]at h2;exact h2
   have v:=t.below;have a4:∀n,Calls Tryz.prog 26 #[.pointer (some ⟨b,0,none⟩)] (W.drewN n) λe w'=>e= .returned (.int .i64 (qAD p))/\∃k,w'=(W.drewN n).drewN k:=λn=>qD9 b p _ (t.one.drewN n) hp;have a5:∀n,Calls Tryz.prog 26 #[.pointer (some ⟨c,0,none⟩)] (W.drewN n) λe w'=>e= .returned (.int .i64 (qAD q))/\∃k,w'=(W.drewN n).drewN k:=λn=>qD9 c q _ (t.two.drewN n) hq;have de:M<D:=by omega
   have cx:w.heap.size<=M:=by omega
   clear s aX ba N a7 ak;have F:=bS.out;have aO:=F.2.2.1;have aP:=F.2.2.2;have t1:=F.1;have t2:=F.2.1;have a8:∀W,Calls Tryz.prog 28 #[.int .i64 (qAD p),.int .i64 (qAD q)] W λe w'=>e= .returned (.int .i64 (Nat.gcd (qAD p) (qAD q)))/\∃n,w'=W.drewN n:=λW=>qIg (qAD p) (qAD q) W (by have:=bz.out;omega) (by have:=b1.out;omega);have aW:((qAD p / Nat.gcd (qAD p) (qAD q):Nat):Int)=(qAD p:Int) / (Nat.gcd (qAD p) (qAD q):Nat):=by simp
   have S:=bg;clear bg F;generalize hBT:qEt p q=BT at*;generalize hcp:qAD p=cp at*;generalize hcq:qAD q=cq at*;generalize hg2:Nat.gcd cp cq=g2 at*;have a0:(cp:Int).tdiv (g2:Int)=(cp:Int) / (g2:Int):=Int.tdiv_eq_ediv_of_nonneg (by omega);rw[<-aW]at a0;have k1:((g2:Int)==0)=false:=beq_eq_false_iff_ne.2 (by omega);generalize hD2:cp / g2=D2 at*;have⟨bd,b2,b3,b9,bf⟩:=hyd5 hBT hcp hcq hg2 hD2;clear hD2 hg2 hcq hcp hBT
   have j4:IntKind.i64.wrap ((D2:Int)*(cq:Int))=(D2:Int)*cq:=IntWalk.i64_in _ (by
    have e:(D2:Int)*(cq:Int)=((D2*cq:Nat):Int):=by simp
    rw[e];omega)
   have⟨br,aG,aH,ai,aT,aF,aQ,cL⟩:=hyd8 t a4 a5 f d v a8 aW;have⟨af,az,c2,c1,bL,bp⟩:=hyd6 S y k1 j4 a0 Z;clear Z a0 j4 k1 y S aW a8 v d f a5 a4 t;have⟨b8,bA,c4,c6⟩:=hyd4 aO aP t1 t2;clear t2 t1 aP aO;go_wp2;go_quiet (first | (go_at_call 26;with_reducible first |exact Calls.quiet_of (aG.out _)|exact Calls.quiet_of (aH.out _)));have y:=az.out;have k1:=c2.out;have j4:=c1.out;have a0:=bL.out;have Z:=bp.out;have aI:(W.drewN nq).heap[D]? =_:=af.out;have C:Below w.heap.size w (W.drewN nq):=qAF aF.out nq;have bq:(W.drewN nq).cell? ⟨M+1,0,none⟩=_:=Z;have aS:∀n ty,(Builtin.len_ #[74] ty #[.map (some M)]).run Tryz.prog ((W.drewN nq).drewN n)= .ok (.int .i64 (BT:Nat)) ((W.drewN nq).drewN n):=y nq;clear y Z;generalize W.drewN nq=W8 at aI C bq aS ⊢;have⟨b5,a2⟩:=hyd2 aI C;clear C aI;have t1:=c4.out;have t2:=c6.out;have aO:=b8.out;have aP:=bA.out;have j5:IntKind.i64.wrap (D2:Int)=(D2:Int):=IntWalk.i64_in _ (by omega);go_wp2;go_quiet (first | (go_at_call 28;with_reducible exact Calls.quiet_of (aQ.out _)));have aJ:(W8.drewN nq).heap[D]? =_:=b5.out;have aE:=qAF a2.out nq;generalize W8.drewN nq=W9 at aJ aE ⊢;have⟨b6,bv⟩:=hyd2 aJ aE;clear aE aJ;go_wp2;rw[bd.out,b2.out,b3.out,b9.out,bf.out]
   have e9:((D2*cq:Nat):Int)=(D2:Int)*cq:=by simp
   rw[e9];refine qAf M [{target:= .collected D,args:=#[]}] W9 ⟨⟨D,rfl,by omega,b6.out,by simp⟩,trivial⟩ λw9 hb co=>?_;exact⟨_,results_tmp3 rfl _ _ _,rfl,bv.out.trans (hb.mono cx)⟩
  ·skip
   rintro D cc I W _ _ h _;exact h.elim
end Go.Proofs.YtbcbcdgbliheoaaGreat
namespace Go.Proofs.YtbcbcdgbliheoaaGreat
set_option maxRecDepth 100000
set_option maxHeartbeats 4000000
open Go.RowKit
set_option linter.unusedVariables false
set_option linter.unusedSimpArgs false
theorem qIl (p q:Prog) (E:Int) (hE:qF3 p q=E):
  (qAJ p≠0/\qAJ p=E)∨(qAJ p=0/\qAJ q≠0/\qAJ q=E)∨(qAJ p=0/\qAJ q=0/\p.ros.length≠q.ros.length/\E=2)∨(qAJ p=0/\qAJ q=0/\p.ros.length=q.ros.length/\E=0):=by
 unfold qF3 at hE
 split at hE
 ·rename_i h;exact .inl ⟨h,hE⟩
 ·rename_i h;have h:qAJ p=0:=by omega
  split at hE
  ·rename_i b;exact .inr (.inl ⟨h,b,hE⟩)
  ·rename_i b;have b:qAJ q=0:=by omega
   split at hE
   ·rename_i h3;exact .inr (.inr (.inl ⟨h,b,h3,hE.symm⟩))
   ·rename_i h3;exact .inr (.inr (.inr ⟨h,b,by omega,hE.symm⟩))
theorem qF5 (vp vq:Value) (p q:Prog) (w:World) (hvp:IsProg w vp p) (hvq:IsProg w vq q) (E:Int) (hE:qF3 p q=E):
  Calls Tryz.prog 11 #[vp,vq] w λe w'=>e= .returned (.tuple #[.int .i64 (qBG E (qCu p q)),.int .i64 (qBG E (qEt p q)),.int .i64 E])/\Below w.heap.size w w':=by
 rcases qIl p q E hE with⟨h1,h2⟩| ⟨h1,h2,h3⟩| ⟨h1,h2,h3,rfl⟩| ⟨h1,h2,h3,rfl⟩
 rotate_left 3
 ·rw[qDC,qDC];exact qGo vp vq p q w hvp hvq h1 h2 h3
 all_goals
  clear hE;have x:=Lib.hid hvp;have B:=Lib.hid hvq;obtain⟨v0,v1,v5,rfl,Q,j,S⟩:=hvp;obtain⟨u0,u1,u5,rfl,Z,k1,k5⟩:=hvq;clear Q j S Z k1 k5;have r:=Twins.start w #[v0,v1,.int .i64 p.start,.int .i64 p.throw,.int .i64 p.adv,v5] #[u0,u1,.int .i64 q.start,.int .i64 q.throw,.int .i64 q.adv,u5]
 ·rw[h2]at h1;have F:(E != 0)=true:=by simpa using h1
  rw[qB3 h1,qB3 h1];have⟨j,k⟩:=hyd2 h1 h2;clear h2 h1;go_enter Tryz.func11,Tryz.ntmps11;go_wp2_with (first | (go_at_call 21;((with_reducible refine(qAM _ p _ (x.out.below r.below) E k.out).mono ?_);rintro e w' ⟨G,rfl,g,l,-⟩;have v:=l j.out;subst v;clear l)))
  go_ret3
  exact⟨rfl,(r.next g).below⟩
 ·rw[h3]at h2;have F:(E != 0)=true:=by simpa using h2
  rw[qB3 h2,qB3 h2];have⟨j,k,y⟩:=hyd3 h1 h2 h3;clear h3 h2 h1;go_enter Tryz.func11,Tryz.ntmps11;go_wp2_with (first | (go_at_call 21;((with_reducible refine(qAM _ p _ (x.out.below r.below) 0 j.out).mono ?_);rintro e w' ⟨G,rfl,g,-,m⟩;obtain⟨b,rfl,-,d⟩:=m rfl;have i:=r.next g;obtain⟨H,I,J,L,M,N⟩:=qAx i.out;clear g m d r))| (go_at_call 21;((with_reducible refine(qAM _ q _ (B.out.below i.below) E y.out).mono ?_);rintro e w' ⟨G,rfl,g,l,-⟩;have v:=l k.out;subst v;clear l)))
  go_ret3
  exact⟨rfl,((i.next g).next (alc1 _ _)).below⟩
 ·rw[qB3 (by decide),qB3 (by decide)];have C:(p.ros.length:Int)≠(q.ros.length:Int):=λe=>h3 (Int.ofNat.inj e);have U:((p.ros.length:Int) != (q.ros.length:Int))=true:=bne_iff_ne.2 C;have R:=hyd1 C;clear C;have V:=qAr h1;have hq:=qAr h2;have X:=V.ros1;have Y:=hq.ros1;have⟨j,k,y⟩:=hyd3 h1 h2 h3;clear h3 h2 h1;go_enter Tryz.func11,Tryz.ntmps11;go_wp2_with (first | (go_at_call 21;((with_reducible refine(qAM _ p _ (x.out.below r.below) 0 j.out).mono ?_);rintro e w' ⟨G,rfl,g,-,m⟩;obtain⟨b,rfl,-,d⟩:=m rfl;have z:=Lib.hid d;have i:=r.next g;obtain⟨H,I,J,L,M,N⟩:=qAx i.out;clear g m d r))| (go_at_call 21;((with_reducible refine(qAM _ q _ (B.out.below i.below) 0 k.out).mono ?_);rintro e w' ⟨vc,rfl,t,-,o⟩;obtain⟨c,rfl,-,h⟩:=o rfl;have A:=Lib.hid h;have n:=Lib.hid (z.out.below t);have f:=Lib.hid (i.next t).below;clear t o h z i H I J L M N)));have s:Two w b c p q w'.heap.size (w'.alloc (.cells #[.pointer (some ⟨c,0,none⟩)] 62)):=⟨f.out.alloc f.out.size _,n.out.below (alc1 _ _),A.out.below (alc1 _ _),qAk _ _⟩;generalize w'.alloc (.cells #[.pointer (some ⟨c,0,none⟩)] 62)=W2 at s ⊢;generalize w'.heap.size=T at s ⊢;clear n A f;obtain⟨_,_,-,-,-,-,-,-,-,O,-,-⟩:=s.one.cells;obtain⟨_,_,-,-,-,-,-,-,-,P,-,-⟩:=s.two.cells
  have D:=qAH s.box;go_quiet (fail);have f:=qAF s.below nq;generalize W2.drewN nq=W3 at f ⊢;clear O P D s;go_wp2
  go_ret3
  exact⟨rfl,f⟩
end Go.Proofs.YtbcbcdgbliheoaaGreat

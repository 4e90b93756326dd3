/- qAY laws of motifs: the least number of shifts that come again, modulo the period; after how many cuts a pattern closes. The reference of layer 4: Check, Lift. .. -/
import Derived.Test.YtabfaobakmjiaaaGreatPx24
import Derived.Deep.DrawnRows
import Derived.Maps.OwnIn
namespace Go.Proofs.YtabfaobakmjiaaaGreat
set_option maxRecDepth 100000
set_option linter.unusedVariables false
open Go.RowKit
set_option linter.unusedSimpArgs false
def qIl (p:Prog) (j:Int):List Int:=(qBX (qAs p.ros p.rub) (qD2 p j)).map (· *p.throw)
def cutL (p:Prog) (j:Int):List Int:=(qIl p j).map (· +(p.start+j*p.adv))
theorem qLm {p:Prog} (hp:BenchFacts p) (j:Int):0<=qD2 p j/\qD2 p j<p.ros.length:=by
 have:=hp.ros0;exact⟨Int.emod_nonneg _ (by omega),Int.emod_lt_of_pos _ (by omega)⟩
theorem qP9 (x t:Int) (hx:0<=x/\x<=10000) (ht:1<=t/\t<=16):0<=x*t/\x*t<=160000:=by
 have b:=Int.mul_le_mul hx.2 ht.2 (by omega) (by omega);have c:=Int.mul_nonneg hx.1 (show(0:Int)<=t by omega);omega
attribute [local go_sem ↓] Go.wp_at_zero Go.wp_at_succ
end Go.Proofs.YtabfaobakmjiaaaGreat
namespace Go.Proofs.YtabfaobakmjiaaaGreat
set_option maxRecDepth 100000
open Go.RowKit
set_option linter.unusedVariables false
set_option linter.unusedSimpArgs false
def cutE (p:Prog) (j:Int):Int:=if qCN p≠0 then qCN p else if qAC j (-5000) 5000 then 0 else 2
theorem qSE (j t:Int) (hj: -5001<=j/\j<=5001) (ht: -1000<=t/\t<=1000): -5001000<=j*t/\j*t<=5001000:=by
 rcases Int.le_total 0 t with h|h
 ·have a:=Int.mul_le_mul_of_nonneg_right hj.2 h;have b:=Int.mul_le_mul_of_nonneg_right hj.1 h;omega
 ·have a:=Int.mul_le_mul_of_nonpos_right hj.1 h;have b:=Int.mul_le_mul_of_nonpos_right hj.2 h;omega
theorem qKg (p:Prog) (j:Int):(qIl p j).length =p.ros.length:=by simp[qIl,qD7,qAb]
attribute [local go_sem ↓] Go.wp_at_zero Go.wp_at_succ
end Go.Proofs.YtabfaobakmjiaaaGreat
namespace Go.Proofs.YtabfaobakmjiaaaGreat
set_option maxRecDepth 100000
open Go.RowKit
set_option linter.unusedVariables false
set_option linter.unusedSimpArgs false
theorem IsBench.lt {w:World} {b:Nat} {p:Prog} (h:IsBench w b p):b<w.heap.size:=by
 obtain⟨d,f,g,i,c,_⟩:=h;exact(gsl c)
theorem IsBench.drew {w:World} {b:Nat} {p:Prog} (h:IsBench w b p):IsBench w.drew b p:=h.below (Below.refl _ _).drew
theorem IsBench.cells {w:World} {b:Nat} {p:Prog} (h:IsBench w b p):∃v5 vl,Ints w v5 p.shifts/\Ints w vl (qAs p.ros p.rub)∧
  w.cell? ⟨b,2,none⟩=some (.int .i64 p.start)/\w.cell? ⟨b,3,none⟩=some (.int .i64 p.throw)/\w.cell? ⟨b,4,none⟩=some (.int .i64 p.adv)/\w.cell? ⟨b,5,none⟩=some v5∧
  w.cell? ⟨b,6,none⟩=some vl/\w.cell? ⟨b,7,none⟩=some (.int .i64 p.ros.length)/\w.cell? ⟨b,8,none⟩=some (.int .i64 p.shifts.length)/\w.cell? ⟨b,9,none⟩=some (.int .i64 (qEM (qAs p.ros p.rub))):=by
 obtain⟨v,x,v5,vl,n,s,t,m,o⟩:=h;obtain⟨q,r,c,d,f,g,i,j,k,l⟩:=qJy n;exact⟨v5,vl,m,o,c,d,f,g,i,j,k,l⟩
attribute [local go_sem ↓] Go.wp_at_zero Go.wp_at_succ
end Go.Proofs.YtabfaobakmjiaaaGreat
namespace Go.Proofs.YtabfaobakmjiaaaGreat
set_option maxRecDepth 100000
open Go.RowKit
set_option linter.unusedVariables false
set_option linter.unusedSimpArgs false
set_option maxHeartbeats 4000000
attribute [local go_sem ↓] Go.wp_at_zero Go.wp_at_succ
theorem qD4 (p:Prog) (j:Int):(cutL p j).length =p.ros.length:=by simp[cutL,qKg]
theorem qLn (p:Prog) (j:Int) (k:Nat) (h:k<(cutL p j).length):(cutL p j)[k]=p.start+j*p.adv+p.throw*atR (qAs p.ros p.rub) ((k:Int) - qD2 p j):=by
 rw[qD4]at h
 have b:(cutL p j)[k]? =some (p.start+j*p.adv+p.throw*atR (qAs p.ros p.rub) ((k:Int) - qD2 p j)):=by
  simp only[cutL,qIl,qBX,qAb,List.getElem?_map,List.getElem?_range h,Option.map_some];rw[Int.mul_comm p.throw,Int.add_comm]
 exact(List.getElem?_eq_some_iff.1 b).2
def qCo (l:List Int) (k:Nat):List Int:=l.take k++List.replicate (l.length - k) 0
theorem qMo (l:List Int):qCo l 0=qGg l.length:=by simp[qCo,qGg]
theorem qOS (l:List Int):qCo l l.length=l:=by simp[qCo]
theorem qGa (l:List Int) (k:Nat) (h:k<=l.length):(qCo l k).length =l.length:=by simp[qCo];omega
theorem qOT (l:List Int) (k:Nat) (h:k<l.length):(qCo l k).set k l[k]=qCo l (k+1):=by
 apply List.ext_getElem?;intro i;unfold qCo;rw[List.getElem?_set]
 by_cases b:k=i
 ·subst b;rw[if_pos rfl,if_pos (by simp;omega),List.getElem?_append_left (by simp;omega)];simp[List.getElem?_take,h]
 ·rw[if_neg b]
  by_cases c:i<k
  ·rw[List.getElem?_append_left (by simp;omega),List.getElem?_append_left (by simp;omega)];simp[List.getElem?_take,c,show i<k+1 by omega]
  ·rw[List.getElem?_append_right (by simp;omega),List.getElem?_append_right (by simp;omega)];simp only[List.length_take,List.getElem?_replicate]
   congr 1;apply propext;omega
theorem qOU (l:List Int) (k:Nat) (h:k<l.length):∃y,(qCo l k)[k]? =some y:=by
 have:k<(qCo l k).length :=by rw[qGa l k (by omega)];exact h
 exact⟨_,List.getElem?_eq_getElem this⟩
theorem qOV (v:Value) (p:Prog) (j:Int) (w:World) (hv:IsProg w v p) (E:Int) (hE:cutE p j=E):
  Calls Tryz.prog 54 #[v,.int .i64 j] w λe w'=>∃v',e= .returned (.tuple #[v',.int .i64 E])/\Below w.heap.size w w'/\w'.ownsRow w.heap.size 3 1 v' (onOk E (cutL p j)).length ((onOk E (cutL p j)).map vint):=by
 have ag:=Lib.hid hv;obtain⟨v0,v1,v5,rfl,h0,a3,h5⟩:=hv;clear h0 a3 h5;unfold cutE at hE;obtain⟨F,hF⟩:∃F,qCN p=F:=⟨_,rfl⟩;rw[hF]at hE
 by_cases s:F=0
 ·subst s;have R:=qI9 hF;have aV:=R.ros0;have aW:=R.ros1;obtain⟨X1,V⟩:∃X,qAC j (-5000) 5000=X:=⟨_,rfl⟩;rw[V]at hE;have⟨M,t⟩:=hyd2 hF V;clear V hF
  cases X1 with
  | false=>
   obtain rfl:2=E:=hE;go_enter Tryz.func54,Tryz.ntmps54;go_wp2_with (first | (go_at_call 107;((with_reducible refine(qGI _ p _ (ag.out.below (alc1 _ _)) 0 M.out).mono ?_);rintro e w' ⟨vb,rfl,f,-,I⟩;obtain⟨b,rfl,Z,c⟩:=I rfl;have A:=(Box.start w _).next f;clear f I c))| (go_at_call 106;((with_reducible refine(qAw _ _ _ _).mono ?_);rintro e w' ⟨rfl,rfl⟩;rw[t.out])));go_ret2;exact⟨_,rfl,A.below,World.ownsRow_nil _ _ _ _⟩
  | true=>
   obtain rfl:0=E:=hE;obtain⟨a1,a2⟩:=within_iff.1 t.out;go_enter Tryz.func54,Tryz.ntmps54;go_wp2_with (first | (go_at_call 107;((with_reducible refine(qGI _ p _ (ag.out.below (alc1 _ _)) 0 M.out).mono ?_);rintro e w' ⟨vb,rfl,f,-,I⟩;obtain⟨b,rfl,Z,c⟩:=I rfl;have d:=Lib.hid c;obtain⟨bf,vl,-,-,-,-,-,-,-,c7,-,-⟩:=c.cells;have A:=(Box.start w _).next f;have l:=c.lt;have aC:w.heap.size<b:=(by simp at Z;omega);clear f I c Z))| (go_at_call 106;((with_reducible refine(qAw _ _ _ _).mono ?_);rintro e w' ⟨rfl,rfl⟩;rw[t.out]))| (at_make;go_must (refine qLF _ rfl _ _ 56 rfl _ 3 qB0 p.ros.length rfl rfl (by omega) (Nat.le_refl _) ?_)));intro w3 ho Y ap;have S:=hyd1 Y;have d7:=(Y.cell (p:=⟨b,7,none⟩) l).trans c7;have au:=hyd1 ho;have a0:w'.heap.size<=w'.heap.size:=Nat.le_refl _;clear c7 Y ho;generalize hG:w'.heap.size=g at l a0 ⊢;rw[hG]at au S ap;have U:=hyd1 hG;clear hG;obtain⟨y,hy⟩:∃y,qD2 p j=y:=⟨_,rfl⟩;have D:∀W:World,IsBench W b p->Calls Tryz.prog 109 #[.pointer (some ⟨b,0,none⟩),.int .i64 j] W λe w'=>e= .returned (.int .i64 y)/\∃n,w'=W.drewN n:=λW h=>by rw[<-hy];exact qQ0 b p j W h R (by omega) (by omega)
   have a9:=qLm R j;rw[hy]at a9;have N:=qD4 p j;have O:=qLn p j;rw[hy]at O;have am:=R.adv;have aX:=R.start;have a8:=R.throw;have aR:=qSE j p.adv (by omega) am;generalize hCe:cutL p j=C at N O;have⟨aj,Q,aZ,al⟩:=hyd4 hCe D hy O;clear O hy D hCe;go_wp2;go_loopw [32,9] (λi _ wr=>∃k:Nat,k<=p.ros.length/\i= .int .i64 k/\Hid (Below g w' wr)/\Hid (wr.ownsRow g 3 1 (.slice (some ⟨g,0,none⟩) p.ros.length p.ros.length) p.ros.length ((qCo C k).map vint))) (λi _ _=>p.ros.length - (intOf i).toNat)
   case atStart=>exact⟨0,Nat.zero_le _,rfl,S,by rw[qMo,N];exact au⟩
   case round=>
    obtain⟨k,hk,rfl,B,r⟩:=hrel;have L:Below w'.heap.size w' wr:=by rw[U.out];exact B.out
    have aa:=A.next L;have ao:=Lib.hid (d.out.below L);have aN:g<=wr.heap.size:=by have:=L.size;have:=U.out;omega
    clear L
    by_cases aP:k<p.ros.length
    ·obtain⟨p0,p1,p2,p3,p4,p5⟩:=aa.prog;obtain⟨w5,wl,-,hl,-,-,-,-,c6,c7,-,-⟩:=d.out.cells;have av:=Int.emod_nonneg ((k:Int) - y) (show(p.ros.length:Int)≠0 by omega);have a7:=Int.emod_lt_of_pos ((k:Int) - y) (show(0:Int)<(p.ros.length:Int)by omega);obtain⟨q,hq⟩:∃q:Nat,((k:Int) - y)%(p.ros.length:Int)=(q:Int):=⟨_,(Int.toNat_of_nonneg av).symm⟩;have ae:q<(qAs p.ros p.rub).length :=by rw[qAb];omega
     have P:=al.out k (by omega)
     have an:atR (qAs p.ros p.rub) ((k:Int) - y)=(qAs p.ros p.rub)[q]:=by
      have h1:atR (qAs p.ros p.rub) ((k:Int) - y)=atR (qAs p.ros p.rub) (q:Int):=qNK _ _ _ (by rw[qAb,hq];exact(Int.emod_eq_of_lt (by omega) (by omega)).symm);rw[h1,qFq q ae]
     rw[an]at P;have hx:=(rosOk_iff.1 (qFC R.ros R.rub)).2.2 q ae;obtain⟨lA,lc,rfl,a4,a5,-,-⟩:=id hl;obtain⟨lb,lo,rfl,aq,ad⟩:=hl.look ae;rw[U.out]at aq;have c6:=(B.out.cell (p:=⟨b,6,none⟩) l).trans c6;have c7:=(B.out.cell (p:=⟨b,7,none⟩) l).trans c7;have ad:=(B.out.cell (p:=⟨lb,lo+q,none⟩) aq).trans ad;rw[qAb]at c6 a4;have s1:=λW o u=>qF2 (show w.heap.size≠g by omega) W k o u;have s2:=λW o u=>qF2 (show b≠g by omega) W k o u;have s3:=λW o u=>qF2 (show lb≠g by omega) W k o u;unfold maxLen at a5;generalize (qAs p.ros p.rub)[q]=x at ad hx P
     have m:∀W:World,Calls Tryz.prog 108 #[.int .i64 ((k:Int) - y),.int .i64 p.ros.length] W λe w'=>e= .returned (.int .i64 q)/\W=w':=λW=>by
      have h:=qEg ((k:Int) - y) p.ros.length W (by omega) (by omega) (by unfold Mid;omega);rw[hq]at h;exact h
     have hm:=qP9 x p.throw hx a8;rw[Int.mul_comm]at hm;have J:=qOT C k (by omega);obtain⟨z,hz⟩:=qOU C k (by omega);have T:=qGa C k (by omega);rw[P]at J;have i1:(0:Int)<=(k:Int):=by omega
     have i2:(k:Int)<(p.ros.length:Int):=by omega
     have i3:(0:Int)<=(q:Int):=by omega
     have i4:(q:Int)<(p.ros.length:Int):=by omega
     have j1:IntKind.i64.wrap (j*p.adv)=j*p.adv:=IntWalk.i64_in _ (by omega);have j2:IntKind.i64.wrap (p.start+j*p.adv)=p.start+j*p.adv:=IntWalk.i64_in _ (by omega);have j3:IntKind.i64.wrap ((k:Int) - y)=(k:Int) - y:=IntWalk.i64_in _ (by omega);have j4:IntKind.i64.wrap (p.throw*x)=p.throw*x:=IntWalk.i64_in _ (by omega);have j5:IntKind.i64.wrap (p.start+j*p.adv+p.throw*x)=p.start+j*p.adv+p.throw*x:=IntWalk.i64_in _ (by omega);have aY:w.heap.size<wr.heap.size:=aa.lt;have⟨G,af,ac,aU,aO⟩:=hyd5 m J T hq hl;clear hl hq T J m;have aA:=hyd1 hz;have aL:=qQP r.out (by have:=ac.out;omega) aA.out;have aM:=r.out.frozenAt k;clear an P av a7 hz p0 p1 p5;go_wp2
     go_region_held3 (λw'=>w'.cell? ⟨w.heap.size,2,none⟩=some (.int .i64 p.start)/\w'.cell? ⟨w.heap.size,3,none⟩=some (.int .i64 p.throw)/\w'.cell? ⟨w.heap.size,4,none⟩=some (.int .i64 p.adv)/\w'.cell? ⟨b,6,none⟩=some (.slice (some ⟨lb,lo,none⟩) p.ros.length lc)/\w'.cell? ⟨b,7,none⟩=some (.int .i64 p.ros.length)/\w'.cell? ⟨lb,lo+q,none⟩=some (.int .i64 x)) (go_keep) (first | (go_at_call 109;refine(Q.out _ (by first |exact ao.out.drew|exact ao.out)).mono ?_;rintro e w' ⟨rfl,nd,rfl⟩)| (go_at_call 108;refine(G.out _).mono ?_;rintro e w' ⟨rfl,rfl⟩))
     go_wp2;go_roundw
     case rel=>exact⟨k+1,by omega,by go_num,Lib.hid ((qAL B.out _).setCell (p:=⟨g,k,none⟩) (Nat.le_refl _) _),Lib.hid (by have h:=qRg (qOs r.out (1+nd)) k (p.start+j*p.adv+p.throw*x);rw[af.out]at h;exact h)⟩
     case measure=>simp[intOf];omega
    ·obtain rfl:k=p.ros.length:=by omega
     have H:=r.out;rw[<-N,qOS]at H;have ab:=hyd1 H;clear H;go_wp2;go_ret2;exact⟨_,rfl,aa.below,by rw[qPB,aj.out];exact qBr (by simpa[N]using ab.out) (by omega)⟩
 ·rw[if_pos s]at hE;subst hE;have aT:(F != 0)=true:=by simpa using s
  have hn:=Lib.hid (qRm s (cutL p j));have⟨M,ak⟩:=hyd2 hF s;clear s hF;go_enter Tryz.func54,Tryz.ntmps54;go_wp2_with (first | (go_at_call 107;((with_reducible refine(qGI _ p _ (ag.out.below (alc1 _ _)) F M.out).mono ?_);rintro e w' ⟨vb,rfl,f,ar,-⟩;have a6:=ar ak.out;subst a6;clear ar)));go_ret2;exact⟨_,rfl,((Box.start w _).next f).below,by rw[hn.out];exact World.ownsRow_nil _ _ _ _⟩
end Go.Proofs.YtabfaobakmjiaaaGreat
namespace Go.Proofs.YtabfaobakmjiaaaGreat
set_option maxRecDepth 100000
set_option maxHeartbeats 4000000
open Go.RowKit Go.Shelf
set_option linter.unusedVariables false
set_option linter.unusedSimpArgs false
attribute [local go_sem] Oper.semAt_some
end Go.Proofs.YtabfaobakmjiaaaGreat
namespace Go.Proofs.YtabfaobakmjiaaaGreat
set_option maxRecDepth 100000
set_option maxHeartbeats 4000000
open Go.RowKit Go.Shelf
set_option linter.unusedVariables false
set_option linter.unusedSimpArgs false
attribute [local go_sem] Oper.semAt_some
end Go.Proofs.YtabfaobakmjiaaaGreat
namespace Go.Proofs.YtabfaobakmjiaaaGreat
set_option maxRecDepth 100000
set_option maxHeartbeats 4000000
open Go.RowKit Go.Shelf Go.Maps
set_option linter.unusedVariables false
set_option linter.unusedSimpArgs false
attribute [local go_sem] Oper.semAt_some
attribute [local go_sem ↓] Go.wp_at_zero Go.wp_at_succ
end Go.Proofs.YtabfaobakmjiaaaGreat
namespace Go.Proofs.YtabfaobakmjiaaaGreat
set_option maxRecDepth 100000
set_option maxHeartbeats 4000000
open Go.RowKit
set_option linter.unusedVariables false
set_option linter.unusedSimpArgs false
set_option maxHeartbeats 1000000
def qBx (p:Prog) (noise:Int) (j k:Nat):List Rd:=(List.range k).map λ(i:Nat)=>⟨(j:Int),(i:Int),(cutL p j).getD i 0 - noise,(cutL p j).getD i 0+noise⟩
def qBp (p:Prog) (noise:Int) (j:Nat):List Rd:=(List.range j).flatMap λ(j:Nat)=>qBx p noise j p.ros.length
def seeE (p:Prog) (cuts noise:Int):Int:=if qCN p≠0 then qCN p else if !(qAC cuts 1 12&&qAC noise 0 1000)then 2 else if 60<cuts*(p.ros.length:Int)then 4 else 0
def seeV (p:Prog) (cuts noise:Int):List Rd:=if seeE p cuts noise=0 then qBp p noise cuts.toNat else[]
theorem qJ2 {p:Prog} {cuts noise E:Int} (h:seeE p cuts noise=E) (h0:E≠0):seeE p cuts noise=E/\seeV p cuts noise=[]:=⟨h,by unfold seeV;rw[h,if_neg h0]⟩
theorem qQq {p:Prog} {cuts noise E:Int} (hE:qCN p=E) (h0:E≠0):seeE p cuts noise=E/\seeV p cuts noise=[]:=qJ2 (by unfold seeE;rw[hE,if_pos h0]) h0
theorem qNW {p:Prog} {cuts noise:Int} (hE:qCN p=0) (h:(qAC cuts 1 12&&qAC noise 0 1000)=false):seeE p cuts noise=2/\seeV p cuts noise=[]:=qJ2 (by unfold seeE;rw[hE,if_neg (by decide),h];rfl) (by decide)
theorem qQr {p:Prog} {cuts noise:Int} (hE:qCN p=0) (h:(qAC cuts 1 12&&qAC noise 0 1000)=true) (h6:60<cuts*(p.ros.length:Int)):seeE p cuts noise=4/\seeV p cuts noise=[]:=qJ2 (by unfold seeE;rw[hE,if_neg (by decide),h,if_neg (by decide),if_pos h6]) (by decide)
theorem qSl {p:Prog} {cuts noise:Int} (hE:qCN p=0) (h:(qAC cuts 1 12&&qAC noise 0 1000)=true) (h6:¬60<cuts*(p.ros.length:Int)):seeE p cuts noise=0/\seeV p cuts noise=qBp p noise cuts.toNat:=by
 have e:seeE p cuts noise=0:=by unfold seeE;rw[hE,if_neg (by decide),h,if_neg (by decide),if_neg h6]
 exact⟨e,by unfold seeV;rw[e,if_pos rfl]⟩
theorem qMp (p:Prog) (noise:Int) (j k:Nat):qBx p noise j (k+1)=qBx p noise j k++[⟨(j:Int),(k:Int),(cutL p j).getD k 0 - noise,(cutL p j).getD k 0+noise⟩]:=by unfold qBx;rw[List.range_succ,List.map_append];rfl
theorem qIm (p:Prog) (noise:Int) (j:Nat):qBp p noise (j+1)=qBp p noise j++qBx p noise j p.ros.length:=by unfold qBp;rw[List.range_succ,List.flatMap_append];simp
theorem qGb (p:Prog) (noise:Int) (j k:Nat):(qBx p noise j k).length =k:=by simp[qBx]
theorem qLo (p:Prog) (noise:Int) (j:Nat):(qBp p noise j).length =j*p.ros.length:=by
 induction j with
 | zero=>simp[qBp]
 | succ j ih=>rw[qIm,List.length_append,ih,qGb,Nat.add_mul,Nat.one_mul]
theorem qOW {p:Prog} (hp:BenchFacts p) (j:Nat) (hj:j<=11) (i:Nat) (hi:i<p.ros.length): -11000<=(cutL p j).getD i 0/\(cutL p j).getD i 0<=181000:=by
 have g:i<(cutL p j).length :=by rw[qD4];exact hi
 rw[List.getD_eq_getElem?_getD,List.getElem?_eq_getElem g];show -11000<=(cutL p j)[i]/\(cutL p j)[i]<=181000;rw[qLn];have c:=rosOk_iff.1 (qFC hp.ros hp.rub);obtain⟨q,hq,-,e⟩:=qSA (qAs p.ros p.rub) (by omega) ((i:Int) - qD2 p j);rw[e];have b:=c.2.2 q hq;have h:=hp.start;have f:=hp.throw;have d:=hp.adv;have k:=Int.mul_nonneg (show(0:Int)<=p.throw by omega) b.1;have l:=Int.mul_le_mul f.2 b.2 b.1 (by decide);have m:=Int.mul_le_mul_of_nonneg_left d.1 (show(0:Int)<=(j:Int)by omega);have n:=Int.mul_le_mul_of_nonneg_left d.2 (show(0:Int)<=(j:Int)by omega);omega
def SeeI (W1:World) (L:List Rd) (vo:Value) (W:World):Prop:=Below W1.heap.size W1 W/\W.ownsRow W1.heap.size 60 4 vo L.length (L.flatMap qAZ)
theorem qQs {w w':World} {base e size n X:Nat} {v:Value} {xs:List Value} {cs:Array Value} {t:TypeId} (h:w.ownsRow base e size v n xs) (hg:w.grownBy w' v.ownBlock) (hX:w.heap[X]? =some (.cells cs t (0,0))) (ht:e≠t):w'.heap[X]? =some (.cells cs t (0,0)):=by
 refine(hg.block X (gsl hX) (λb=>?_)).trans hX
 rcases h.2 with⟨rfl,_⟩| ⟨g,cap,cur,rfl,-,hh,-⟩
 ·simp[Value.ownBlock]at b
 ·have:X=g:=by simpa[Value.ownBlock]using b
  subst this;rw[hX]at hh;injection hh with hh;injection hh with _ hh;exact ht hh.symm
def SeeJ (W1:World) (L:List Rd) (gc:Nat) (cur:Array Value) (vo:Value) (W:World):Prop:=Below W1.heap.size W1 W/\W.ownsRow W1.heap.size 60 4 vo L.length (L.flatMap qAZ)/\W.heap[gc]? =some (.cells cur 3 (0,0))
theorem qKG (v:Value) (p:Prog) (cuts noise:Int) (w:World) (hv:IsProg w v p) (hc:qAO cuts) (hno:qAO noise):
  Calls Tryz.prog 21 #[v,.int .i64 cuts,.int .i64 noise] w λe w'=>∃v',e= .returned (.tuple #[v',.int .i64 (seeE p cuts noise)])/\Below w.heap.size w w'/\RdsL w' v' (seeV p cuts noise):=by
 have a2:=hv;obtain⟨v0,v1,v5,rfl,h0,h1,h5⟩:=hv;obtain⟨A0,c0,rfl,-⟩:=id h0;obtain⟨A1,c1,rfl,-⟩:=id h1;obtain⟨A5,c5,rfl,-⟩:=id h5;obtain⟨W1,b7,ap,k1⟩:=newb w (.cells #[.slice A0 p.ros.length c0,.slice A1 p.rub.length c1,.int .i64 p.start,.int .i64 p.throw,.int .i64 p.adv,.slice A5 p.shifts.length c5] 69);obtain⟨d0,d1,d2,d3,d4,d5⟩:=pc6 k1;have a1:=a2.below ap;obtain⟨E,hE⟩:∃E,qCN p=E:=⟨_,rfl⟩;have bp:=qFL _ p W1 a1 E hE;have w1:=λW=>qAl cuts 1 12 W;have w2:=λW=>qAl noise 0 1000 W;have⟨bj,cj,ck,cm,aU,bC,bR,bq⟩:=hyd8 a2 h0 h1 h5 ap k1 a1 bp;have⟨r,A,P,cr,bP⟩:=hyd5 hE w1 w2 hc hno;clear hno hc w2 w1 hE bp a1 k1 ap h5 h1 h0 a2;go_enter Tryz.func21,Tryz.ntmps21;go_wp2_with (fail);clear b7;go_at_call 53;refine bq.out.mono ?_;rintro e Y ⟨rfl,G⟩;have D:=qAA aU.out G;have k2:=blk G bC.out;clear d0 d1 d2 d3 d4 d5;obtain⟨d0,d1,d2,d3,d4,d5⟩:=pc6 k2
 by_cases aa:E=0
 ·subst aa;have hp:=qI9 r.out;obtain⟨B1,am⟩:∃B,qAC cuts 1 12=B:=⟨_,rfl⟩;obtain⟨B2,an⟩:∃B,qAC noise 0 1000=B:=⟨_,rfl⟩;have w1:=A.out;have w2:=P.out;rw[am]at w1;rw[an]at w2;clear A P;have⟨aV,c,bn,az,C,R,A,P⟩:=hyd8 G D k2 hp am an w1 w2;clear w2 w1 an am hp k2 D G
  cases B1 with
  | false=>
   have F:=qNW r.out (show(qAC cuts 1 12&&qAC noise 0 1000)=false by rw[C.out];rfl);have b:=hyd1 F;clear F;go_wp2_with (first | (go_at_call 28;((with_reducible refine(A.out _).mono ?_);rintro e w' ⟨rfl,rfl⟩)));exact bodyPost_ret (v:= .tuple #[.slice none 0 0,.int .i64 2]) (by simp[results,Tryz.results21,go_sem]) rfl ⟨_,by rw[b.out.1],c.out,by rw[b.out.2];exact SV.nil _⟩
  | true=>
   cases B2 with
   | false=>
    have F:=qNW r.out (show(qAC cuts 1 12&&qAC noise 0 1000)=false by rw[C.out,R.out];rfl);have b:=hyd1 F;clear F;go_wp2_with (first | (go_at_call 28;((with_reducible refine(A.out _).mono ?_);rintro e w' ⟨rfl,rfl⟩))| (go_at_call 28;((with_reducible refine(P.out _).mono ?_);rintro e w' ⟨rfl,rfl⟩)));exact bodyPost_ret (v:= .tuple #[.slice none 0 0,.int .i64 2]) (by simp[results,Tryz.results21,go_sem]) rfl ⟨_,by rw[b.out.1],c.out,by rw[b.out.2];exact SV.nil _⟩
   | true=>
    obtain⟨r1,r2⟩:=within_iff.1 C.out;obtain⟨r3,r4⟩:=within_iff.1 R.out;obtain⟨n,rfl⟩:∃n:Nat,cuts=n:=⟨cuts.toNat,by omega⟩;obtain⟨q,z⟩:∃s,p.ros.length=s:=⟨_,rfl⟩;have ah:3<=q/\q<=96:=by have:=az.out.ros0;have:=az.out.ros1;omega
    obtain⟨M,hM⟩:∃M:Nat,n*q=M:=⟨_,rfl⟩;have aP:(n:Int)*(q:Int)=(M:Int):=by rw[<-hM];simp
    have cp:M<=12*96:=by rw[<-hM];exact Nat.mul_le_mul (by omega) ah.2
    rw[z]at d0;have O:(qAC (n:Int) 1 12&&qAC noise 0 1000)=true:=by rw[C.out,R.out];rfl
    have z1:IntKind.i64.wrap (M:Int)=(M:Int):=IntWalk.i64_in _ (by omega)
    by_cases cn:60<M
    ·have Q:(60:Int)<(M:Int):=by omega
     have F:=qQr r.out O (by rw[z,aP];exact Q);have⟨b,f,b6,bk⟩:=hyd4 F z hM O;clear O hM z F;go_wp2_with (first | (go_at_call 28;((with_reducible refine(A.out _).mono ?_);rintro e w' ⟨rfl,rfl⟩))| (go_at_call 28;((with_reducible refine(P.out _).mono ?_);rintro e w' ⟨rfl,rfl⟩)));exact bodyPost_ret (v:= .tuple #[.slice none 0 0,.int .i64 4]) (by simp[results,Tryz.results21,go_sem]) rfl ⟨_,by rw[b.out.1],c.out,by rw[b.out.2];exact SV.nil _⟩
    ·have Q:¬(60:Int)<(M:Int):=by omega
     have F:=qSl r.out O (by rw[z,aP];exact Q);have⟨b,f,b6,bk⟩:=hyd4 F z hM O;clear O hM z F;go_wp2_with (first | (go_at_call 28;((with_reducible refine(A.out _).mono ?_);rintro e w' ⟨rfl,rfl⟩))| (go_at_call 28;((with_reducible refine(P.out _).mono ?_);rintro e w' ⟨rfl,rfl⟩)));have aI:SeeI Y (qBp p noise 0) (.slice none 0 0) Y:=⟨Below.refl _ _,World.ownsRow_nil _ _ _ _⟩;have aJ:=hyd1 aI;clear aI;go_loopw [37,9] (λkx vo wr=>∃j:Nat,j<=n/\kx= .int .i64 (j:Int)/\Hid (SeeI Y (qBp p noise j) vo wr)) (λkx _ _=>n - (intOf kx).toNat)
     case atStart=>exact⟨0,Nat.zero_le _,rfl,aJ⟩
     case round=>
      obtain⟨j,hj,rfl,hI⟩:=hrel;obtain⟨H,ho⟩:=hI.out;obtain⟨AO,cO,rfl⟩:=qAF ho;obtain⟨N,hN⟩:∃N,(qBp p noise j).length =N:=⟨_,rfl⟩;rw[hN];rw[hN]at ho;have X:=qAA c.out H;have k3:=blk H bn.out;clear d0 d1 d2 d3 d4 d5;obtain⟨d0,d1,d2,d3,d4,d5⟩:=pc6 k3;rw[f.out]at d0
      by_cases cu:j<n
      ·have j1:(j:Int)<(n:Int):=by omega
       have ar:cutE p (j:Int)=0:=by
        unfold cutE;rw[r.out,if_neg (by decide),if_pos (within_iff.2 ⟨by omega,by omega⟩)]
       have a3:=qOV _ p (j:Int) wr (bj.out.below X) 0 ar;rw[f.out]at a3;have⟨b4,T,bd,aj,bD,bM,br,ab⟩:=hyd8 hI H ho X k3 ar a3 hN;clear hN a3 ar k3 X ho H hI;go_wp2_with (fail);go_at_call 54;refine br.out.mono ?_;rintro e W3 ⟨vc,rfl,ac,ay⟩;rw[show onOk 0 (cutL p (j:Int))=cutL p (j:Int)from rfl,qD4,f.out]at ay
       obtain⟨Z,cc,g,rfl,ct,hg,cv,cs,b8,bi⟩:∃Z cc g,vc= .slice (some ⟨Z,0,none⟩) q cc/\wr.heap.size<=Z/\W3.heap[Z]? =some (.cells g 3 (0,0))/\q<=cc/\cc<=maxLen/\g.size=cc*1/\g.toList.take (q*1)=(cutL p (j:Int)).map vint:=by
        rcases ay.2 with⟨-,e⟩|h
        ·omega
        ·exact h
       have hcut:∀(W:World) (i:Nat),W.heap[Z]? =some (.cells g 3 (0,0))->i<q->W.cell? ⟨Z,i,none⟩=some (.int .i64 ((cutL p (j:Int)).getD i 0)):=λW i h hi=>by
        have h1:g[i]? =some (.int .i64 ((cutL p (j:Int)).getD i 0)):=by
         have h2:(g.toList.take (q*1))[i]? =g.toList[i]? :=List.getElem?_take_of_lt (by omega);rw[bi,List.getElem?_map]at h2;rw[<-Array.getElem?_toList,<-h2,List.getD_eq_getElem?_getD,List.getElem?_eq_getElem (by rw[qD4,f.out];exact hi)]
         rfl
        have h3:W.cell? ⟨Z,i,none⟩=g[i]? :=by simp[World.cell?,h]
        rw[h3,h1]
       have aX:∀i,i<q-> -11000<=(cutL p (j:Int)).getD i 0/\(cutL p (j:Int)).getD i 0<=181000:=λi hi=>qOW az.out j (by omega) i (by rw[f.out];exact hi);have aK:SeeJ Y (qBp p noise j++qBx p noise j 0) Z g (.slice AO N cO) W3:=⟨T.out.trans (ac.mono T.out.size),by rw[show qBx p noise j 0=[]from rfl,List.append_nil,ab.out];exact qAI bd.out ac,hg⟩;clear ay hg bi b8;have⟨aL,au,aY,bK⟩:=hyd4 aK hcut aX ac;clear ac aX hcut aK;clear d0 d1 d2 d3 d4 d5;go_wp2_with (fail);go_loopw [51,9] (λkx vo wv=>∃i:Nat,i<=q/\kx= .int .i64 (i:Int)/\Hid (SeeJ Y (qBp p noise j++qBx p noise j i) Z g vo wv)) (λkx _ _=>q - (intOf kx).toNat)
       case atStart=>exact⟨0,Nat.zero_le _,rfl,aL⟩
       case round=>
        obtain⟨i,hi,rfl,hJ⟩:=hrel;rename World=>wv
        obtain⟨I,m,J⟩:=hJ.out;obtain⟨AV,cV,rfl⟩:=qAF m;have d:(qBp p noise j++qBx p noise j i).length =N+i:=by rw[List.length_append,ab.out,qGb]
        obtain⟨NV,y⟩:∃k,N+i=k:=⟨_,rfl⟩;rw[d,y]at m;rw[d,y];obtain⟨LL,t⟩:∃L,qBp p noise j++qBx p noise j i=L:=⟨_,rfl⟩;rw[t]at m d hJ
        by_cases ae:i<q
        ·have q0:=au.out wv i J ae;have qb:=aY.out i ae;have a0:qBp p noise j++qBx p noise j (i+1)=LL++[⟨(j:Int),(i:Int),(cutL p j).getD i 0 - noise,(cutL p j).getD i 0+noise⟩]:=by rw[qMp,<-List.append_assoc,t]
         obtain⟨x,hx⟩:∃x,(cutL p (j:Int)).getD i 0=x:=⟨_,rfl⟩;rw[hx]at q0 qb a0;have j2:(i:Int)<(q:Int):=by omega
         have j3:(0:Int)<=(i:Int):=by omega
         obtain⟨c6,c8⟩:=qb;obtain⟨Wa,cq,S,ka⟩:=newb wv (.cells #[.int .i64 (j:Int),.int .i64 (i:Int),.int .i64 (x - noise),.int .i64 (x+noise)] 60);obtain⟨bs,bt,bu,bv⟩:=pc4 ka
         have af:∀(k:Nat) (u:Value),(qAZ ⟨(j:Int),(i:Int),x - noise,x+noise⟩)[k]? =some u->Wa.cell? ⟨wv.heap.size,k,none⟩=some u:=λk u hu=>by
          have b9:k<4:=(List.getElem?_eq_some_iff.1 hu).1
          match k,b9 with
          | 0,_=>rw[bs];simpa[qAZ]using hu
          | 1,_=>rw[bt];simpa[qAZ]using hu
          | 2,_=>rw[bu];simpa[qAZ]using hu
          | 3,_=>rw[bv];simpa[qAZ]using hu
         have be:=qAI m S;have U:=qAA I S;have bl:=U.size;have aZ:=blk S J
         have aS:NV<=1200:=by
          have h1:=qLo p noise j;rw[ab.out,f.out]at h1;have h2:j*q<=11*96:=Nat.mul_le_mul (by omega) ah.2;omega
         clear bs bt bu bv hi;have⟨b5,aW,bf,bb,l,o,aO,ag⟩:=hyd8 hJ I m J d y t a0;have⟨cx,bL,cy,aw,V,aq,ba,aT⟩:=hyd8 hx S ka af be U aZ aS;clear aS aZ U be af ka S hx a0 t y d J m I hJ;go_wp2_with (first | (at_builtin;go_must (refine qE3 (enc:=qAZ) (k:=4) (bytes:=32) _ rfl _ _ 49 (λ_=>rfl) (λx u hu=>by simp[qAZ]at hu;rcases hu with rfl|rfl|rfl|rfl<;>rfl) (by decide) rfl (by decide) rfl Y.heap.size 60 Tryz.underlying49 qHX (.slice AV NV cV) LL rfl (by rw[l.out,o.out];exact V.out) wv.heap.size ⟨(j:Int),(i:Int),x - noise,x+noise⟩ rfl aw.out (by rw[l.out,o.out];have:=aT.out;omega) bl ?_)));intro v7 w7 q1 q2 q3;have ad:w7.ownsRow Y.heap.size 60 4 v7 (NV+1) ((qBp p noise j++qBx p noise j (i+1)).flatMap qAZ):=by rw[l.out,o.out]at q1;rw[ag.out,List.flatMap_append,List.flatMap_singleton];exact q1
         have av:(qBp p noise j++qBx p noise j (i+1)).length =NV+1:=by rw[ag.out,List.length_append,l.out,o.out];rfl
         obtain⟨A7,c7,rfl⟩:=qAF ad;have aQ:SeeJ Y (qBp p noise j++qBx p noise j (i+1)) Z g (.slice A7 (NV+1) c7) w7:=⟨aq.out.trans (qNS V.out q2 bl),by rw[av];exact ad,qQs V.out q2 ba.out (by decide)⟩;have⟨c2,bS,c3,c4,bO,aR⟩:=hyd6 q1 ad q2 q3 av aQ;clear aQ av q3 q2 ad q1;go_wp2;go_roundw
         case rel=>exact⟨i+1,by omega,by go_num,aR⟩
         case measure=>simp[intOf];omega
        ·obtain rfl:i=q:=by omega
         have aM:SeeI Y (qBp p noise (j+1)) (.slice AV NV cV) wv:=⟨I,by rw[qIm,f.out,t,d,y];exact m⟩;have⟨b5,aW,bf,bb,l,o,aO,aN⟩:=hyd8 hJ I m J d y t aM;clear aM t y d J m I hJ;go_wp2;go_roundw
         case rel=>exact⟨j+1,by omega,by go_num,aN⟩
         case measure=>simp[intOf];omega
      ·obtain rfl:j=n:=by omega
       have bg:RdsL wr (.slice AO N cO) (qBp p noise j):=SV.of_own (base:=Y.heap.size) (e:=60) (enc:=qAZ) (k:=4) (λ_=>rfl) (by rw[hN];exact ho);have⟨b4,T,bd,aj,bD,ab,bh⟩:=hyd7 hI H ho X k3 hN bg;clear bg hN k3 X ho H hI;go_wp2;exact bodyPost_ret (v:= .tuple #[.slice AO N cO,.int .i64 0]) (by simp[results,Tryz.results21,go_sem]) rfl ⟨_,by rw[b.out.1],aj.out,by rw[b.out.2];exact bh.out⟩
 ·have co:(E != 0)=true:=by simpa using aa
  have cw:¬E=0:=aa;have F:=qQq (cuts:=cuts) (noise:=noise) r.out aa;have⟨aV,c,bn,b⟩:=hyd4 G D k2 F;clear F k2 D G;go_wp2;exact bodyPost_ret (v:= .tuple #[.slice none 0 0,.int .i64 E]) (by simp[results,Tryz.results21,go_sem]) rfl ⟨_,by rw[b.out.1],c.out,by rw[b.out.2];exact SV.nil _⟩
def exF2:Fnd:=⟨0,2,10,0,200⟩
theorem qTP:qBE exP exF 100=0:=by kernel_rfl
theorem qSm:qDC exP exF 100=[[0,3],[1,4]]:=by kernel_rfl
theorem qTQ:qBE exP exF2 101=6:=by kernel_rfl
theorem qTR:qBE exP exF 101=2:=by kernel_rfl
theorem xm_c:qE0 exP=6:=by kernel_rfl
theorem qTS:qD9 exQ=6:=by kernel_rfl
theorem qTT:ccE exQ [3,4]=0:=by kernel_rfl
theorem qTU:ccE exQ [0,3,4]=8:=by kernel_rfl
theorem qTV:ccE exQ []=8:=by kernel_rfl
theorem qTW:rebE [0,5,5,0,0,0] [0,5,5,0,0,0] [0,0,0]=6:=by kernel_rfl
theorem qSn:rebN [0,5,5,0,0,0] [0,5,5,0,0,0] [0,0,0]=1:=by kernel_rfl
theorem qTX:rebE [1,0,0] [0,0,0] [0]=2:=by kernel_rfl
def exG:Prog:={ros:=[0,3,0],rub:=[0],start:=9,throw:=1,adv:=0,shifts:=[1]}
theorem qTY:seeE exG 2 1=0:=by kernel_rfl
theorem qSo:seeV exG 2 1=[⟨0,0,8,10⟩,⟨0,1,11,13⟩,⟨0,2,8,10⟩,⟨1,0,8,10⟩,⟨1,1,8,10⟩,⟨1,2,11,13⟩]:=by kernel_rfl
theorem qTZ:seeE exG 13 0=2:=by kernel_rfl
def exB:Pic:={exP with th:=17}
def exE:Pic:={hs:=[],tl:=0,th:=0,al:=0,ah:=0,rds:=[]}
theorem qT0:picE exB=90:=by kernel_rfl
theorem qT1:picE exE=90:=by kernel_rfl
end Go.Proofs.YtabfaobakmjiaaaGreat

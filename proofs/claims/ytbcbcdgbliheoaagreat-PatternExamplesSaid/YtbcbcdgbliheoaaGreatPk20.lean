/- pattern.Fit: the shortest list of shifts of some phases. barleycornref04.Fit. -/
import Derived.Test.YtbcbcdgbliheoaaGreatPk05
import Derived.Shelf.RegionOpen
import Derived.Deep.DrawnRows
import Derived.StillTailTactics
namespace Go.Proofs.YtbcbcdgbliheoaaGreat
set_option maxRecDepth 100000
set_option maxHeartbeats 4000000
open Go.RowKit Go.Lib
set_option linter.unusedVariables false
set_option linter.unusedSimpArgs false
attribute [local go_sem] Oper.semAt_some
attribute [local go_sem ↓] Go.wp_at_zero Go.wp_at_succ
def fitD (l:List Int) (n:Int):List Int:=(List.range (l.length - 1)).map fun(i:Nat)=>(l.getD (i+1) 0 - l.getD i 0)%n
theorem qGQ (l:List Int) (n:Int):(fitD l n).length =l.length - 1:=by simp[fitD]
theorem qNA (l:List Int) (n:Int) (i:Nat) (h:i<l.length - 1):(fitD l n)[i]'(by rw[qGQ];exact h)=(l.getD (i+1) 0 - l.getD i 0)%n:=by simp[fitD]
def qB6 (d:List Int) (k:Nat):Bool:=d.drop (k+1)==d.take (d.length - k - 1)
def qN4 (x n:Int):Bool:=decide (0≤x)&&decide (x<n)
def qFc (l:List Int) (n:Int):Bool:=qA0 n 3 96&&(decide (2≤l.length)&& !l.any (fun x=> !qN4 x n))
def fitK (d:List Int) (m:Nat):Option Nat:=(List.range m).find? (qB6 d)
theorem qHt (d:List Int) (m:Nat) (h:∀j,j<m→qB6 d j=false):fitK d m=none:=by
 unfold fitK;rw[List.find?_eq_none];intro x hx;rw[h x (List.mem_range.1 hx)];simp
theorem qNB (d:List Int) (m k:Nat) (hk:k<m) (h:qB6 d k=true) (hn:∀j,j<k→qB6 d j=false):fitK d m=some k:=by
 unfold fitK;obtain⟨r,rfl⟩:∃r,m=k+(1+r):=⟨m - k - 1,by omega⟩;rw[List.range_add,List.find?_append];have h1:(List.range k).find? (qB6 d)=none:=qHt d k hn;rw[h1,Option.none_or];simp[List.range_add,h]
def fitE (l:List Int) (n:Int):Int:=if 200<l.length then 4 else if qFc l n then(if (fitK (fitD l n) (min 12 (l.length - 1))).isSome then 0 else 4)else 2
def fitL (l:List Int) (n:Int):List Int:=if 200<l.length then[]else if qFc l n then(match fitK (fitD l n) (min 12 (l.length - 1))with |some k=>(fitD l n).take (k+1)|none=>[])else[]
theorem qKl (x n:Int) (B:Nat) (w:World) (hc:w.cell? ⟨B,0,none⟩=some (.int .i64 n)):
  Calls Tryz.prog 32 (#[.int .i64 x]++#[.pointer (some ⟨B,0,none⟩)]) w fun e w'=>e= .returned (.bool (!qN4 x n))∧w=w':=by
 show Calls Tryz.prog 32 #[.int .i64 x,.pointer (some ⟨B,0,none⟩)] w _
 unfold qN4
 by_cases h0:x<0
 ·have h1:¬0≤x:=by omega
  go_enter Tryz.func32,Tryz.ntmps32;go_wp2;go_ret;exact⟨by simp[h1],rfl⟩
 ·have h1:0≤x:=by omega
  by_cases h2:n≤x
  ·have h3:¬x<n:=by omega
   go_enter Tryz.func32,Tryz.ntmps32;go_wp2;go_ret;exact⟨by simp[h3],rfl⟩
  ·have h3:x<n:=by omega
   go_enter Tryz.func32,Tryz.ntmps32;go_wp2;go_ret;exact⟨by simp[h1,h3],rfl⟩
theorem qKm (v:Value) (l:List Int) (n:Int) (w:World) (hv:Ints w v l):
  Calls Tryz.prog 13 #[v,.int .i64 n] w fun e w'=>∃v',e= .returned (.tuple #[v',.int .i64 (fitE l n)])∧Below w.heap.size w w'∧w'.ownsRow w.heap.size 3 1 v' (fitL l n).length ((fitL l n).map vint):=by
 have hv0:=Lib.hid hv;obtain⟨A,c,rfl,hlc,hcm,_,hr⟩:=hv;unfold maxLen at hcm;clear hr
 by_cases hbig:200<l.length
 ·have e1:fitE l n=4:=by unfold fitE;rw[if_pos hbig]
  have e2:fitL l n=[]:=by unfold fitL;rw[if_pos hbig]
  rw[e1,e2];have⟨e1',e2'⟩:=hyd2 e1 e2;clear e2 e1;go_enter Tryz.func13,Tryz.ntmps13;go_wp2;go_ret2;exact⟨_,rfl,alc1 _ _,World.ownsRow_nil _ _ _ _⟩
 ·have hcont:∀W,W.cell? ⟨w.heap.size,0,none⟩=some (.int .i64 n)→Below w.heap.size w W→Calls Tryz.prog 33 #[.slice A l.length c,.func (.func 32) #[] #[.pointer (some ⟨w.heap.size,0,none⟩)]] W fun e w'=>e= .returned (.bool (l.any (fun x=> !qN4 x n)))∧W=w':=fun W h1 h2=>qBb _ _ _ _ l W (hv0.out.below h2) (enters_of Tryz.func32 (by kernel_rfl) rfl) (fun x _=>qKl x n _ W h1);obtain⟨X1,hX1⟩:∃X,qA0 n 3 96=X:=⟨_,rfl⟩;obtain⟨X2,hX2⟩:∃X,l.any (fun x=> !qN4 x n)=X:=⟨_,rfl⟩;rw[hX2]at hcont
  by_cases hok:qFc l n=true
  ·have hX:X1=true∧2≤l.length∧X2=false:=by
    unfold qFc at hok;rw[hX1,hX2]at hok;simpa using hok
   obtain⟨rfl,hl2,rfl⟩:=hX;have hn:=within_iff.1 hX1
   have hin:∀i,i<l.length→0≤l.getD i 0∧l.getD i 0<n:=fun i hi=>by
    have h1:=List.any_eq_false.1 hX2 l[i] (List.getElem_mem hi);unfold qN4 at h1;simp only[List.getD_eq_getElem?_getD,List.getElem?_eq_getElem hi,Option.getD_some];simpa using h1
   obtain⟨m,hm⟩:∃m,l.length=m+1:=⟨l.length - 1,by omega⟩;obtain⟨M,hM⟩:∃M,min 12 m=M:=⟨_,rfl⟩
   have hfull:fitE l n=(if (fitK (fitD l n) M).isSome then 0 else 4)∧fitL l n=(match fitK (fitD l n) M with |some k=>(fitD l n).take (k+1)|none=>[]):=by
    unfold fitE fitL;rw[if_neg hbig,if_neg hbig,if_pos hok,if_pos hok,hm,Nat.add_sub_cancel,hM];exact⟨rfl,rfl⟩
   have hmiss:(∀j,j<M→qB6 (fitD l n) j=false)→fitE l n=4∧fitL l n=[]:=fun h=>by
    rw[hfull.1,hfull.2,qHt _ _ h];exact⟨rfl,rfl⟩
   have hhit:∀k,k<M→qB6 (fitD l n) k=true→(∀j,j<k→qB6 (fitD l n) j=false)→fitE l n=0∧fitL l n=(fitD l n).take (k+1):=fun k h1 h2 h3=>by
    rw[hfull.1,hfull.2,qNB _ _ _ h1 h2 h3];exact⟨rfl,rfl⟩
   have hDl:=qGQ l n
   have hDg:∀i (h:i<m),(fitD l n)[i]? =some ((l.getD (i+1) 0 - l.getD i 0)%n):=fun i h=>by
    rw[List.getElem?_eq_getElem (by rw[hDl];omega),qNA l n i (by omega)]
   rw[hm,Nat.add_sub_cancel]at hDl;generalize fitD l n=D at hfull hmiss hhit hDl hDg;clear hfull;obtain⟨la,lo,c',heq,hla,-,-,hcl⟩:=Ints.cells hv0.out (by omega);injection heq with a1 a2 a3;subst a1 a3;clear a2
   have hcg:∀i,i<m+1→w.cell? ⟨la,lo+i,none⟩=some (.int .i64 (l.getD i 0)):=fun i hi=>by
    rw[hcl i (by omega)];simp[List.getElem?_eq_getElem (show i<l.length by omega)]
   have r1:∀W,(Instr.slice 22 (.slice (some ⟨la,lo,none⟩) l.length c) (some (.int .i64 1)) none none).run Tryz.prog W= .ok (.slice (some ⟨la,lo+1,none⟩) m (c - 1)) W:=fun W=>by
    have h:=qD7 (qAc:qAd Tryz.prog 22 3 (.int .i64 0) 8) (some ⟨la,lo,none⟩) l.length c 1 (by omega) W;rw[hm,Nat.add_sub_cancel]at h
    have e0:cutA (some ⟨la,lo,none⟩) c 1=some ⟨la,lo+1,none⟩:=by
     unfold cutA;rw[if_neg (by omega)];simp[Addr.add]
    rw[e0]at h;rw[hm];exact h
   have hl2n:¬l.length<2:=by omega
   have hc1:(1:Int)≤(l.length:Int):=by omega
   have hbx:=Box.start w (.cells #[.int .i64 n] 3);have hmb:m≤199:=by omega
   have⟨hX1',hX2',hin',hM',hmiss',hhit',hDl',hDg'⟩:=hyd8 hX1 hX2 hin hM hmiss hhit hDl hDg;have⟨hcl',hcg',hcont',hok',hm'⟩:=hyd5 hcl hcg hcont hok hm;clear hm hok hcont hcg hcl hDg hDl hhit hmiss hM hin hX2 hX1;go_enter Tryz.func13,Tryz.ntmps13;go_wp2_with (first | (go_at_call 22;((with_reducible refine(qAI _ _ _ _).mono ?_);rintro e w' ⟨rfl,rfl⟩;rw[hX1'.out]))| (go_at_call 33;((with_reducible refine(hcont'.out _ (World.cell?_alloc_at _ _ _ _ rfl) (alc1 _ _)).mono ?_);rintro e w' ⟨rfl,rfl⟩)));go_loopw [33,7] (fun i r wr=>∃k:Nat,k≤m∧i= .int .i64 k∧Hid (Box w w.heap.size (.cells #[.int .i64 n] 3) wr)∧Hid (wr.ownsRow (w.heap.size+1) 3 1 r (D.take k).length ((D.take k).map vint))) (fun i _ _=>m - (intOf i).toNat)
   case atStart=>exact⟨0,Nat.zero_le _,rfl,Lib.hid hbx,Lib.hid (World.ownsRow_nil _ _ _ _)⟩
   case round=>
    obtain⟨k,hk,rfl,hbw,hown⟩:=hrel
    by_cases hlt:k<m
    ·have hz:=hbw.out.below
     have k1:wr.cell? ⟨la,lo+1+k,none⟩=some (.int .i64 (l.getD (k+1) 0)):=by
      rw[show lo+1+k=lo+(k+1)by omega];exact(hz.cell (p:=⟨la,lo+(k+1),none⟩) hla).trans (hcg'.out (k+1) (by omega))
     have k2:wr.cell? ⟨la,lo+k,none⟩=some (.int .i64 (l.getD k 0)):=(hz.cell (p:=⟨la,lo+k,none⟩) hla).trans (hcg'.out k (by omega));have k3:=qAH hbw.out.block;have hxb:=hin'.out (k+1) (by have:=hm'.out;omega);have hyb:=hin'.out k (by have:=hm'.out;omega);have hdk:=hDg'.out k hlt;generalize l.getD (k+1) 0=x at k1 hxb hdk;generalize l.getD k 0=y at k2 hyb hdk;have hmod:=fun W=>qBE (x - y) n W (by omega) (by omega) (by unfold Mid;omega);have hw1:IntKind.i64.wrap (x - y)=x - y:=IntWalk.i64_in _ (by omega);have hlen:(D.take k).length =k:=by rw[List.length_take,hDl'.out];omega
     have htk:D.take (k+1)=D.take k++[(x - y)%n]:=by
      rw[List.take_add_one,hdk];rfl
     generalize (x - y)%n=z at hmod htk;generalize D.take k=L at hown hlen htk;have hm1:=hm'.out;have i1:(k:Int)<(l.length:Int):=by omega
     have i2:(k:Int)<(m:Int):=by omega
     have i3:(0:Int)≤(k:Int):=by omega
     have⟨hdk',hmod',htk',hz',hm1'⟩:=hyd5 hdk hmod htk hz hm1;clear hm1 hz htk hmod hdk;go_wp2;have hwz:w.heap.size+1≤wr.heap.size:=hbw.out.lt;have hS:∀W,Below (w.heap.size+1) wr W→W.cell? ⟨la,lo+k,none⟩=some (.int .i64 y)∧W.cell? ⟨w.heap.size,0,none⟩=some (.int .i64 n):=fun W h=>⟨(h.cell (p:=⟨la,lo+k,none⟩) (by show la<_;omega)).trans k2,(h.cell (p:=⟨w.heap.size,0,none⟩) (by show w.heap.size<_;omega)).trans k3⟩;have hS':=hyd1 hS;clear hS
     go_region_held3 (fun w'=>w'.cell? ⟨la,lo+k,none⟩=some (.int .i64 y)∧w'.cell? ⟨w.heap.size,0,none⟩=some (.int .i64 n)) (go_keep) (first | (go_at_call 23;refine(hmod'.out _).mono ?_;rintro e w' ⟨rfl,rfl⟩)| (refine qHf rfl (.tmp 38) (.tmp 47) 22 (by rfl) (w.heap.size+1) 3 qAc u7 L (by rfl) (hown.out.alloc _) (.slice (some ⟨_,0,none⟩) 1 1) [z] (by rfl) (by first |exact qI2 _ _ _|exact qEi _ _ _) (by simp;omega) (by first |omega| (simp;omega)) ?_;intro v2 w2 ho2 hb2 hg2 _;have hB2:Below (w.heap.size+1) wr w2:=(by first |exact(((Below.refl _ _).alloc hwz _).drew).trans hb2|exact((Below.refl _ _).alloc hwz _).trans hb2);obtain⟨t1,t2⟩:=hS'.out _ hB2;have ho2':=Lib.hid ho2;clear ho2 hg2))
     have hb5:=Lib.hid (hbw.out.nextB hB2 (by omega) (by omega));have ho3:Hid (w2.ownsRow (w.heap.size+1) 3 1 v2 (D.take (k+1)).length ((D.take (k+1)).map vint)):=by rw[htk'.out];exact ho2'
     clear hB2 ho2' t1 t2;go_wp2;go_roundw
     case rel=>exact⟨k+1,by omega,by go_num,hb5,ho3⟩
     case measure=>simp[intOf];omega
    ·obtain rfl:m=k:=by omega
     have hfin:=hown.out;rw[List.take_of_length_le (by rw[hDl'.out];omega),hDl'.out]at hfin
     have hnn:u7.ownBlock≠none:=by
      rcases hfin.2 with⟨_,h1⟩| ⟨g,cap,cur,rfl,_⟩
      ·have:=hm'.out;omega
      ·simp[Value.ownBlock]
     obtain⟨g,cg,rfl,hg1,hg2,hg3,hg4⟩:=qLS hfin hnn;unfold maxLen at hg4;have hbw2:=hbw;have hfin':=hyd1 hfin;clear hown hfin hbw hnn;generalize wr=W2 at hbw2 hfin' hg2 ⊢;have hm1:=hm'.out
     rcases Nat.lt_or_ge m 12 with hlt12|hge12
     ·have hMm:m=M:=by have:=hM'.out;omega
      subst hMm;have hm1':=hyd1 hm1;clear hm1;go_wp2;go_loopw [53] (fun i wr=>∃k:Nat,k≤m∧i= .int .i64 k∧Hid (∃q,wr=W2.drewN q)∧Hid (∀j,j<k→qB6 D j=false)) (fun i _=>m - (intOf i).toNat)
      case atStart=>exact⟨0,Nat.zero_le _,rfl,Lib.hid ⟨0,rfl⟩,Lib.hid (fun j h=>absurd h (by omega))⟩
      case round=>
       obtain⟨k,hk,rfl,hdr,hno⟩:=hrel
       by_cases hlt:k<m
       ·obtain⟨kk,hkk⟩:∃kk:Nat,m - k - 1=kk:=⟨_,rfl⟩;obtain⟨k1,hk1⟩:∃k1:Nat,k+1=k1:=⟨_,rfl⟩;have hbwr:Hid (Box w w.heap.size (.cells #[.int .i64 n] 3) wr):=by obtain⟨q,rfl⟩:=hdr.out;exact hbw2.out.drewN q
        have hfwr:Hid (wr.ownsRow (w.heap.size+1) 3 1 (.slice (some ⟨g,0,none⟩) m cg) m (D.map vint)):=by obtain⟨q,rfl⟩:=hdr.out;exact hfin'
        have hDi:Ints wr (.slice (some ⟨g,0,none⟩) m cg) D:=by have h:=hfwr.out;rw[←hDl'.out]at h ⊢;exact qCR h
        have s1:=fun W=>qD7 (qAc:qAd Tryz.prog 22 3 (.int .i64 0) 8) (some ⟨g,0,none⟩) m cg k1 (by omega) W;have s2:=fun W=>qBt (qAc:qAd Tryz.prog 22 3 (.int .i64 0) 8) (some ⟨g,0,none⟩) m cg kk (by omega) W;have s3:=fun W=>qBt (qAc:qAd Tryz.prog 22 3 (.int .i64 0) 8) (some ⟨g,0,none⟩) m cg k1 (by omega) W;have a1:=hDi.cut k1 m (by omega) (Nat.le_refl _);have a2:=hDi.cut 0 kk (Nat.zero_le _) (by omega);have a3:=hDi.cut 0 k1 (Nat.zero_le _) (by omega)
        have e0:cutA (some ⟨g,0,none⟩) cg 0=some ⟨g,0,none⟩:=by
         unfold cutA
         split
         ·rfl
         ·simp[Addr.add]
        rw[e0,Nat.sub_zero,Nat.sub_zero,List.drop_zero]at a2 a3;rw[List.take_of_length_le (by simp[hDl'.out])]at a1;have hok2:(D.drop k1==D.take kk)=qB6 D k:=by unfold qB6;rw[hDl'.out,hkk,hk1]
        generalize cutA (some ⟨g,0,none⟩) cg k1=X at s1 a1
        have heq:∀q,Calls Tryz.prog 34 #[.slice X (m - k1) (cg - k1),.slice (some ⟨g,0,none⟩) kk cg] (wr.drewN q) fun e w'=>e= .returned (.bool (qB6 D k))∧∃n,w'=(wr.drewN q).drewN n:=by
         intro q;rw[←hok2];exact qEj _ _ (D.drop k1) (D.take kk) _ a1 a2
        have hclone:∀q,Calls Tryz.prog 35 #[.slice (some ⟨g,0,none⟩) k1 cg] (wr.drewN q) fun e w'=>∃v',e= .returned v'∧Below wr.heap.size wr w'∧w'.ownsRow wr.heap.size 3 1 v' (D.take k1).length ((D.take k1).map vint):=by
         intro q;refine(qI6 _ (D.take k1) (wr.drewN q) a3 (by rw[List.length_take];omega)).mono ?_;rintro e w' ⟨v',h1,h2,h3,-⟩;exact⟨v',h1,⟨h2.os,h2.tape,h2.output,h2.size,h2.block⟩,h3⟩
        have hhit2:=hhit'.out k;have j1:IntKind.i64.wrap ((k:Int)+1)=(k1:Int):=by rw[←hk1,IntWalk.i64_in _ (by omega)];simp
        obtain⟨k2,hk2⟩:∃k2:Nat,kk+1=k2:=⟨_,rfl⟩;have j2:IntKind.i64.wrap ((m:Int) - (k:Int))=(k2:Int):=by rw[IntWalk.i64_in _ (by omega)];omega
        have j3:IntKind.i64.wrap ((k2:Int) - 1)=(kk:Int):=by rw[IntWalk.i64_in _ (by omega)];omega
        have i1:(k1:Int)≤(m:Int):=by omega
        have i2:(kk:Int)≤(cg:Int):=by omega
        have i3:(k1:Int)≤(cg:Int):=by omega
        clear a1 a2 a3 e0 hok2;obtain⟨Fk,hFk⟩:∃b,qB6 D k=b:=⟨_,rfl⟩;rw[hFk]at heq;have⟨heq',hclone',hFk',hhit2',hkk',hk1',hk2',hDi'⟩:=hyd8 heq hclone hFk hhit2 hkk hk1 hk2 hDi;clear hDi hk2 hk1 hkk hhit2 hFk hclone heq;go_wp2;go_quiet ((go_at_call 34;exact Calls.quiet_of (heq'.out _)))
        cases Fk with
        | true=>
         obtain⟨e1,e2⟩:=hhit2'.out (by omega) hFk'.out hno.out;have⟨e1',e2'⟩:=hyd2 e1 e2;clear e2 e1;go_wp2_with (first | (go_at_call 35;((with_reducible refine(hclone'.out _).mono ?_);rintro e w' ⟨v9,rfl,hb9,ho9⟩)));go_ret2;exact⟨_,by rw[e1'.out];rfl,(hbwr.out.next hb9).below,by rw[e2'.out,hk1'.out];exact qBv ho9 hbwr.out.size⟩
        | false=>
         go_wp2;go_roundw
         case rel=>exact⟨k1,by have:=hk1'.out;omega,by go_num,Lib.hid (by obtain⟨q,hq⟩:=hdr.out;rw[hq];exact⟨_,World.drewN_drewN _ _ _⟩),Lib.hid (fun j h=>by
          have h2:j<k1:=h;have h3:=hk1'.out
          by_cases e:j=k
          ·rw[e];exact hFk'.out
          ·exact hno.out j (by omega))⟩
         case measure=>have:=hk1'.out;simp[intOf];omega
       ·obtain⟨e1,e2⟩:=hmiss'.out (fun j h=>hno.out j (by omega));obtain⟨q,hq⟩:=hdr.out;have⟨e1',e2'⟩:=hyd2 e1 e2;clear e2 e1;go_wp2;go_ret2;exact⟨_,by rw[e1'.out];rfl,by first |exact(hbw2.out.drewN q).below | (rw[hq];exact(hbw2.out.drewN q).below),by rw[e2'.out];exact World.ownsRow_nil _ _ _ _⟩
     ·have hMm:M=12:=by have:=hM'.out;omega
      subst hMm;have hm1':=hyd1 hm1;clear hm1;go_wp2;go_loopw [53] (fun i wr=>∃k:Nat,k≤12∧i= .int .i64 k∧Hid (∃q,wr=W2.drewN q)∧Hid (∀j,j<k→qB6 D j=false)) (fun i _=>12 - (intOf i).toNat)
      case atStart=>exact⟨0,Nat.zero_le _,rfl,Lib.hid ⟨0,rfl⟩,Lib.hid (fun j h=>absurd h (by omega))⟩
      case round=>
       obtain⟨k,hk,rfl,hdr,hno⟩:=hrel
       by_cases hlt:k<12
       ·obtain⟨kk,hkk⟩:∃kk:Nat,m - k - 1=kk:=⟨_,rfl⟩;obtain⟨k1,hk1⟩:∃k1:Nat,k+1=k1:=⟨_,rfl⟩;have hbwr:Hid (Box w w.heap.size (.cells #[.int .i64 n] 3) wr):=by obtain⟨q,rfl⟩:=hdr.out;exact hbw2.out.drewN q
        have hfwr:Hid (wr.ownsRow (w.heap.size+1) 3 1 (.slice (some ⟨g,0,none⟩) m cg) m (D.map vint)):=by obtain⟨q,rfl⟩:=hdr.out;exact hfin'
        have hDi:Ints wr (.slice (some ⟨g,0,none⟩) m cg) D:=by have h:=hfwr.out;rw[←hDl'.out]at h ⊢;exact qCR h
        have s1:=fun W=>qD7 (qAc:qAd Tryz.prog 22 3 (.int .i64 0) 8) (some ⟨g,0,none⟩) m cg k1 (by omega) W;have s2:=fun W=>qBt (qAc:qAd Tryz.prog 22 3 (.int .i64 0) 8) (some ⟨g,0,none⟩) m cg kk (by omega) W;have s3:=fun W=>qBt (qAc:qAd Tryz.prog 22 3 (.int .i64 0) 8) (some ⟨g,0,none⟩) m cg k1 (by omega) W;have a1:=hDi.cut k1 m (by omega) (Nat.le_refl _);have a2:=hDi.cut 0 kk (Nat.zero_le _) (by omega);have a3:=hDi.cut 0 k1 (Nat.zero_le _) (by omega)
        have e0:cutA (some ⟨g,0,none⟩) cg 0=some ⟨g,0,none⟩:=by
         unfold cutA
         split
         ·rfl
         ·simp[Addr.add]
        rw[e0,Nat.sub_zero,Nat.sub_zero,List.drop_zero]at a2 a3;rw[List.take_of_length_le (by simp[hDl'.out])]at a1;have hok2:(D.drop k1==D.take kk)=qB6 D k:=by unfold qB6;rw[hDl'.out,hkk,hk1]
        generalize cutA (some ⟨g,0,none⟩) cg k1=X at s1 a1
        have heq:∀q,Calls Tryz.prog 34 #[.slice X (m - k1) (cg - k1),.slice (some ⟨g,0,none⟩) kk cg] (wr.drewN q) fun e w'=>e= .returned (.bool (qB6 D k))∧∃n,w'=(wr.drewN q).drewN n:=by
         intro q;rw[←hok2];exact qEj _ _ (D.drop k1) (D.take kk) _ a1 a2
        have hclone:∀q,Calls Tryz.prog 35 #[.slice (some ⟨g,0,none⟩) k1 cg] (wr.drewN q) fun e w'=>∃v',e= .returned v'∧Below wr.heap.size wr w'∧w'.ownsRow wr.heap.size 3 1 v' (D.take k1).length ((D.take k1).map vint):=by
         intro q;refine(qI6 _ (D.take k1) (wr.drewN q) a3 (by rw[List.length_take];omega)).mono ?_;rintro e w' ⟨v',h1,h2,h3,-⟩;exact⟨v',h1,⟨h2.os,h2.tape,h2.output,h2.size,h2.block⟩,h3⟩
        have hhit2:=hhit'.out k;have j1:IntKind.i64.wrap ((k:Int)+1)=(k1:Int):=by rw[←hk1,IntWalk.i64_in _ (by omega)];simp
        obtain⟨k2,hk2⟩:∃k2:Nat,kk+1=k2:=⟨_,rfl⟩;have j2:IntKind.i64.wrap ((m:Int) - (k:Int))=(k2:Int):=by rw[IntWalk.i64_in _ (by omega)];omega
        have j3:IntKind.i64.wrap ((k2:Int) - 1)=(kk:Int):=by rw[IntWalk.i64_in _ (by omega)];omega
        have i1:(k1:Int)≤(m:Int):=by omega
        have i2:(kk:Int)≤(cg:Int):=by omega
        have i3:(k1:Int)≤(cg:Int):=by omega
        clear a1 a2 a3 e0 hok2;obtain⟨Fk,hFk⟩:∃b,qB6 D k=b:=⟨_,rfl⟩;rw[hFk]at heq;have⟨heq',hclone',hFk',hhit2',hkk',hk1',hk2',hDi'⟩:=hyd8 heq hclone hFk hhit2 hkk hk1 hk2 hDi;clear hDi hk2 hk1 hkk hhit2 hFk hclone heq;go_wp2;go_quiet ((go_at_call 34;exact Calls.quiet_of (heq'.out _)))
        cases Fk with
        | true=>
         obtain⟨e1,e2⟩:=hhit2'.out (by omega) hFk'.out hno.out;have⟨e1',e2'⟩:=hyd2 e1 e2;clear e2 e1;go_wp2_with (first | (go_at_call 35;((with_reducible refine(hclone'.out _).mono ?_);rintro e w' ⟨v9,rfl,hb9,ho9⟩)));go_ret2;exact⟨_,by rw[e1'.out];rfl,(hbwr.out.next hb9).below,by rw[e2'.out,hk1'.out];exact qBv ho9 hbwr.out.size⟩
        | false=>
         go_wp2;go_roundw
         case rel=>exact⟨k1,by have:=hk1'.out;omega,by go_num,Lib.hid (by obtain⟨q,hq⟩:=hdr.out;rw[hq];exact⟨_,World.drewN_drewN _ _ _⟩),Lib.hid (fun j h=>by
          have h2:j<k1:=h;have h3:=hk1'.out
          by_cases e:j=k
          ·rw[e];exact hFk'.out
          ·exact hno.out j (by omega))⟩
         case measure=>have:=hk1'.out;simp[intOf];omega
       ·obtain⟨e1,e2⟩:=hmiss'.out (fun j h=>hno.out j (by omega));obtain⟨q,hq⟩:=hdr.out;have⟨e1',e2'⟩:=hyd2 e1 e2;clear e2 e1;go_wp2;go_ret2;exact⟨_,by rw[e1'.out];rfl,by first |exact(hbw2.out.drewN q).below | (rw[hq];exact(hbw2.out.drewN q).below),by rw[e2'.out];exact World.ownsRow_nil _ _ _ _⟩
  ·have e1:fitE l n=2:=by unfold fitE;rw[if_neg hbig,if_neg hok]
   have e2:fitL l n=[]:=by unfold fitL;rw[if_neg hbig,if_neg hok]
   have hcase:X1=false∨(X1=true∧l.length<2)∨(X1=true∧¬l.length<2∧X2=true):=by
    unfold qFc at hok;rw[hX1,hX2]at hok
    cases X1<;>cases X2<;>simp at hok ⊢ <;>omega
   rw[e1,e2];have⟨e1',e2',hX1',hX2',hok',hcont'⟩:=hyd6 e1 e2 hX1 hX2 hok hcont;clear hcont hok hX2 hX1 e2 e1
   rcases hcase with rfl| ⟨rfl,h2⟩| ⟨rfl,h2,rfl⟩
   all_goals
    go_enter Tryz.func13,Tryz.ntmps13;go_wp2_with (first | (go_at_call 22;((with_reducible refine(qAI _ _ _ _).mono ?_);rintro e w' ⟨rfl,rfl⟩;rw[hX1'.out]))| (go_at_call 33;((with_reducible refine(hcont'.out _ (World.cell?_alloc_at _ _ _ _ rfl) (alc1 _ _)).mono ?_);rintro e w' ⟨rfl,rfl⟩)));go_ret2;exact⟨_,rfl,alc1 _ _,World.ownsRow_nil _ _ _ _⟩
end Go.Proofs.YtbcbcdgbliheoaaGreat
namespace Go.Proofs.YtbcbcdgbliheoaaGreat
set_option maxRecDepth 100000
set_option maxHeartbeats 4000000
open Go.RowKit Go.Lib
set_option linter.unusedVariables false
set_option linter.unusedSimpArgs false
attribute [local go_sem] Oper.semAt_some
attribute [local go_sem ↓] Go.wp_at_zero Go.wp_at_succ
end Go.Proofs.YtbcbcdgbliheoaaGreat

/- The program's meet: what two lists of spans have in common. slices.Clone of spans; the program's union behind the sorting: the loop. The program's union, but .. -/
import Derived.Test.YtabfaobakmjiaaaGreatPy08
import Derived.Test.YtabfaobakmjiaaaGreatPy14
import Derived.Lib.MinMax
namespace Go.Proofs.YtabfaobakmjiaaaGreat
set_option maxRecDepth 100000
set_option maxHeartbeats 1000000
open Go.RowKit
set_option linter.unusedVariables false
set_option linter.unusedSimpArgs false
def MPred.boxZ (N:Nat):MPred:=⟨λv W=>∃X,v= .pointer (some ⟨X,0,none⟩)/\N<=X/\W.heap[X]? =some (.cells #[.int .i64 0,.int .i64 0] 115),λ_ _ _ h ⟨X,e,a,b⟩=>⟨X,e,a,blk h b⟩⟩
theorem qES:(Tryz.prog.info? 115).map (λi=>(i.zero,i.size,i.bytes))=some (some (.agg #[.int .i64 0,.int .i64 0]),2,16):=by kernel_rfl
def MeI (w:World) (A B:List Spn) (i k:Nat) (vo:Value) (W:World):Prop:=∃out:List Spn,Below w.heap.size w W/\W.ownsRow w.heap.size 115 2 vo out.length (out.flatMap qAD)/\out++qA5 (A.drop i) (B.drop k)=qA5 A B/\out.length<=i+k
theorem MeI.later {w:World} {A B:List Spn} {i k:Nat} {vo:Value} {W W':World} (h:MeI w A B i k vo W) (hb:Below W.heap.size W W'):MeI w A B i k vo W':=by
 obtain⟨f,a,b,c,d⟩:=h;exact⟨f,qAA a hb,qAK b hb,c,d⟩
theorem qNN (va vb:Value) (A B:List Spn) (w:World) (hva:SpnL w va A) (hvb:SpnL w vb B) (ha:SpB A) (hb:SpB B) (hla:A.length<=10000) (hlb:B.length<=10000):
  Calls Tryz.prog 153 #[va,vb] w λe w'=>∃v',e= .returned v'/\Below w.heap.size w w'/\SpT w' v' (qA5 A B):=by
 obtain⟨A1,c1,rfl,-⟩:=hva.slice;obtain⟨A2,c2,rfl,-⟩:=hvb.slice;have a5:MeI w A B 0 0 (.slice none 0 0) w:=⟨[],Below.refl _ _,World.ownsRow_nil _ _ _ _,rfl,by simp⟩;have⟨aE,aF,bw,bx,a6⟩:=hyd5 hva hvb ha hb a5;clear a5 hb ha hvb hva;go_enter Tryz.func153,Tryz.ntmps153;go_wp2;go_loopw [6,7,5] (λix kx vo wr=>∃i k:Nat,i<=A.length/\k<=B.length/\ix= .int .i64 (i:Int)/\kx= .int .i64 (k:Int)/\Hid (MeI w A B i k vo wr)) (λix kx _ _=>(A.length - (intOf ix).toNat)+(B.length - (intOf kx).toNat))
 case atStart=>exact⟨0,0,Nat.zero_le _,Nat.zero_le _,rfl,rfl,a6⟩
 case round=>
  obtain⟨i,k,hi,hk,rfl,rfl,hI⟩:=hrel;obtain⟨j,v,ho,z,b0⟩:=hI.out;obtain⟨AO,cO,rfl⟩:=qAH ho
  by_cases aB:i<A.length
  ·by_cases an:k<B.length
   ·obtain⟨J,o1,x1,au,O,ac,ad⟩:=SpnL.cells aE.out aB;injection au with n e2 e3;subst n e3;clear e2;obtain⟨L,o2,x2,au,P,ae,af⟩:=SpnL.cells aF.out an;injection au with n e2 e3;subst n e3;clear e2;have j1:(i:Int)<(A.length:Int):=by omega
    have j2:(0:Int)<=(i:Int):=by omega
    have j3:(k:Int)<(B.length:Int):=by omega
    have j4:(0:Int)<=(k:Int):=by omega
    have G:=qNB aB an;obtain⟨⟨s1,s2⟩,hs⟩:∃s,A[i]=s:=⟨_,rfl⟩;obtain⟨⟨t1,t2⟩,ht⟩:∃s,B[k]=s:=⟨_,rfl⟩;rw[hs]at ac ad G;rw[ht]at ae af G;dsimp only at ac ad ae af G;obtain⟨H,aG⟩:∃y,max s1 t1=y:=⟨_,rfl⟩;obtain⟨I,aH⟩:∃y,min s2 t2=y:=⟨_,rfl⟩;rw[aG,aH]at G
    have D:∀W,Below w.heap.size w W->W.cell? ⟨J,o1+i*2,none⟩=some (.int .i64 s1)/\W.cell? ⟨J,o1+i*2+1,none⟩=some (.int .i64 s2)/\W.cell? ⟨L,o2+k*2,none⟩=some (.int .i64 t1)/\W.cell? ⟨L,o2+k*2+1,none⟩=some (.int .i64 t2):=λW h=>
     ⟨(Below.cell h (p:=⟨J,o1+i*2,none⟩) O).trans ac,(Below.cell h (p:=⟨J,o1+i*2+1,none⟩) O).trans ad,(Below.cell h (p:=⟨L,o2+k*2,none⟩) P).trans ae,(Below.cell h (p:=⟨L,o2+k*2+1,none⟩) P).trans af⟩
    obtain⟨g0,g1,h0,h1⟩:=D wr v;have aU:J<wr.heap.size:=Nat.lt_of_lt_of_le O v.size;have aV:L<wr.heap.size:=Nat.lt_of_lt_of_le P v.size;clear ac ad ae af;have⟨a4,g,av,t,E,b3,b4,f⟩:=hyd8 hI v ho z G hs ht D;clear D ht hs G z ho v hI;clear g0 g1 h0 h1;go_wp2_with (fail);refine qDb (R:=leRel) 24 [some 19,some 20,some 21,some 22,some 23,some 24,some 25,some 26,some 27,some 28,some 29,some 30,some 31,some 32,some 33,some 34,some 35,some 36,some 37,some 38,some 39,some 40,some 41,some 8,none] [[],[],[0,1],[2],[3],[],[],[5,6],[7],[8],[4,9],[],[],[11,12],[13],[14],[],[],[16,17],[18],[19],[15,20],[10,21],[],[22,23]]
     [.eq (.slice (some ⟨J,o1,none⟩) A.length c1),.eq (.int .i64 (i:Int)),.eq (.pointer (some ⟨J,o1+i*2,none⟩)),.eq (.pointer (some ⟨J,o1+i*2,none⟩)),.eq (.int .i64 s1),.eq (.slice (some ⟨L,o2,none⟩) B.length c2),.eq (.int .i64 (k:Int)),.eq (.pointer (some ⟨L,o2+k*2,none⟩)),.eq (.pointer (some ⟨L,o2+k*2,none⟩)),.eq (.int .i64 t1),.eq (.int .i64 H),.eq (.slice (some ⟨J,o1,none⟩) A.length c1),.eq (.int .i64 (i:Int)),.eq (.pointer (some ⟨J,o1+i*2,none⟩)),.eq (.pointer (some ⟨J,o1+i*2+1,none⟩)),.eq (.int .i64 s2),.eq (.slice (some ⟨L,o2,none⟩) B.length c2),.eq (.int .i64 (k:Int)),.eq (.pointer (some ⟨L,o2+k*2,none⟩)),.eq (.pointer (some ⟨L,o2+k*2+1,none⟩)),.eq (.int .i64 t2),.eq (.int .i64 I),.eq (.agg #[.int .i64 H,.int .i64 I]),MPred.boxZ wr.heap.size] (λ_ _=>False) (by kernel_rfl) (by kernel_rfl) (by kernel_rfl) (by kernel_rfl) (by kernel_rfl) ?_ (λ_ _ _ _ h=>h.elim) ?_
    ·simp only[List.take_succ_cons,List.take_zero];refine sMc rfl ?_ (sMc rfl ?_ (sMc rfl ?_ (sMc rfl ?_ (sMc rfl ?_ (sMc rfl ?_ (sMc rfl ?_ (sMc rfl ?_ (sMc rfl ?_ (sMc rfl ?_ (sMc rfl ?_ (sMc rfl ?_ (sMc rfl ?_ (sMc rfl ?_ (sMc rfl ?_ (sMc rfl ?_ (sMc rfl ?_ (sMc rfl ?_ (sMc rfl ?_ (sMc rfl ?_ (sMc rfl ?_ (sMc rfl ?_ (sMc rfl ?_ (sMc rfl ?_ (qD9))))))))))))))))))))))))
     ·intro l W d c Q hK m;simp only[fA]at hK ⊢;go_wp2;exact hK _ _ lrR rfl
     ·intro l W d c Q hK m;simp only[fA]at hK ⊢;go_wp2;exact hK _ _ lrR rfl
     ·intro l W d c Q hK m;obtain⟨b,n,-⟩:=c;change _=_ at b n;simp only[fA,b,n]at hK ⊢;go_wp2;exact hK _ _ lrR rfl
     ·intro l W d c Q hK m;obtain⟨b,-⟩:=c;change _=_ at b;simp only[fA,b]at hK ⊢;go_wp2;exact hK _ _ lrR rfl
     ·intro l W d c Q hK m;obtain⟨b,-⟩:=c;change _=_ at b;have cc:=(f.out W (qAA g.out d)).1;simp only[fA,b]at hK ⊢;go_wp2;exact hK _ _ lrR rfl
     ·intro l W d c Q hK m;simp only[fA]at hK ⊢;go_wp2;exact hK _ _ lrR rfl
     ·intro l W d c Q hK m;simp only[fA]at hK ⊢;go_wp2;exact hK _ _ lrR rfl
     ·intro l W d c Q hK m;obtain⟨b,n,-⟩:=c;change _=_ at b n;simp only[fA,b,n]at hK ⊢;go_wp2;exact hK _ _ lrR rfl
     ·intro l W d c Q hK m;obtain⟨b,-⟩:=c;change _=_ at b;simp only[fA,b]at hK ⊢;go_wp2;exact hK _ _ lrR rfl
     ·intro l W d c Q hK m;obtain⟨b,-⟩:=c;change _=_ at b;have cc:=(f.out W (qAA g.out d)).2.2.1;simp only[fA,b]at hK ⊢;go_wp2;exact hK _ _ lrR rfl
     ·intro l W d c Q hK m;obtain⟨b,n,-⟩:=c;change _=_ at b n;simp only[fA,b,n]at hK ⊢;go_wp2;exact hK _ _ lrR rfl
     ·intro l W d c Q hK m;simp only[fA]at hK ⊢;go_wp2;exact hK _ _ lrR rfl
     ·intro l W d c Q hK m;simp only[fA]at hK ⊢;go_wp2;exact hK _ _ lrR rfl
     ·intro l W d c Q hK m;obtain⟨b,n,-⟩:=c;change _=_ at b n;simp only[fA,b,n]at hK ⊢;go_wp2;exact hK _ _ lrR rfl
     ·intro l W d c Q hK m;obtain⟨b,-⟩:=c;change _=_ at b;simp only[fA,b]at hK ⊢;go_wp2;exact hK _ _ lrR rfl
     ·intro l W d c Q hK m;obtain⟨b,-⟩:=c;change _=_ at b;have cc:=(f.out W (qAA g.out d)).2.1;simp only[fA,b]at hK ⊢;go_wp2;exact hK _ _ lrR rfl
     ·intro l W d c Q hK m;simp only[fA]at hK ⊢;go_wp2;exact hK _ _ lrR rfl
     ·intro l W d c Q hK m;simp only[fA]at hK ⊢;go_wp2;exact hK _ _ lrR rfl
     ·intro l W d c Q hK m;obtain⟨b,n,-⟩:=c;change _=_ at b n;simp only[fA,b,n]at hK ⊢;go_wp2;exact hK _ _ lrR rfl
     ·intro l W d c Q hK m;obtain⟨b,-⟩:=c;change _=_ at b;simp only[fA,b]at hK ⊢;go_wp2;exact hK _ _ lrR rfl
     ·intro l W d c Q hK m;obtain⟨b,-⟩:=c;change _=_ at b;have cc:=(f.out W (qAA g.out d)).2.2.2;simp only[fA,b]at hK ⊢;go_wp2;exact hK _ _ lrR rfl
     ·intro l W d c Q hK m;obtain⟨b,n,-⟩:=c;change _=_ at b n;simp only[fA,b,n]at hK ⊢;go_wp2;exact hK _ _ lrR rfl
     ·intro l W d c Q hK m;obtain⟨b,n,-⟩:=c;change _=_ at b n;simp only[fA,b,n]at hK ⊢;go_wp2;exact hK _ _ lrR rfl
     ·intro l W d c Q hK m;simp only[fA]at hK ⊢;have zW:=Below.size d;have⟨bu,aS⟩:=hyd2 m d;clear d m;go_wp2;exact hK _ _ (alc1 _ _) ⟨_,rfl,zW,qCN _ _⟩
    ·intro l W3 d c Q' a7 _;have a2:l 22= .agg #[.int .i64 H,.int .i64 I]:=c 22 (by decide);obtain⟨X,a3,hX,kX⟩:∃X,l 23= .pointer (some ⟨X,0,none⟩)/\wr.heap.size<=X/\W3.heap[X]? =some (.cells #[.int .i64 0,.int .i64 0] 115):=c 23 (by decide);simp only[List.drop_succ_cons,List.drop_zero];rw[show List.range 24=[0,1,2,3,4,5,6,7,8,9,10,11,12,13,14,15,16,17,18,19,20,21,22,23]from rfl];simp only[fA,a2,a3];clear a2 a3 c;obtain⟨x0,x1⟩:=pc2 kX;have fz0:=pfrz kX 0;have aR:=pfrz kX 1;obtain⟨W1,aT,a9,k1⟩:∃V,(W3.setCell ⟨X,0,none⟩ (.int .i64 H)).setCell ⟨X,1,none⟩ (.int .i64 I)=V/\Below wr.heap.size wr V/\V.heap[X]? =some (.cells #[.int .i64 H,.int .i64 I] 115):=⟨_,rfl,qR9 d hX _ _,qSA kX _ _⟩;have⟨aS,b5,al,bb⟩:=hyd4 d kX a9 k1;clear k1 a9 kX d;go_wp2;refine a7 _ _ ?_;clear a7 x0 x1 fz0 aR aT;have x:=qAA g.out al.out;have aw:=qAK av.out al.out;obtain⟨Wa,ag,N,ka⟩:=newb W1 (.cells #[.int .i64 H,.int .i64 I] 115);have aC:=qAK aw N;have aZ:w.heap.size<=Wa.heap.size:=(qAA x N).size;have am:=qAA x N;clear aG aH;obtain⟨d0,d1⟩:=pc2 bb.out;obtain⟨g0,g1,h0,h1⟩:=f.out W1 x;have⟨S,ao,bm,bc,aD,aq,a8⟩:=hyd7 x aw N ka aC am ag;clear ag am aC ka N aw x
     by_cases F:H<=I
     ·have aA:decide (H<=I)=true:=decide_eq_true F;have ag:=a8.out;obtain⟨aI,aJ⟩:=pc2 bc.out;go_wp2_with (first | (at_builtin;go_must (refine qEL _ rfl _ _ 110 rfl w.heap.size 115 Tryz.underlying110 qES (.slice AO j.length cO) j rfl aD.out W1.heap.size (H,I) rfl aI aJ (by omega) aZ ?_)));intro v3 w3 r1 r2 r3;obtain⟨A3,c3,rfl⟩:=qAH r1;have T:Below w.heap.size w w3:=aq.out.trans (r2 _ (Nat.le_refl _));clear aI aJ d0 d1 ag g0 g1 h0 h1 r2 r3;obtain⟨g0,g1,h0,h1⟩:=f.out w3 T;have⟨aK,U⟩:=hyd2 r1 T;clear T r1
      by_cases hc:s2<t2
      ·have ar:decide (s2<t2)=true:=decide_eq_true hc;have M:MeI w A B (i+1) k (.slice A3 (j.length+1) c3) w3:=⟨j++[(H,I)],U.out,by simpa using aK.out,by have h:=E.out;rw[if_pos F,if_pos hc]at h;rw[<-t.out,h];simp,by simp;omega⟩;have C:=hyd1 M;clear M;go_wp2;go_quiet (fail);have o:=C.out.later (qAQ (Below.refl _ _) nq);have q:=hyd1 o;clear o;go_wp2;go_roundw
       case rel=>exact⟨i+1,k,by omega,by omega,by go_num,rfl,q⟩
       case measure=>simp[intOf];omega
      ·have ar:decide (s2<t2)=false:=decide_eq_false hc;have M:MeI w A B i (k+1) (.slice A3 (j.length+1) c3) w3:=⟨j++[(H,I)],U.out,by simpa using aK.out,by have h:=E.out;rw[if_pos F,if_neg hc]at h;rw[<-t.out,h];simp,by simp;omega⟩;have C:=hyd1 M;clear M;go_wp2;go_quiet (fail);have o:=C.out.later (qAQ (Below.refl _ _) nq);have q:=hyd1 o;clear o;go_wp2;go_roundw
       case rel=>exact⟨i,k+1,by omega,by omega,rfl,by go_num,q⟩
       case measure=>simp[intOf];omega
     ·have aA:decide (H<=I)=false:=decide_eq_false F
      by_cases hc:s2<t2
      ·have ar:decide (s2<t2)=true:=decide_eq_true hc;have M:MeI w A B (i+1) k (.slice AO j.length cO) W1:=⟨j,S.out,ao.out,by have h:=E.out;rw[if_neg F,if_pos hc]at h;rw[<-t.out,h];simp,by omega⟩;have C:=hyd1 M;clear M;go_wp2;go_quiet (fail);have o:=C.out.later (qAQ (Below.refl _ _) nq);have q:=hyd1 o;clear o;go_wp2;go_roundw
       case rel=>exact⟨i+1,k,by omega,by omega,by go_num,rfl,q⟩
       case measure=>simp[intOf];omega
      ·have ar:decide (s2<t2)=false:=decide_eq_false hc;have M:MeI w A B i (k+1) (.slice AO j.length cO) W1:=⟨j,S.out,ao.out,by have h:=E.out;rw[if_neg F,if_neg hc]at h;rw[<-t.out,h];simp,by omega⟩;have C:=hyd1 M;clear M;go_wp2;go_quiet (fail);have o:=C.out.later (qAQ (Below.refl _ _) nq);have q:=hyd1 o;clear o;go_wp2;go_roundw
       case rel=>exact⟨i,k+1,by omega,by omega,rfl,by go_num,q⟩
       case measure=>simp[intOf];omega
   ·have bz:k=B.length:=by omega
    have r:j=qA5 A B:=by rw[<-z,List.drop_eq_nil_of_le (by omega:B.length<=k),qHq,List.append_nil]
    have hj:¬(k:Int)<(B.length:Int):=by omega
    have aW:(i:Int)<(A.length:Int):=by omega
    have Y:SpT wr (.slice AO j.length cO) (qA5 A B):=by rw[<-r];exact SpT.of_own (base:=w.heap.size) ho
    have⟨a4,g,av,t,ax,Z⟩:=hyd6 hI v ho z r Y;clear Y r z ho v hI;go_wp2;go_ret;exact⟨_,rfl,g.out,Z.out⟩
  ·have r:j=qA5 A B:=by rw[<-z,List.drop_eq_nil_of_le (by omega:A.length<=i),qIi,List.append_nil]
   have aW:¬(i:Int)<(A.length:Int):=by omega
   have Y:SpT wr (.slice AO j.length cO) (qA5 A B):=by rw[<-r];exact SpT.of_own (base:=w.heap.size) ho
   have⟨a4,g,av,t,ax,Z⟩:=hyd6 hI v ho z r Y;clear Y r z ho v hI;go_wp2;go_ret;exact⟨_,rfl,g.out,Z.out⟩
theorem qNO (v:Value) (L:List Spn) (w:World) (hv:SpnL w v L) (h0:0<L.length) (hl:L.length<=1000000):
  Calls Tryz.prog 191 #[v] w λe w'=>∃v',e= .returned v'/\Below w.heap.size w w'/\w'.ownsRow w.heap.size 115 2 v' L.length (L.flatMap qAD):=by
 obtain⟨A,c,rfl,q1,q2,q3,S⟩:=id hv;obtain⟨b,off,rfl,X,C⟩:=S h0;have N:=λW=>Lib.run_eql_slice_nil (P:=Tryz.prog) W 110 115 (some ⟨b,off,none⟩) L.length c 0 0 Tryz.underlying110;obtain⟨I,V,m,Q⟩:=newb w (.cells #[] 115);obtain⟨mi,E,hz,F,B⟩:=info_parts qES
 have f:∀j u,(L.flatMap qAD)[j]? =some u->I.cell? ((⟨b,off,none⟩:Addr).add j)=some u:=λj u i=>by
  have D:(L.flatMap qAD).length =L.length*2:=qCG (enc:=qAD) (k:=2) (λ_=>rfl) L;have hj:j<L.length*2:=by rw[<-D];exact(List.getElem?_eq_some_iff.1 i).1
  have o:(⟨b,off,none⟩:Addr).add j=⟨b,off+j,none⟩:=by unfold Addr.add;split<;>simp_all
  have J:j / 2<L.length:=by omega
  have M:=Nat.mod_lt j (by decide:0<2);have t:=qCo (enc:=qAD) (k:=2) (λ_=>rfl) L (j / 2) J (j%2) ((qAD L[j / 2])[j%2]'(by show j%2<2;exact M)) (List.getElem?_eq_getElem _);rw[show j / 2*2+j%2=j by omega,i]at t;injection t with t;have z:=C (j / 2) J (j%2) _ (List.getElem?_eq_getElem (by show j%2<2;exact M));rw[o,show off+j=off+j / 2*2+j%2 by omega];refine((Below.cell m (p:=⟨b,off+j / 2*2+j%2,none⟩) X)).trans ?_;have l:(⟨b,off+j / 2*2,none⟩:Addr).add (j%2)=⟨b,off+j / 2*2+j%2,none⟩:=by unfold Addr.add;split<;>simp_all
  first |rw[z,t]| (rw[l]at z;rw[z,t])
 have h:∀u∈L.flatMap qAD,u.oneCell'=true:=λu i=>by
  obtain⟨y,-,O⟩:=List.mem_flatMap.1 i;simp[qAD]at O
  rcases O with rfl|rfl<;>rfl
 have⟨Z,d,ab,g,n,Y⟩:=hyd6 hv m Q f h C;clear C h f Q m hv;clear q3 S;go_enter Tryz.func191,Tryz.ntmps191;go_wp2_with (first | (at_builtin;refine wpList_append_grows I rfl _ _ 110 rfl 115 mi _ 2 16 Tryz.underlying110 E hz F B rfl (by decide) (some ⟨w.heap.size,0,none⟩) 0 0 [] rfl (λe=>(by cases e)) (by simp) (λ_ _ _ _ i=>(by simp at i)) ⟨b,off,none⟩ L.length c (L.flatMap qAD) rfl (qCG (enc:=qAD) (k:=2) (λ_=>rfl) L) (λj u i=>g.out j u i) n.out (by omega) (by unfold maxLen;omega) (by omega) ?_)|fail);intro v' w' x H;have r:Below w.heap.size w w':=d.out.trans (((Below.refl _ _).grown H (Nat.le_refl _) λq hq=>by cases hq).mono (d.out.size));obtain⟨T,U,rfl⟩:=qAH x;have R:w'.ownsRow w.heap.size 115 2 (.slice T L.length U) L.length (L.flatMap qAD):=qBq x d.out.size;have⟨ae,af,s,G⟩:=hyd4 x H r R;clear R r H x;go_wp2;go_ret;exact⟨_,rfl,s.out,G.out⟩
theorem qNP {D:List Spn} {k:Nat} (h:k<D.length):(D.take (k+1)).foldl qA8 []=qA8 ((D.take k).foldl qA8 []) D[k]:=by rw[List.take_succ_eq_append_getElem h,List.foldl_append];rfl
theorem qKA (out:List Spn) (s:Spn):(qA8 out s).length <=out.length+1:=by
 rcases List.eq_nil_or_concat out with rfl| ⟨pre,t,rfl⟩
 ·simp[qA8]
 ·rw[List.concat_eq_append,qCw];split<;>simp
theorem qKB {out:List Spn} {s:Spn} (h:SpB out) (hs:SpB [s]):SpB (qA8 out s):=by
 have c:=hs s (List.mem_singleton.2 rfl)
 rcases List.eq_nil_or_concat out with rfl| ⟨pre,t,rfl⟩
 ·intro x b;simp[qA8]at b;subst b;exact c
 ·rw[List.concat_eq_append]at h ⊢;rw[qCw];have d:=h t (by simp)
  split
  ·intro x b
   rcases List.mem_append.1 b with q|q
   ·exact h x (by simp[q])
   ·rw[List.mem_singleton.1 q];simp only;omega
  ·intro x b
   rcases List.mem_append.1 b with q|q
   ·exact h x (by simpa using q)
   ·rw[List.mem_singleton.1 q];exact c
theorem qO0 (pre:List Spn) (t:Spn) (y:Int):((pre++[t]).flatMap qAD).set (pre.length*2+1) (.int .i64 y)=(pre++[(t.1,y)]).flatMap qAD:=by
 have b:(pre.flatMap qAD).length =pre.length*2:=qCG (enc:=qAD) (k:=2) (λ_=>rfl) pre;rw[List.flatMap_append,List.flatMap_append,List.set_append,if_neg (by omega),b,show pre.length*2+1 - pre.length*2=1 by omega];simp[qAD]
def UnI (Wd:World) (D:List Spn) (k:Nat) (vo:Value) (W:World):Prop:=∃out:List Spn,out=(D.take k).foldl qA8 []/\SpB out/\out.length<=k/\Below Wd.heap.size Wd W/\W.ownsRow Wd.heap.size 115 2 vo out.length (out.flatMap qAD)
theorem qMC (hsort:∀(W:World) (base:Nat) (v:Value) (D:List Spn),W.ownsRow base 115 2 v D.length (D.flatMap qAD)->base<=W.heap.size->D.length<=10000->SpB D->Calls Tryz.prog 193 #[v,.func (.func 194) #[] #[]] W λe w'=>e= .returned (.tuple #[])/\Below base W w'/\∃D':List Spn,D'.Perm D/\D'.Pairwise (λs t=>s.1<=t.1)/\w'.ownsRow base 115 2 v D'.length (D'.flatMap qAD))
  (v:Value) (L:List Spn) (w:World) (hv:SpnL w v L) (h0:0<L.length) (hl:L.length<=10000) (hb:SpB L):
  Calls Tryz.prog 154 #[v] w λe w'=>∃v',e= .returned v'/\Below w.heap.size w w'/\SpnL w' v' (qBj L):=by
 have bj:=qNO v L w hv h0 (by omega);obtain⟨A,c,rfl,-⟩:=id hv;have⟨bW,aU,bk,ar⟩:=hyd4 hv hb bj hsort;clear hsort bj hb hv;go_enter Tryz.func154,Tryz.ntmps154;go_wp2_with (fail);go_at_call 191;refine bk.out.mono ?_;rintro e W1 ⟨v1,rfl,a8,ap⟩;have bl:=qQs v1 L W1 w.heap.size ap h0 a8.size;obtain⟨A1,c1,rfl⟩:=qAH ap;have⟨aV,bK,bm⟩:=hyd3 a8 ap bl;clear bl ap a8;go_wp2_with (fail);go_at_call 190;refine bm.out.mono ?_;rintro e W2 ⟨v2,rfl,a9,aq⟩;have aI:Below w.heap.size w W2:=aV.out.trans a9;have af:(L.filter okS).length <=10000:=Nat.le_trans (List.length_filter_le _ _) hl;have ks:=ar.out W2 w.heap.size v2 (L.filter okS) aq aI.size af (λs hs=>aU.out s (List.mem_filter.1 hs).1);obtain⟨A2,c2,rfl⟩:=qAH aq;have⟨bG,bL,bd,b5⟩:=hyd4 a9 aq aI ks;clear ks aI aq a9;go_wp2_with (fail);go_at_call 193;refine b5.out.mono ?_;rintro e N ⟨rfl,aA,D,H,X,aE⟩;have be:Below w.heap.size w N:=bd.out.trans aA;have hD:qGP D=qBj L:=qNA (l:=L) (d:=D) (λs=>H.mem_iff) X;have a5:D.length=(L.filter okS).length :=H.length_eq;have aQ:SpB D:=λs hs=>aU.out s (List.mem_filter.1 (H.mem_iff.1 hs)).1;rw[<-a5]
 have bb:SpnL N (.slice A2 D.length c2) D:=by
  have h:=SV.of_own (base:=w.heap.size) (e:=115) (enc:=qAD) (λ_=>rfl) aE
  rwa[<-a5]at h
 have bR:D.length<=10000:=by omega
 have aS:UnI N D 0 (.slice none 0 0) N:=⟨[],rfl,(λs h=>by cases h),by simp,Below.refl _ _,World.ownsRow_nil _ _ _ _⟩;have⟨bH,bt,bs,bM,bf,bx,aR,bc⟩:=hyd8 aA H X aE be hD aQ bb;have aT:=hyd1 aS;clear aS bb aQ hD be aE X H aA;clear a5;go_wp2_with (fail);go_loopw [14,3] (λkx vo wr=>∃k:Nat,k<=D.length/\kx= .int .i64 (k:Int)/\Hid (UnI N D k vo wr)) (λkx _ _=>D.length - (intOf kx).toNat)
 case atStart=>exact⟨0,Nat.zero_le _,rfl,aT⟩
 case round=>
  obtain⟨k,hk,rfl,hI⟩:=hrel;obtain⟨bn,o,G,aZ,C,ho⟩:=hI.out
  by_cases aB:k<D.length
  ·obtain⟨b1,o1,x1,b2,bI,g0,g1⟩:=SpnL.cells (bc.out.le C) aB;injection b2 with e1 e2 e3;subst e1 e3;clear e2;have f:=qNP aB;have aH:=aR.out _ (List.getElem_mem aB);obtain⟨⟨a,b⟩,hs⟩:∃s,D[k]=s:=⟨_,rfl⟩;rw[hs]at g0 g1 f aH;dsimp only at g0 g1 aH;rw[<-o]at f;have I:SpB [(a,b)]:=λs h=>by rw[List.mem_singleton]at h;rw[h];exact aH
   have F:=qKB G I;have Q:=qKA bn (a,b);obtain⟨W4,a7,O,k4⟩:=newb wr (.cells #[.int .i64 a,.int .i64 b] 115);obtain⟨d0,d1⟩:=pc2 k4;have J:=qAA C O;have z:=qAK ho O;have j1:(k:Int)<(D.length:Int):=by omega
   have j2:(0:Int)<=(k:Int):=by omega
   obtain⟨AO,cO,rfl⟩:=qAH ho
   rcases List.eq_nil_or_concat bn with rfl| ⟨pre,t,rfl⟩
   ·have⟨a6,V,aj,ae,aD,ba,Y,Z⟩:=hyd8 hI o G C ho hs I F;have⟨az,aw,am,E,R,q⟩:=hyd6 Q O k4 J z f;clear f z J k4 O Q F I hs ho C G o hI;go_wp2_with (fail);clear a7;go_quiet (fail);have i:Below W4.heap.size W4 (W4.drewN nq):=qAQ (Below.refl _ _) nq;generalize W4.drewN nq=W5 at i ⊢;have k5:=blk i am.out;clear d0 d1;obtain⟨d0,d1⟩:=pc2 k5;have n:=qAA E.out i;have x:=qAK R.out i;obtain⟨Wa,bz,B,ka⟩:=newb W5 (.cells #[.int .i64 a,.int .i64 b] 115);obtain⟨aM,aN⟩:=pc2 ka;have ah:=qAK x B;have aJ:N.heap.size<=Wa.heap.size:=(qAA n B).size;have P:=qAA n B;have⟨ax,bi,S,ag,aX,b4,ai,T⟩:=hyd8 i k5 n x B ka ah P;clear P ah ka B x n k5 i;go_wp2_with (first | (at_builtin;go_must (refine qEL _ rfl _ _ 110 rfl N.heap.size 115 Tryz.underlying110 qES (.slice AO 0 cO) ([]) rfl ai.out W5.heap.size (a,b) rfl aM aN (by simp) aJ ?_)));intro v6 w6 r1 r2 r3;obtain⟨A6,c6,rfl⟩:=qAH r1;have hN:UnI N D (k+1) (.slice A6 1 c6) w6:=⟨[(a,b)],by rw[q.out];rfl,Y.out,by simp,T.out.trans (r2 _ (Nat.le_refl _)),by simpa using r1⟩;have⟨b7,b8,b9,ad⟩:=hyd4 r1 r2 r3 hN;clear hN r3 r2 r1;go_wp2;go_roundw
    case rel=>exact⟨k+1,by omega,by go_num,ad⟩
    case measure=>simp[intOf];omega
   ·rw[List.concat_eq_append]at o G aZ ho f F Q z ⊢;obtain⟨m,hm⟩:∃m,pre.length=m:=⟨_,rfl⟩;have M:(pre++[t]).length =m+1:=by simp[hm]
    rw[M]at aZ ho Q z ⊢;have ht:=G t (by simp)
    obtain⟨g,rfl,b3⟩:∃g,AO=some ⟨g,0,none⟩/\N.heap.size<=g:=by
     rcases z.2 with⟨-,e⟩| ⟨g,cap,cur,e,hb9,-⟩
     ·omega
     ·injection e with e1;exact⟨g,e1,hb9⟩
    have bT:=(z.lt g rfl).2;have bJ:=(ho.lt g rfl).2;obtain⟨-,q1⟩:=qGr z M (j:=m) (by omega);have ay:(pre++[t])[m]'(by omega)=t:=by rw[List.getElem_append_right (by omega)];simp[hm]
    rw[ay]at q1;clear ay;have fq:=z.frozenAt (m*2+1);rw[qCw]at f F;have bU:m+1<=10000:=by omega
    have i1:(0:Int)<(m:Int)+1:=by omega
    obtain⟨t1,t2⟩:=t;dsimp only at q1 ht f F
    by_cases hc:a<=t2+1
    ·rw[if_pos hc]at f F;have b0:decide (a<=t2+1)=true:=decide_eq_true hc;have⟨a6,V,aj,ae,aD,ba,Y,Z⟩:=hyd8 hI o G C ho hs I F;have⟨az,aw,am,E,R,q,r,U⟩:=hyd8 Q O k4 J z f M hm;clear hm M f z J k4 O Q F I hs ho C G o hI;go_wp2_with (fail);clear a7;go_quiet (fail);have i:Below W4.heap.size W4 (W4.drewN nq):=qAQ (Below.refl _ _) nq;generalize W4.drewN nq=W5 at i ⊢;have k5:=blk i am.out;clear d0 d1 q1 fq;obtain⟨d0,d1⟩:=pc2 k5;have n:=qAA E.out i;have x:=qAK R.out i;obtain⟨-,q1⟩:=qGr x r.out (j:=m) (by have:=r.out;omega);rw[show(pre++[(t1,t2)])[m]'(by have:=r.out;omega)=(t1,t2)by rw[List.getElem_append_right (by have:=U.out;omega)];simp[U.out]]at q1;dsimp only at q1;have fq:=x.frozenAt (m*2+1);have bS:=(x.lt g rfl).2;have bX:=gsl k5;obtain⟨y,hy⟩:∃y,max t2 b=y:=⟨_,rfl⟩;have⟨ax,bi,S,ag⟩:=hyd4 i k5 n x;clear x n k5 i;go_wp2_with (fail);go_region;have al:=(ag.out.stored (m*2+1) (.int .i64 y)).1;have af:=qO0 pre (t1,t2) y;rw[U.out]at af;rw[af]at al;have aW:Below N.heap.size N (W5.setCell ⟨g,m*2+1,none⟩ (.int .i64 y)).drew :=(S.out.setCell (p:=⟨g,m*2+1,none⟩) b3 _).trans (qAQ (Below.refl _ _) 1);have aY:(W5.setCell ⟨g,m*2+1,none⟩ (.int .i64 y)).drew.ownsRow N.heap.size 115 2 (.slice (some ⟨g,0,none⟩) (m+1) cO) (m+1) ((pre++[(t1,y)]).flatMap qAD):=qAK al (qAQ (Below.refl _ _) 1)
     have aG:=q.out;have aC:=Z.out;rw[hy]at aG aC;have hN:UnI N D (k+1) (.slice (some ⟨g,0,none⟩) (m+1) cO) (W5.setCell ⟨g,m*2+1,none⟩ (.int .i64 y)).drew :=⟨pre++[(t1,y)],aG.symm,aC,by simp[U.out];omega,aW,by rw[show(pre++[(t1,y)]).length =m+1 by simp[U.out]];exact aY⟩;clear d0 d1 q1 fq;generalize (W5.setCell ⟨g,m*2+1,none⟩ (.int .i64 y)).drew =W6 at hN ⊢;clear al af aW aY aG aC;have ad:=hyd1 hN;clear hN;go_wp2;go_roundw
     case rel=>exact⟨k+1,by omega,by go_num,ad⟩
     case measure=>simp[intOf];omega
    ·rw[if_neg hc]at f F;have b0:decide (a<=t2+1)=false:=decide_eq_false hc;have⟨a6,V,aj,ae,aD,ba,Y,Z⟩:=hyd8 hI o G C ho hs I F;have⟨az,aw,am,E,R,q,r,U⟩:=hyd8 Q O k4 J z f M hm;clear hm M f z J k4 O Q F I hs ho C G o hI;go_wp2_with (fail);clear a7;go_quiet (fail);have i:Below W4.heap.size W4 (W4.drewN nq):=qAQ (Below.refl _ _) nq;generalize W4.drewN nq=W5 at i ⊢;have k5:=blk i am.out;clear d0 d1;obtain⟨d0,d1⟩:=pc2 k5;clear q1 fq;have n:=qAA E.out i;have x:=qAK R.out i;obtain⟨Wa,bz,B,ka⟩:=newb W5 (.cells #[.int .i64 a,.int .i64 b] 115);obtain⟨aM,aN⟩:=pc2 ka;have ah:=qAK x B;have aJ:N.heap.size<=Wa.heap.size:=(qAA n B).size;have P:=qAA n B;have⟨ax,bi,S,ag,aX,b4,ai,T⟩:=hyd8 i k5 n x B ka ah P;clear P ah ka B x n k5 i;go_wp2_with (first | (at_builtin;go_must (refine qEL _ rfl _ _ 110 rfl N.heap.size 115 Tryz.underlying110 qES (.slice (some ⟨g,0,none⟩) (m+1) cO) (pre++[(t1,t2)]) rfl (by rw[r.out];exact ai.out) W5.heap.size (a,b) rfl aM aN (by rw[r.out];omega) aJ ?_)));intro v6 w6 r1 r2 r3;obtain⟨A6,c6,rfl⟩:=qAH r1;have hN:UnI N D (k+1) (.slice A6 (pre.length+2) c6) w6:=⟨pre++[(t1,t2)]++[(a,b)],q.out.symm,Z.out,by simp[U.out];omega,T.out.trans (r2 _ (Nat.le_refl _)),by simpa using r1⟩
     have⟨b7,b8,b9,ad⟩:=hyd4 r1 r2 r3 hN;clear hN r3 r2 r1;go_wp2;go_roundw
     case rel=>exact⟨k+1,by omega,by go_num,ad⟩
     case measure=>simp[intOf];omega
  ·obtain rfl:k=D.length:=by omega
   rw[List.take_length]at o;have a0:SpnL wr u3 (qBj L):=by rw[<-bx.out];show SpnL wr _ (D.foldl qA8 []);rw[<-o];exact SV.of_own (base:=N.heap.size) (e:=115) (enc:=qAD) (λ_=>rfl) ho
   have bg:Below w.heap.size w wr:=qAA bf.out C;have⟨a6,V,aj,ae,aD,aF,bh⟩:=hyd7 hI o G C ho a0 bg;clear bg a0 ho C G o hI;go_wp2;go_ret;exact⟨_,rfl,bh.out,aF.out⟩
end Go.Proofs.YtabfaobakmjiaaaGreat

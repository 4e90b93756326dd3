/- Roots, the reference: at, beyond. (The regions between --@ARM and --@END are printed by gen_rootr.py.) -/
import Derived.Test.YtcoajjdhkhgfdaaPk48
namespace Go.Proofs.Ytcoajjdhkhgfdaa
set_option maxRecDepth 100000
set_option maxHeartbeats 1000000
open Go.RowKit Go.Shelf
set_option linter.unusedVariables false
set_option linter.unusedSimpArgs false
def MPred.oneZ (z:Int):MPred:=⟨λv W=>∃B,v= .slice (some ⟨B,0,none⟩) 1 1/\W.heap[B]? =some (.cells #[.int .i64 z] 3),λ_ _ _ hb ⟨B,e,k⟩=>⟨B,e,(hb.block B (gsl k)).trans k⟩⟩
theorem qD4 {W4:World} {u0:Value} {t:TypeId} {x:Nat} (k4:W4.heap[x]? =some (.cells #[u0] t)):∀(i:Nat) (u:Value),([u0]:List Value)[i]? =some u->W4.cell? ⟨x,i,none⟩=some u:=λi u hu=>by
 have hi4:i<1:=(List.getElem?_eq_some_iff.1 hu).1
 obtain rfl:i=0:=by omega
 have z:=cell_of_row W4 x 0 _ _ _ k4;rw[z];simpa using hu
theorem qHc:∀j,j<1->NI .u32 (Value.int .i64 0).cells[j]!
 | 0,_=>qKN _
structure AtRoom (x:Rat) (r:List Rat):Prop where
 len:r.length<=65
 sz:∀c∈r,Rsz c 2000000
 val:∀k,k<=r.length->Rsz (valK r x k) 1900000
theorem qJD (vQ vx:Value) (Q:List (List Rat)) (x:Rat) (w:World) (hQ:RowsJ (ratK .i64) 63 51 0 w vQ Q) (hx:RatL (λ_=>True) .i64 w vx x) (hlen:Q.length<=1000) (hl:∀r∈Q,AtRoom x r) (xsz:Rsz x 40):
  Calls Try.prog 31 #[vQ,vx] w λe w'=>e= .returned (.int .i64 (atQ x Q))/\Le w w':=by
 have E:(Try.prog.info? 3).map (λi=>(i.zero,i.size,i.bytes))=some (some (.int .i64 0),1,8):=by kernel_rfl
 obtain⟨LA,lc,rfl⟩:=hQ.slice;obtain⟨s2,A2,n2,c2,B2,m2,d2,rfl⟩:=hx.frm;obtain⟨n,hn⟩:∃n,Q.length=n:=⟨_,rfl⟩;rw[hn]at hQ hlen ⊢;obtain⟨z,aE,O,k1⟩:=enew w (.cells #[.bool s2,.slice A2 n2 c2,.slice B2 m2 d2] 63);obtain⟨M,aF⟩:∃b,w.heap.size=b:=⟨_,rfl⟩;rw[aF]at k1;have C:=hQ.le O;have a3:=hx.le O;have⟨bl,bq,F,aH,a8,ao,a7,an⟩:=hyd8 hQ hx hn hl xsz O k1 C;have⟨a4,P⟩:=hyd2 a3 E;clear E a3 C k1 O xsz hl hn hx hQ;go_enter Try.func31,Try.ntmps31;go_wp2_with (fail);clear aE;go_loopw [5,6] (λs i wr=>∃k:Nat,i= .int .i64 (k:Int)/\k<=n/\Hid (Below z.heap.size z wr)/\Hid (RowE iK 3 z.heap.size wr s ((Q.take k).map λr=>rsgn (valL r x)))) (λ_ i _=>n - (intOf i).toNat)
 case atStart=>exact⟨0,rfl,Nat.zero_le _,Lib.hid (Below.refl _ _),Lib.hid (RowE.nil _ _ _ _)⟩
 case round=>
  obtain⟨k,rfl,hk,Z,f⟩:=hrel
  by_cases aJ:k<n
  ·have af:k<Q.length:=by rw[F.out];exact aJ
   obtain⟨g,cp,A,m,d,N,-,aG,x0,G⟩:=(an.out.le Z.out).at af;rw[F.out]at N;injection N with N e2 e3;subst N e3;clear e2;have c:=aH.out Q[k] (List.getElem_mem af);have al:Q.take (k+1)=Q.take k++[Q[k]]:=by rw[List.take_succ_eq_append_getElem af]
   have ai:((Q.take (k+1)).map λr=>rsgn (valL r x))=((Q.take k).map λr=>rsgn (valL r x))++[rsgn (valL Q[k] x)]:=by rw[al,List.map_append];rfl
   generalize Q[k]=r at G c ai;have a5:=a4.out.le Z.out;have k3:=(Z.out.block M (gsl a7.out)).trans a7.out;have D:=gsl k3;have y0:wr.cell? ⟨M,0,none⟩=some (.bool s2):=cell_of_row wr M 0 _ _ _ k3;have v:wr.cell? ⟨M,1,none⟩=some (.slice A2 n2 c2):=cell_of_row wr M 1 _ _ _ k3;have X:wr.cell? ⟨M,2,none⟩=some (.slice B2 m2 d2):=cell_of_row wr M 2 _ _ _ k3;have q:=f.out;have ag:((Q.take k).map λr=>rsgn (valL r x)).length =k:=by rw[List.length_map,List.length_take,F.out];omega
   obtain⟨SA,sc,a2⟩:=q.slice;rw[ag]at a2;subst a2;have ab:=c.len;have a0:=c.sz;have ay:=c.val;have j1:(k:Int)<(n:Int):=by omega
   have j2:(0:Int)<=(k:Int):=by omega
   have bp:k<=1000:=by omega
   have⟨ad,T,ak,a9,aY,ax,a6,bs⟩:=hyd8 Z f G c al ai a5 k3;clear k3 a5 ai al c G f Z;have⟨aV,aW,t,L,U,aw,aj,a1⟩:=hyd8 x0 y0 v X q ag ab a0;have az:=hyd1 ay;clear ay a0 ab ag q X v y0 x0;go_wp2_with (fail);refine qB9 (R:=leRel) 9 [some 13,some 14,some 15,some 16,some 17,some 18,some 19,some 20,some 21,some 22,some 5] [[],[],[],[1,2],[3],[],[4,5],[6],[7],[0,8],[9]]
    [.eq (.slice SA k sc),.eq (.slice (some ⟨g,0,none⟩) n lc),.eq (.int .i64 (k:Int)),.eq (.pointer (some ⟨g,k,none⟩)),.eq (.slice A m d),.eq (.agg #[.bool s2,.slice A2 n2 c2,.slice B2 m2 d2]),MPred.ratW (valL r x),.eq (.int .i64 (rsgn (valL r x))),MPred.oneZ (rsgn (valL r x))] (λ_ _=>False) (by kernel_rfl) (by kernel_rfl) (by kernel_rfl) (by kernel_rfl) (by kernel_rfl) ?_ (λ_ _ _ _ h=>h.elim) ?_
   ·simp only[List.take_succ_cons,List.take_zero];refine sMc rfl ?_ (sMc rfl ?_ (sMc rfl ?_ (sMc rfl ?_ (sMc rfl ?_ (sMc rfl ?_ (sMc rfl ?_ (sMc rfl ?_ (sMc rfl ?_ (qA2)))))))))
    ·intro J W l o Q hK Y;simp only[fA]at hK ⊢;go_wp2;exact hK _ _ lrR rfl
    ·intro J W l o Q hK Y;simp only[fA]at hK ⊢;go_wp2;exact hK _ _ lrR rfl
    ·intro J W l o Q hK Y;simp only[fA]at hK ⊢;go_wp2;exact hK _ _ lrR rfl
    ·intro J W l o Q hK Y;obtain⟨j,N,-⟩:=o;change _=_ at j N;simp only[fA,j,N]at hK ⊢;go_wp2;exact hK _ _ lrR rfl
    ·intro J W l o Q hK Y;obtain⟨j,-⟩:=o;change _=_ at j;have t0:=(Below.cell l (p:=⟨g,k,none⟩) aG).trans aV.out;simp only[fA,j]at hK ⊢;go_wp2;exact hK _ _ lrR rfl
    ·intro J W l o Q hK Y;have t0:=(Below.cell l (p:=⟨M,0,none⟩) D).trans aW.out;have t1:=(Below.cell l (p:=⟨M,1,none⟩) D).trans t.out;have t2:=(Below.cell l (p:=⟨M,2,none⟩) D).trans L.out;simp only[fA]at hK ⊢;go_wp2;exact hK _ _ lrR rfl
    ·intro J W l o Q hK Y;obtain⟨j,N,-⟩:=o;change _=_ at j N;simp only[fA,j,N]at hK ⊢;have kc:=qIe _ _ r x W (ak.out.le l) (a6.out.le l) aj.out a1.out a8.out az.out;have I:=hyd1 kc;clear kc;go_wp2_with (fail);go_at_call 61;refine I.out.mono ?_;rintro e w' ⟨v',rfl,v,X⟩;obtain⟨vs,vA,vn,vc,vB,vm,vd,rfl⟩:=X.frm;have⟨t,L⟩:=hyd2 v X;clear X v;go_wp2;exact hK _ _ t.out L.out
    ·intro J W l o Q hK Y;obtain⟨j,-⟩:=o;replace j:RatL (λ_=>True) .i64 W (J 6) (valL r x):=j;obtain⟨ws,wA,wn,wc,wB,wm,wd,qw⟩:=j.frm;rw[qw]at j;simp only[fA,qw]at hK ⊢;have kc:=qCc (λ_=>True) (valL r x) _ W j;have⟨I,bk⟩:=hyd2 kc j;clear j kc;go_wp2_with (fail);go_at_call 45;refine I.out.mono ?_;rintro e w' ⟨rfl,v⟩;have t:=hyd1 v;clear v;go_wp2;exact hK _ _ t.out rfl
    ·intro J W l o Q hK Y;obtain⟨j,-⟩:=o;change _=_ at j;simp only[fA,j,j]at hK ⊢;obtain⟨V4,bo,ap,k4⟩:=enew W (.cells #[.int .i64 (rsgn (valL r x))] 3);have⟨aq,aN⟩:=hyd2 ap k4;clear k4 ap;go_wp2;exact hK _ _ aq.out ⟨_,rfl,aN.out⟩
   intro J W l o Q' C _;obtain⟨B9,qv,kq⟩:∃B,J 8= .slice (some ⟨B,0,none⟩) 1 1/\W.heap[B]? =some (.cells #[.int .i64 (rsgn (valL r x))] 3):=o 8 (by decide);have j:=o 0 (by decide);change _=_ at j;simp only[List.drop_succ_cons,List.drop_zero];rw[show List.range 9=[0,1,2,3,4,5,6,7,8]from rfl];simp only[fA,qv,j];clear o;clear qv j;have ae:Below z.heap.size z W:=ad.out.out.trans (l.mono ad.out.out.size);have H:=U.out.le l;have aL:=ae.size;have aa:=qD4 kq;have⟨av,V,ah,bt,bm⟩:=hyd5 ae H aa kq l;clear l kq aa H ae;refine RowE.append V.out rfl _ _ 61 rfl 8 (.int .i64 0) (by decide) Try.underlying61 P.out rfl qHc rfl B9 rfl (cs:=[.int .i64 (rsgn (valL r x))]) (y:=rsgn (valL r x)) rfl ah.out (by rw[aw.out];omega) aL ?_;intro v7 W7 q1 q2 q3 q4 q5;have r3:Below z.heap.size z W7:=(show Below z.heap.size z W from av.out).trans q2;rw[<-ax.out]at q1;have⟨aS,bv,bw,bx,bz,aT⟩:=hyd6 q1 q2 q3 q4 q5 r3;clear r3 q5 q4 q3 q2 q1;go_wp2;refine C _ _ ?_;clear C;go_wp2;go_roundw
   case rel=>exact⟨k+1,by go_num,by omega,aT,aS⟩
   case measure=>simp[intOf];omega
  ·obtain rfl:k=n:=by omega
   have j1:¬(k:Int)<(k:Int):=by omega
   have S:=f.out;rw[<-F.out,List.take_length]at S;have aI:(Q.map λr=>rsgn (valL r x)).length <=1000:=by rw[List.length_map,F.out];exact hlen
   have kc:=qFN _ _ wr (S.base (Nat.zero_le _)) aI;have ar:Le w wr:=(show Le w z from ao.out).trans (show Le z wr from Z.out);have⟨ad,T,aX,I,au⟩:=hyd5 Z f S kc ar;clear ar kc S f Z;go_wp2_with (fail);go_at_call 62;refine I.out.mono ?_;rintro e w' ⟨rfl,v⟩;have X:Le w w':=(show Le w wr from au.out).trans v;have⟨t,L⟩:=hyd2 v X;clear X v;go_wp2;go_ret;exact⟨rfl,L.out⟩
theorem qFa (vQ:Value) (Q:List (List Rat)) (low:Bool) (side:Int) (w:World) (hQ:RowsJ (ratK .i64) 63 51 0 w vQ Q) (hlen:Q.length<=1000) (hl:∀r∈Q,r.length≠0/\r.length<=1000) (hs:side=if low=true then -1 else 1):
  Calls Try.prog 46 #[vQ,.int .i64 side] w λe w'=>e= .returned (.int .i64 (bey low Q))/\Le w w':=by
 have X:(Try.prog.info? 3).map (λi=>(i.zero,i.size,i.bytes))=some (some (.int .i64 0),1,8):=by kernel_rfl
 obtain⟨LA,lc,rfl⟩:=hQ.slice;obtain⟨n,hn⟩:∃n,Q.length=n:=⟨_,rfl⟩;rw[hn]at hQ hlen ⊢;have⟨aW,Z,aX,H,aj⟩:=hyd5 hQ hn hl X hs;clear hs X hl hn hQ;go_enter Try.func46,Try.ntmps46;go_wp2_with (fail);go_loopw [5,6] (λs i wr=>∃k:Nat,i= .int .i64 (k:Int)/\k<=n/\Hid (Below w.heap.size w wr)/\Hid (RowE iK 3 w.heap.size wr s ((Q.take k).map (begS low)))) (λ_ i _=>n - (intOf i).toNat)
 case atStart=>exact⟨0,rfl,Nat.zero_le _,Lib.hid (Below.refl _ _),Lib.hid (RowE.nil _ _ _ _)⟩
 case round=>
  obtain⟨k,rfl,hk,hb,C⟩:=hrel
  by_cases aZ:k<n
  ·have aw:k<Q.length:=by rw[Z.out];exact aZ
   obtain⟨g,cp,A,m,d,J,-,av,x0,L⟩:=(aW.out.le hb.out).at aw;rw[Z.out]at J;injection J with J e2 e3;subst J e3;clear e2;obtain⟨az,a0⟩:=aX.out Q[k] (List.getElem_mem aw);have a3:Q.take (k+1)=Q.take k++[Q[k]]:=by rw[List.take_succ_eq_append_getElem aw]
   have j:((Q.take (k+1)).map (begS low))=((Q.take k).map (begS low))++[begS low Q[k]]:=by rw[a3,List.map_append];rfl
   generalize Q[k]=r at L az a0 j;obtain⟨t,ht⟩:∃t,r.length=t+1:=⟨r.length - 1,by omega⟩;have aL:t<r.length:=by omega
   obtain⟨g2,c9,J,-,au,-,-,cs,aH,hc⟩:=L.at aL;rw[ht]at J;injection J with J e2 e3;subst J e3 e2;have I:r[t]=qAP r:=by unfold qAP;rw[List.getD_eq_getElem?_getD,show r.length - 1=t by omega,List.getElem?_eq_getElem aL];rfl
   have V:begS low r=if (low&&decide ((t+1)%2=0))=true then - rsgn (qAP r)else rsgn (qAP r):=by unfold begS;rw[ht]
   rw[<-I]at V;rw[V]at j;generalize r[t]=a at aH I j V;obtain⟨s5,A5,n5,c5,B5,m5,d5,rfl,aB⟩:=aH;obtain⟨s,a1⟩:∃s,rsgn a=s:=⟨_,rfl⟩;have aJ:=qGy a;rw[a1]at j aJ;obtain⟨bB,bC⟩:=aJ;have z0:wr.cell? ⟨g2,t*3,none⟩=some (.bool s5):=hc 0 _ rfl;have z1:wr.cell? ⟨g2,t*3+1,none⟩=some (.slice A5 n5 c5):=hc 1 _ rfl;have z2:wr.cell? ⟨g2,t*3+2,none⟩=some (.slice B5 m5 d5):=hc 2 _ rfl;obtain⟨m,hm⟩:∃m,t+1=m:=⟨_,rfl⟩;rw[hm]at j x0 L;have aM:(m:Int) - 1=(t:Int):=by omega
   have bE:t<=1000:=by omega
   have M:=C.out;have ax:((Q.take k).map (begS low)).length =k:=by rw[List.length_map,List.length_take,Z.out];omega
   obtain⟨SA,sc,aK⟩:=M.slice;rw[ax]at aK;subst aK;have j1:(k:Int)<(n:Int):=by omega
   have j2:(0:Int)<=(k:Int):=by omega
   have j3:(t:Int)<(m:Int):=by omega
   have j4:(0:Int)<=(t:Int):=by omega
   have b7:k<=1000:=by omega
   have⟨ar,ah,bd,br,bs,bu,D,bD⟩:=hyd8 hb C L az a0 a3 j ht;have⟨aU,bo,aI⟩:=hyd3 I V a1;clear a1 V I ht j a3 a0 az L C hb;have⟨a5,b6,bg,bh,bi,ai,Y,aC⟩:=hyd8 x0 hc z0 z1 z2 M ax aB;have⟨b8,aN⟩:=hyd2 hm aM;clear aM hm aB ax M z2 z1 z0 hc x0;go_wp2_with (fail);refine qAV (R:=leRel) 13 [some 14,some 15,some 16,some 17,some 18,some 19,some 20,some 21,some 22,some 23,some 24,some 25,some 26,some 7] [[],[],[0,1],[2],[],[],[4,5],[6],[7],[8],[3,9],[10],[11],[12]]
    [.eq (.slice (some ⟨g,0,none⟩) n lc),.eq (.int .i64 (k:Int)),.eq (.pointer (some ⟨g,k,none⟩)),.eq (.slice (some ⟨g2,0,none⟩) m d),.eq (.slice (some ⟨g,0,none⟩) n lc),.eq (.int .i64 (k:Int)),.eq (.pointer (some ⟨g,k,none⟩)),.eq (.slice (some ⟨g2,0,none⟩) m d),.eq (.int .i64 (m:Int)),.eq (.int .i64 (t:Int)),.eq (.pointer (some ⟨g2,t*3,none⟩)),.eq (.agg #[.bool s5,.slice A5 n5 c5,.slice B5 m5 d5]),.eq (.int .i64 s)] (λ_ _=>False) (by kernel_rfl) (by kernel_rfl) (by kernel_rfl) (by kernel_rfl) (by kernel_rfl) ?_ (λ_ _ _ _ h=>h.elim) ?_
   ·simp only[List.take_succ_cons,List.take_zero];refine sMc rfl ?_ (sMc rfl ?_ (sMc rfl ?_ (sMc rfl ?_ (sMc rfl ?_ (sMc rfl ?_ (sMc rfl ?_ (sMc rfl ?_ (sMc rfl ?_ (sMc rfl ?_ (sMc rfl ?_ (sMc rfl ?_ (sMc rfl ?_ (qA2)))))))))))))
    ·intro O W x F Q hK P;simp only[fA]at hK ⊢;go_wp2;exact hK _ _ lrR rfl
    ·intro O W x F Q hK P;simp only[fA]at hK ⊢;go_wp2;exact hK _ _ lrR rfl
    ·intro O W x F Q hK P;obtain⟨B,J,-⟩:=F;change _=_ at B J;simp only[fA,B,J]at hK ⊢;go_wp2;exact hK _ _ lrR rfl
    ·intro O W x F Q hK P;obtain⟨B,-⟩:=F;change _=_ at B;have t0:=(Below.cell x (p:=⟨g,k,none⟩) av).trans a5.out;simp only[fA,B]at hK ⊢;go_wp2;exact hK _ _ lrR rfl
    ·intro O W x F Q hK P;simp only[fA]at hK ⊢;go_wp2;exact hK _ _ lrR rfl
    ·intro O W x F Q hK P;simp only[fA]at hK ⊢;go_wp2;exact hK _ _ lrR rfl
    ·intro O W x F Q hK P;obtain⟨B,J,-⟩:=F;change _=_ at B J;simp only[fA,B,J]at hK ⊢;go_wp2;exact hK _ _ lrR rfl
    ·intro O W x F Q hK P;obtain⟨B,-⟩:=F;change _=_ at B;have t0:=(Below.cell x (p:=⟨g,k,none⟩) av).trans a5.out;simp only[fA,B]at hK ⊢;go_wp2;exact hK _ _ lrR rfl
    ·intro O W x F Q hK P;obtain⟨B,-⟩:=F;change _=_ at B;simp only[fA,B]at hK ⊢;go_wp2;exact hK _ _ lrR rfl
    ·intro O W x F Q hK P;obtain⟨B,-⟩:=F;change _=_ at B;have jj:=aN.out;simp only[fA,B]at hK ⊢;go_wp2;exact hK _ _ lrR (by show Value.int _ _=Value.int _ _;congr 1)
    ·intro O W x F Q hK P;obtain⟨B,J,-⟩:=F;change _=_ at B J;simp only[fA,B,J]at hK ⊢;go_wp2;exact hK _ _ lrR rfl
    ·intro O W x F Q hK P;obtain⟨B,-⟩:=F;change _=_ at B;have t0:=(Below.cell x (p:=⟨g2,t*3,none⟩) au).trans bg.out;have t1:=(Below.cell x (p:=⟨g2,t*3+1,none⟩) au).trans bh.out;have t2:=(Below.cell x (p:=⟨g2,t*3+2,none⟩) au).trans bi.out;simp only[fA,B]at hK ⊢;go_wp2;exact hK _ _ lrR rfl
    ·intro O W x F Q hK P;obtain⟨B,-⟩:=F;change _=_ at B;simp only[fA,B,B]at hK ⊢;have kc:=qCc (λ_=>True) a _ W (aC.out.le x);rw[aI.out]at kc;have a4:=hyd1 kc;clear kc;go_wp2_with (fail);go_at_call 45;refine a4.out.mono ?_;rintro e w' ⟨rfl,y1⟩;have aT:=hyd1 y1;clear y1;go_wp2;exact hK _ _ aT.out rfl
   intro O W x F Q' aA _;have aq:=F 12 (by decide);change _=_ at aq;simp only[List.drop_succ_cons,List.drop_zero];rw[show List.range 13=[0,1,2,3,4,5,6,7,8,9,10,11,12]from rfl];simp only[fA,aq];clear F;clear aq;have S:=hyd1 x;clear x;go_wp2;refine aA _ _ ?_;clear aA;have x:=S.out;clear S;have E:Below w.heap.size w W:=ar.out.out.trans (x.mono ar.out.out.size);have f:=ai.out.le x;have bG:=(Below.cell x (p:=⟨g,k,none⟩) av).trans a5.out;obtain⟨q,hq⟩:∃q,m%2=q:=⟨_,rfl⟩;have aG:(m:Int)%2=(q:Int):=by omega
   have bb:(m:Int).tmod 2=(q:Int):=by rw[Int.tmod_eq_emod_of_nonneg (by omega)];exact aG
   have j:=D.out;clear D;rw[hq]at j
   cases low
   ·have a2:side=1:=by rw[aj.out];rfl
    subst a2;rw[show(if (false&&decide (q=0))=true then -s else s)=s from rfl]at j;clear aj;obtain⟨W9,T,b,k9⟩:=enew W (.cells #[.int .i64 (s)] 3);have c:=f.le b;have l:Below w.heap.size w W9:=E.trans (b.mono E.size);have aa:=l.size;have o:=qD4 k9;have⟨al,N,S,U,aO,v,G,z⟩:=hyd8 E f x b k9 c l o;have D:=hyd1 j;clear j o l c k9 b x f E;go_wp2_with (first | (at_builtin;go_must (refine RowE.append (K:=iK) v.out rfl _ _ 61 rfl 8 (.int .i64 0) (by decide) Try.underlying61 H.out rfl qHc rfl W.heap.size rfl (cs:=[.int .i64 (s)]) (y:=s) rfl z.out (by rw[Y.out];omega) aa ?_)));intro v7 W7 q1 q2 q3 q4 q5;have r3:Below w.heap.size w W7:=(show Below w.heap.size w W9 from G.out).trans q2;rw[<-List.map_take,<-D.out]at q1;clear T;have⟨ad,aP,aQ,aR,aS,ae⟩:=hyd6 q1 q2 q3 q4 q5 r3;clear r3 q5 q4 q3 q2 q1;go_wp2;go_roundw
    case rel=>exact⟨k+1,by go_num,by omega,ae,ad⟩
    case measure=>simp[intOf];omega
   ·have a2:side= -1:=by rw[aj.out];rfl
    subst a2;clear aj
    by_cases ay:q=0
    ·subst ay;have bp:(m:Int)%2=0:=aG;have bq:(m:Int).tmod 2=0:=bb;rw[show(if (true&&decide ((0:Nat)=0))=true then -s else s)= -s from rfl]at j;obtain⟨W9,T,b,k9⟩:=enew W (.cells #[.int .i64 (-s)] 3);have c:=f.le b;have l:Below w.heap.size w W9:=E.trans (b.mono E.size);have aa:=l.size;have o:=qD4 k9;have⟨al,N,S,U,aO,v,G,z⟩:=hyd8 E f x b k9 c l o;have D:=hyd1 j;clear j o l c k9 b x f E;go_wp2_with (first | (at_builtin;go_must (refine RowE.append (K:=iK) v.out rfl _ _ 61 rfl 8 (.int .i64 0) (by decide) Try.underlying61 H.out rfl qHc rfl W.heap.size rfl (cs:=[.int .i64 (-s)]) (y:= -s) rfl z.out (by rw[Y.out];omega) aa ?_)));intro v7 W7 q1 q2 q3 q4 q5;have r3:Below w.heap.size w W7:=(show Below w.heap.size w W9 from G.out).trans q2;rw[<-List.map_take,<-D.out]at q1;clear T;have⟨ad,aP,aQ,aR,aS,ae⟩:=hyd6 q1 q2 q3 q4 q5 r3;clear r3 q5 q4 q3 q2 q1;go_wp2;go_roundw
     case rel=>exact⟨k+1,by go_num,by omega,ae,ad⟩
     case measure=>simp[intOf];omega
    ·have b9:((q:Int)==0)=false:=by simpa using ay
     have bA:¬(q:Int)=0:=by omega
     rw[show(if (true&&decide (q=0))=true then -s else s)=s from by simp[ay]]at j;obtain⟨W9,T,b,k9⟩:=enew W (.cells #[.int .i64 (s)] 3);have c:=f.le b;have l:Below w.heap.size w W9:=E.trans (b.mono E.size);have aa:=l.size;have o:=qD4 k9;have⟨al,N,S,U,aO,v,G,z⟩:=hyd8 E f x b k9 c l o;have D:=hyd1 j;clear j o l c k9 b x f E;go_wp2_with (first | (at_builtin;go_must (refine RowE.append (K:=iK) v.out rfl _ _ 61 rfl 8 (.int .i64 0) (by decide) Try.underlying61 H.out rfl qHc rfl W.heap.size rfl (cs:=[.int .i64 (s)]) (y:=s) rfl z.out (by rw[Y.out];omega) aa ?_)));intro v7 W7 q1 q2 q3 q4 q5;have r3:Below w.heap.size w W7:=(show Below w.heap.size w W9 from G.out).trans q2;rw[<-List.map_take,<-D.out]at q1;clear T;have⟨ad,aP,aQ,aR,aS,ae⟩:=hyd6 q1 q2 q3 q4 q5 r3;clear r3 q5 q4 q3 q2 q1;go_wp2;go_roundw
     case rel=>exact⟨k+1,by go_num,by omega,ae,ad⟩
     case measure=>simp[intOf];omega
  ·obtain rfl:k=n:=by omega
   have j1:¬(k:Int)<(k:Int):=by omega
   have ag:=C.out;rw[<-Z.out,List.take_length]at ag;have aY:(Q.map (begS low)).length <=1000:=by rw[List.length_map,Z.out];exact hlen
   have kc:=qFN _ _ wr (ag.base (Nat.zero_le _)) aY;have aD:Le w wr:=hb.out;have⟨ar,ah,bt,a4,aE⟩:=hyd5 hb C ag kc aD;clear aD kc ag C hb;go_wp2_with (fail);go_at_call 62;refine a4.out.mono ?_;rintro e w' ⟨rfl,y1⟩;have y2:Le w w':=(show Le w wr from aE.out).trans y1;have⟨aT,bf⟩:=hyd2 y1 y2;clear y2 y1;go_wp2;go_ret;exact⟨rfl,bf.out⟩
end Go.Proofs.Ytcoajjdhkhgfdaa

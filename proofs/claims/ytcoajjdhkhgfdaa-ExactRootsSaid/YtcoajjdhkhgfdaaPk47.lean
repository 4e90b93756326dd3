/- Roots: there is room for the program's chains. Roots, the reference: Derived; rows of rows. (The region between --@ARM and --@END is printed by gen_rootr.py.) -/
import Derived.Test.YtcoajjdhkhgfdaaPk46
namespace Go.Proofs.Ytcoajjdhkhgfdaa
set_option maxRecDepth 100000
open Go.RowKit
set_option linter.unusedVariables false
def gB (tab:Nat->Nat):Nat->Nat->Nat->Nat->Nat->Bool
 | 0,la,_,Ma,_=>decide (Ma<=tab la)
 | f+1,la,lb,Ma,Mb=>if lb=0 then decide (Ma<=tab la)else(List.range lb).all λr=>gB tab f lb r Mb (Ma+(la+1 - lb)*(Mb+1))
theorem qL6 {tab:Nat->Nat}:∀(f:Nat) (p q:List Rat) (Ma Mb:Nat),GL Ma p->GL Mb q->qAD p=true->qAD q=true->q.length<=f->gB tab f p.length q.length Ma Mb=true->GL (tab (qAw f p q).length) (qAw f p q)/\((qAw f p q).length =p.length/\q.length=0∨(qAw f p q).length <=q.length/\q.length≠0)
 | 0,p,q,Ma,Mb,hp,hq,tp,tq,hf,h=>by
  unfold gB at h;have e:qAw 0 p q=p:=rfl;rw[e];exact⟨hp.up (by simpa using h),.inl ⟨rfl,by omega⟩⟩
 | f+1,p,q,Ma,Mb,hp,hq,tp,tq,hf,h=>by
  unfold gB at h
  by_cases h0:q.length=0
  ·rw[if_pos h0]at h;have e:qAw (f+1) p q=p:=by unfold qAw;rw[if_pos h0]
   rw[e];exact⟨hp.up (by simpa using h),.inl ⟨rfl,h0⟩⟩
  ·rw[if_neg h0]at h;have e:qAw (f+1) p q=qAw f q (qAL (qAI p q)):=by rw[qAw,if_neg h0]
   rw[e];have l:=qDi tp tq h0;have i:=qBZ (q:=q) tp;have d:=qBC (qAI p q);have b:=qFz hp hq (qB1 tq h0)
   have c:GL (Ma+(p.length+1 - q.length)*(Mb+1)) (qAL (qAI p q)):=by
    by_cases j:(qAI p q).length =0
    ·have:qAI p q=[]:=List.eq_nil_of_length_eq_zero j;rw[this]at b ⊢;exact b
    ·exact b.monic (qBD i j)
   have g:=List.all_eq_true.1 h (qAI p q).length (List.mem_range.2 l);rw[<-d]at g;obtain⟨k,m⟩:=qL6 f q (qAL (qAI p q)) Mb _ hq c tq (qBE i) (by omega) g;exact⟨k,.inr ⟨by omega,h0⟩⟩
def chB:Nat->Nat->Nat->Nat->Nat->Bool
 | 0,_,_,_,_=>true
 | f+1,la,lb,Ma,Mb=>decide (lb=0)||(decide (max Ma Mb+(la+1 - lb)*(max Ma Mb+1)<=4000000)&&(List.range lb).all λr=>chB f lb r Mb (Ma+(la+1 - lb)*(Mb+1)))
theorem qKf:∀(f:Nat) (a b:List Int) (Ma Mb:Nat),(∀x∈a,Isz x Ma)->(∀x∈b,Isz x Mb)->chB f a.length b.length Ma Mb=true->ChRoom f a b
 | 0,a,b,_,_,_,_,_=> .zero a b
 | f+1,a,b,Ma,Mb,ha,hb,h=>by
  unfold chB at h
  by_cases h0:b.length=0
  ·exact .fin f a b h0
  ·rw[decide_eq_false h0,Bool.false_or,Bool.and_eq_true]at h;obtain⟨h1,h2⟩:=h;have hl:=qBg (a:=a) h0;have hs:=qFt hb h0 a.length a Ma ha;have h3:=List.all_eq_true.1 h2 (qAY a b).length (List.mem_range.2 hl);rw[<-qE9 (qAY a b)]at h3;exact .step f a b (max Ma Mb) (λx hx=>(ha x hx).up (by omega)) (λx hx=>(hb x hx).up (by omega)) (by simpa using h1) (qKf f b (negI (qAY a b)) Mb _ hb (qLl hs) h3)
def tabG:Nat->Nat
 | 1=>4470
 | 2=>1851
 | 3=>766
 | 4=>317
 | 5=>130
 | 6=>55
 | _=>18
theorem qMF:∀n,n<9->2<=n->gB tabG (n - 1) n (n - 1) 17 18=true:=by decide+kernel
def tabQ (g:Nat):Nat:=if g=1 then 1 else tabG g
def qB (n g:Nat):Nat:=17+(n - g+1)*(tabQ g+1)
theorem qLs:∀n,n<9->∀g,g<n->1<=g->chB (n - g+1) (n - g+1) (n - g) (qB n g) (qB n g+1)=true:=by decide+kernel
theorem qKg:∀n,n<9->∀g,g<n->1<=g->70*qB n g<=4000000/\qB n g+(n - g+2)*(tabQ g+1)<=400000/\tabQ g<=400000:=by decide+kernel
theorem qGz {n:Nat} {l:List Rat} (h:GL n l) (hl:l.length<=1000):GL (n+1) (derQ l):=by
 obtain⟨D,c,d,f⟩:=h;have g:B9^(n+1)=B9^n*B9:=Nat.pow_succ _ _;have k:=qAM;refine⟨D,c,Nat.lt_of_lt_of_le d (qCA (by omega)),λr b=>?_⟩;unfold derQ at b;rw[List.mem_map]at b;obtain⟨j,m,rfl⟩:=b;rw[List.mem_range]at m;obtain⟨N,e,i⟩:=GL.getD f (j+1);refine⟨N*((j+1:Nat):Int),?_,?_⟩
 ·rw[e,Rat.intCast_mul];show _=((N:Rat)*(((j+1:Nat):Int):Rat)) / (D:Rat);rw[Rat.div_def,Rat.div_def,Rat.mul_assoc,Rat.mul_assoc,Rat.mul_comm (D:Rat)⁻¹]
  rfl
 ·rw[Int.natAbs_mul,Int.natAbs_natCast,g];exact Nat.mul_lt_mul'' i (by rw[k];omega)
theorem qJC {p:List Int} {M:Nat} (h:∀x∈p,Isz x M) (hl:p.length<=1000):∀x∈derI p,Isz x (M+1):=by
 unfold derI;refine qE5 λx b=>?_;unfold derS at b;rw[List.mem_map]at b;obtain⟨j,d,rfl⟩:=b;rw[List.mem_range]at d;have c:Isz ((j+1:Nat):Int) 1:=by unfold Isz;rw[Int.natAbs_natCast];exact qDC (by omega)
 exact qB0 (qDB h (j+1)) c
theorem qLW {p:List Rat} (ht:qAD p=true) (h0:p.length≠0) (h1:(gcdD p).length =1):gcdD p=[1]:=by
 have d:=qBr ht;have b:(qBI (qAG p) (derI (qAG p))).length ≠0:=qEA _ _ _ (by omega) (Nat.le_refl _);have c:TopI (qBI (qAG p) (derI (qAG p))):=qEB _ _ _ (qAc _) (qBq _);have:=qFJ c b;change (gcdD p).getD ((gcdD p).length - 1) 0=1 at this;rw[h1]at this
 match hg:gcdD p,h1 with
 | [x],_=>rw[hg]at this;have e:x=1:=this;rw[e]
theorem qF9 {x:List Rat} (ht:qAD x=true) (h2:2<=x.length) (h8:x.length<=8) (hs:∀r∈x,Rsz r 2):
  GL 17 x/\GL (tabQ (gcdD x).length) (gcdD x)/\1<=(gcdD x).length /\(gcdD x).length <x.length:=by
 have b:GL 17 x:=(GL.of x hs).up (by omega);have m:=qC9 ht;have g:=qBs x;have k:=qBC x;have c:=qBC (derQ x);have h:=qMF x.length (by omega) h2;have i:GL 17 (qAL x):=b.monic (qBD ht (by omega));have j:GL 18 (qAL (derQ x)):=(qGz b (by omega)).monic (qBD m (by omega));obtain⟨l,d⟩:=qL6 (tab:=tabG) (derQ x).length (qAL x) (qAL (derQ x)) 17 18 i j (qBE ht) (qBE m) (by omega) (by rw[k,c,g];exact h);have e:gcdD x=qAw (derQ x).length (qAL x) (qAL (derQ x)):=qCM ht;rw[<-e]at l d;have o:=(qC8 ht (by omega)).1;refine⟨b,?_,by omega,?_⟩
 ·unfold tabQ
  by_cases f:(gcdD x).length =1
  ·rw[if_pos f,qLW ht (by omega) f];refine⟨1,by decide,by rw[qAM];decide,λr n=>⟨1,?_,by rw[qAM];decide⟩⟩
   obtain rfl:r=1:=by simpa using n
   decide+kernel
  ·rw[if_neg f];exact l
 ·rcases d with⟨-,d⟩| ⟨d,-⟩<;>omega
theorem qJj {x:List Rat} (ht:qAD x=true) (h2:2<=x.length) (h8:x.length<=8) (hs:∀r∈x,Rsz r 2):ChainOk x:=by
 obtain⟨q,j,t,v⟩:=qF9 ht h2 h8 hs;obtain⟨C,k⟩:=qC8 ht (by omega);obtain⟨B,E,F⟩:=qKg x.length (by omega) (gcdD x).length v t;have l:=qLs x.length (by omega) (gcdD x).length v t;have h:=qKd h8 hs;have m:=qDQ (p:=x) (g:=gcdD x) (by omega);have b:=qDH ht k (by omega) C;have hq:=qIZ q j k (by omega);have f:=qKe hq b;have n:=qBr b;have d:=(qCU (qAj x (gcdD x))).der.sc.len (qBq _) (qC9 b);rw[qBs]at d;have D:qB x.length (gcdD x).length =17+(x.length - (gcdD x).length +1)*(tabQ (gcdD x).length +1):=rfl;refine⟨by omega,by omega,ht,λr c=>qA0 (hs r c) (by decide),⟨20,λz i=>(h z i).up (by decide),qJC h (by have:=qE7 x;omega),?_⟩,λr c=>qA0 (j.sz r c) (by omega),?_,⟨qB x.length (gcdD x).length,by omega,B,λr c=>qA0 (hq.sz r c) (by omega)⟩,?_⟩
 ·have y:=qE7 x;have G:=qC7 (qAG x);have A:=qMS (qAG x).length (by omega) (derI (qAG x)).length (by omega);unfold Room;rw[<-Nat.mul_assoc];exact Nat.le_trans (Nat.mul_le_mul_right _ A) (by decide)
 ·intro s o r c;have y:=(qCe q j k (x.length - (gcdD x).length) s).sz r c;have A:=Nat.mul_le_mul_right (tabQ (gcdD x).length +1) o;exact qA0 y (by omega)
 ·refine qKf _ _ _ (qB x.length (gcdD x).length) (qB x.length (gcdD x).length +1) (λz i=>(f z i).up (by omega)) (qJC (λz i=>(f z i).up (by omega)) (by omega)) ?_;rw[n,d,m,Nat.add_sub_cancel];exact l
theorem qI0 {l:List FracA} (hg:qBk l 8 2=false):qDR l:=λx hx h2=>by
 obtain⟨h8,hs⟩:=qGb hg hx;exact qJj (qBA hx).2.2 h2 h8 hs
set_option maxHeartbeats 1000000
open Go.RowKit Go.Shelf
set_option linter.unusedSimpArgs false
def derT (p:List Rat) (k:Nat):List Rat:=(List.range k).map λj=>p.getD (j+1) 0*((j+1:Nat):Rat)
theorem qLX (p:List Rat) (k:Nat):(derT p k).length =k:=by unfold derT;rw[List.length_map,List.length_range]
theorem qKh (p:List Rat) (k:Nat):derT p (k+1)=derT p k++[p.getD (k+1) 0*((k+1:Nat):Rat)]:=by
 unfold derT;rw[List.range_succ,List.map_append]
 rfl
theorem qLt {i:Nat} (h:i<1000000000):Rsz (((i:Nat):Int):Rat) 1:=by
 refine⟨?_,?_⟩
 ·have e:rnum (((i:Nat):Int):Rat)=i:=by unfold rnum;rw[Rat.num_intCast,Int.natAbs_natCast]
  rw[e];exact qDC h
 ·rw[Rat.den_intCast];exact qDC (by decide)
theorem qFM (base:Nat) (v:Value) (l:List Rat) (w:World) (hv:RowE (ratK .i64) 63 base w v l) (hl:l.length<=1000) (hs:∀r∈l,Rsz r 5000000):
  Calls Try.prog 57 #[v] w λe w'=>∃v',e= .returned v'/\Le w w'/\RowE (ratK .i64) 63 w.heap.size w' v' (derQ l):=by
 have y:=qFD;obtain⟨A,c,rfl⟩:=hv.slice;obtain⟨n,hn⟩:∃n,l.length=n:=⟨_,rfl⟩;rw[hn]at hl hv ⊢;have⟨a8,S,a7,C⟩:=hyd4 hv hn hs y;clear y hs hn hv;go_enter Try.func57,Try.ntmps57;go_wp2_with (fail);go_loopw [3,4] (λs i wr=>∃k:Nat,i= .int .i64 ((k+1:Nat):Int)/\k<=n - 1/\Hid (Below w.heap.size w wr)/\Hid (RowE (ratK .i64) 63 w.heap.size wr s (derT l k))) (λ_ i _=>n - (intOf i).toNat)
 case atStart=>exact⟨0,rfl,Nat.zero_le _,Lib.hid (Below.refl _ _),Lib.hid (RowE.nil _ _ _ _)⟩
 case round=>
  obtain⟨k,rfl,hk,hb,f⟩:=hrel;obtain⟨i,hi⟩:∃i,k+1=i:=⟨_,rfl⟩;rw[hi]
  by_cases a5:i<n
  ·have O:i<l.length:=by rw[S.out];exact a5
   obtain⟨g,c',q,-,N,-,-,cs,av,hc⟩:=(a8.out.le hb.out).at O;rw[S.out]at q;injection q with q e2 e3;subst q e3;clear e2;have E:l.getD i 0=l[i]:=by rw[List.getD_eq_getElem?_getD,List.getElem?_eq_getElem O];rfl
   have X:Rsz l[i] 5000000:=a7.out _ (List.getElem_mem O);generalize l[i]=a at av E X;obtain⟨s5,A5,n5,c5,B5,m5,d5,rfl,ag⟩:=av;have t:=f.out;have x0:wr.cell? ⟨g,i*3,none⟩=some (.bool s5):=hc 0 _ rfl;have x1:wr.cell? ⟨g,i*3+1,none⟩=some (.slice A5 n5 c5):=hc 1 _ rfl;have x2:wr.cell? ⟨g,i*3+2,none⟩=some (.slice B5 m5 d5):=hc 2 _ rfl;obtain⟨SA,sc,az⟩:=t.slice;have P:=qLX l k;rw[P]at az;subst az;have ax:Rsz ((i:Int):Rat) 5000000:=qA0 (qLt (by omega)) (by decide)
   have aq:derT l (k+1)=derT l k++[a*((i:Int):Rat)]:=by
    rw[qKh,hi,E]
    rfl
   have j1:(i:Int)<(n:Int):=by omega
   have j2:(0:Int)<=(i:Int):=by omega
   have bm:k<=1000:=by omega
   have⟨L,V,bk,aM,aw,F,ah,ay⟩:=hyd8 hb f hc E X t ag ax;clear ax ag t X E hc f hb;have⟨aF,aG,aH,ap,ar,a4⟩:=hyd6 x0 x1 x2 P aq hi;clear hi aq P x2 x1 x0;go_wp2_with (fail);refine qB9 (R:=leRel) 9 [some 11,some 12,some 13,some 14,some 15,some 16,some 17,some 18,some 19,some 20,some 3] [[],[],[],[1,2],[3],[],[5],[4,6],[7],[0,8],[9]]
    [.eq (.slice SA k sc),.eq (.slice (some ⟨g,0,none⟩) n c),.eq (.int .i64 (i:Int)),.eq (.pointer (some ⟨g,i*3,none⟩)),.eq (.agg #[.bool s5,.slice A5 n5 c5,.slice B5 m5 d5]),.eq (.int .i64 (i:Int)),MPred.ratW (((i:Int):Rat)),MPred.ratW (a*((i:Int):Rat)),MPred.oneQ (a*((i:Int):Rat))] (λ_ _=>False) (by kernel_rfl) (by kernel_rfl) (by kernel_rfl) (by kernel_rfl) (by kernel_rfl) ?_ (λ_ _ _ _ h=>h.elim) ?_
   ·simp only[List.take_succ_cons,List.take_zero];refine sMc rfl ?_ (sMc rfl ?_ (sMc rfl ?_ (sMc rfl ?_ (sMc rfl ?_ (sMc rfl ?_ (sMc rfl ?_ (sMc rfl ?_ (sMc rfl ?_ (qA2)))))))))
    ·intro x W j o Q hK H;simp only[fA]at hK ⊢;go_wp2;exact hK _ _ lrR rfl
    ·intro x W j o Q hK H;simp only[fA]at hK ⊢;go_wp2;exact hK _ _ lrR rfl
    ·intro x W j o Q hK H;simp only[fA]at hK ⊢;go_wp2;exact hK _ _ lrR rfl
    ·intro x W j o Q hK H;obtain⟨b,q,-⟩:=o;change _=_ at b q;simp only[fA,b,q]at hK ⊢;go_wp2;exact hK _ _ lrR rfl
    ·intro x W j o Q hK H;obtain⟨b,-⟩:=o;change _=_ at b;have t0:=(Below.cell j (p:=⟨g,i*3,none⟩) N).trans aF.out;have t1:=(Below.cell j (p:=⟨g,i*3+1,none⟩) N).trans aG.out;have t2:=(Below.cell j (p:=⟨g,i*3+2,none⟩) N).trans aH.out;simp only[fA,b]at hK ⊢;go_wp2;exact hK _ _ lrR rfl
    ·intro x W j o Q hK H;simp only[fA]at hK ⊢;go_wp2;exact hK _ _ lrR rfl
    ·intro x W j o Q hK H;obtain⟨b,-⟩:=o;change _=_ at b;simp only[fA,b]at hK ⊢;have kc:=qHw (λ_=>True) (i:Int) W (Up.any _) (by omega) (by omega);have Y:=hyd1 kc;clear kc;go_wp2_with (fail);go_at_call 88;refine Y.out.mono ?_;rintro e w' ⟨v',rfl,y1,y2⟩;obtain⟨vs,vA,vn,vc,vB,vm,vd,rfl⟩:=y2.frm;have⟨Z,ab⟩:=hyd2 y1 y2;clear y2 y1;go_wp2;exact hK _ _ Z.out ab.out
    ·intro x W j o Q hK H;obtain⟨b,q,-⟩:=o;change _=_ at b;replace q:RatL (λ_=>True) .i64 W (x 6) (((i:Int):Rat)):=q;obtain⟨us,uA,un,uc,uB,um,ud,qu⟩:=q.frm;rw[qu]at q;simp only[fA,b,qu]at hK ⊢;have kc:=qE0 (λ_=>True) a ((i:Int):Rat) _ _ W (Up.any _) (ah.out.le j) q aw.out ay.out;have⟨Y,bh⟩:=hyd2 kc q;clear q kc;go_wp2_with (fail);go_at_call 87;refine Y.out.mono ?_;rintro e w' ⟨v',rfl,y1,y2⟩;obtain⟨vs,vA,vn,vc,vB,vm,vd,rfl⟩:=y2.frm;have⟨Z,ab⟩:=hyd2 y1 y2;clear y2 y1;go_wp2;exact hK _ _ Z.out ab.out
    ·intro x W j o Q hK H;obtain⟨b,-⟩:=o;replace b:RatL (λ_=>True) .i64 W (x 7) (a*((i:Int):Rat)):=b;obtain⟨ws,wA,wn,wc,wB,wm,wd,qw⟩:=b.frm;rw[qw]at b;simp only[fA,qw]at hK ⊢;obtain⟨V4,bj,ai,k4⟩:=enew W (.cells #[.bool ws,.slice wA wn wc,.slice wB wm wd] 63);have⟨a3,I,aA⟩:=hyd3 b ai k4;clear k4 ai b;go_wp2;exact hK _ _ I.out ⟨_,_,_,_,_,_,_,_,rfl,aA.out,a3.out.le I.out⟩
   intro x W j o Q' af _;obtain⟨B9,s3,A3,n3,c3,B3,m3,d3,qv,kq,ad⟩:∃B s A n c D m d,x 8= .slice (some ⟨B,0,none⟩) 1 1/\W.heap[B]? =some (.cells #[.bool s,.slice A n c,.slice D m d] 63)/\RatL (λ_=>True) .i64 W (.agg #[.bool s,.slice A n c,.slice D m d]) (a*((i:Int):Rat)):=o 8 (by decide);have b:=o 0 (by decide);change _=_ at b;simp only[List.drop_succ_cons,List.drop_zero];rw[show List.range 9=[0,1,2,3,4,5,6,7,8]from rfl];simp only[fA,qv,b];clear o;clear qv b;have M:Below w.heap.size w W:=L.out.out.trans (j.mono L.out.out.size);have z:=F.out.le j;have a9:=M.size;have J:=qCT kq;have⟨al,G,T,bp,ae,bi⟩:=hyd6 M z J kq ad j;clear j ad kq J z M;refine RowE.append G.out rfl _ _ 51 rfl 56 (.agg #[.bool false,.slice none 0 0,.slice none 0 0]) (by decide) Try.underlying51 C.out rfl qD1 rfl B9 rfl (cs:=[.bool s3,.slice A3 n3 c3,.slice B3 m3 d3]) ⟨_,_,_,_,_,_,_,rfl,ae.out⟩ T.out (by rw[ap.out];omega) a9 ?_;intro v7 W7 q1 q2 q3 q4 q5;have r3:Below w.heap.size w W7:=(show Below w.heap.size w W from al.out).trans q2;rw[<-ar.out]at q1;have bl:=a4.out;have an:((i:Int)+1)=((k+1+1:Nat):Int):=by omega
   have⟨aD,bs,bt,bu,bv,aE,ao⟩:=hyd7 q1 q2 q3 q4 q5 r3 an;clear an r3 q5 q4 q3 q2 q1;go_wp2;refine af _ _ ?_;clear af;go_wp2;go_roundw
   case rel=>exact⟨k+1,by rw[<-ao.out],by omega,aE,aD⟩
   case measure=>simp[intOf];omega
  ·obtain rfl:k=n - 1:=by omega
   have j1:¬(i:Int)<(n:Int):=by omega
   have U:=f.out;have hq:derT l (n - 1)=derQ l:=by rw[<-S.out];rfl
   rw[hq]at U;have aj:=hb.out;have⟨L,V,au,ak⟩:=hyd4 hb f U aj;clear aj U f hb;go_wp2;go_ret;exact⟨_,rfl,ak.out,au.out⟩
end Go.Proofs.Ytcoajjdhkhgfdaa

/- Kinds: the program's and the reference's. The chapter's examples: alive. -/
import Derived.Test.YtbcbcdgbliheoaaGreatPk17
namespace Go.Proofs.YtbcbcdgbliheoaaGreat
set_option maxRecDepth 100000
set_option maxHeartbeats 4000000
open Go.RowKit
set_option linter.unusedVariables false
set_option linter.unusedSimpArgs false
def qFb (p:Prog) (k:Nat):Nat:=(p.shifts.take k).countP λs=>decide (s%(per p:Int)≠0)
def qBo (p:Prog) (k:Nat):Nat:=(p.shifts.take k).countP λs=>decide (s%(per p:Int)=0)
def qBl (N m t c:Nat):Int:=if N=1 then 1 else if m=1 then(if t=0 then 2 else if 2*t=N then 3 else 4)else if 2*t=N/\c=1 then 5 else 6
def qEx (p:Prog):Int:=qBl (per p) (qA1 p) (qBT p).toNat (qFb p (qA1 p))
theorem qGs (p:Prog) (k:Nat) (h:k<=p.shifts.length):qBo p k+qFb p k=k:=by
 unfold qBo qFb;have:=List.length_eq_countP_add_countP (λs:Int=>decide (s%(per p:Int)=0)) (l:=p.shifts.take k);rw[List.length_take,Nat.min_eq_left h]at this;have e:(λs:Int=>decide (s%(per p:Int)≠0))=λa:Int=>decide ¬decide (a%(per p:Int)=0)=true:=by funext s;by_cases b:s%(per p:Int)=0<;>simp[b]
 rw[e];omega
theorem qJj (p:Prog) (k:Nat) (h:k<p.shifts.length):qBo p (k+1)=qBo p k+if p.shifts[k]%(per p:Int)=0 then 1 else 0:=by
 unfold qBo;rw[List.take_succ_eq_append_getElem h,List.countP_append];simp[List.countP_cons]
theorem qHW (v:Value) (p:Prog) (w:World) (hv:IsProg w v p) (hE:qAJ p=0):
  Calls Tryz.prog 7 #[v] w λe w'=>e= .returned (.tuple #[.int .u8 (qEx p),.int .i64 0])/\Below w.heap.size w w':=by
 have al:=Lib.hid hv;obtain⟨v0,v1,v5,rfl,h0,h1,h5⟩:=hv;have ac:=hyd1 h5;obtain⟨A5,c5,rfl,a9,aj,_,_⟩:=id h5;unfold maxLen at aj;clear h0 h1 h5;have J:=qAr hE;have aD:=J.sh1;have L:=qB2 J;have aC:=J.ros1;have af:=L.1;have ag:per p<=96:=by omega
 have ak:=qEr J;have U:=qGg J;obtain⟨t,T⟩:∃t:Nat,qBT p=(t:Int):=⟨(qBT p).toNat,by omega⟩;rw[T]at U;have Y:qEx p=qBl (per p) (qA1 p) t (qFb p (qA1 p)):=by unfold qEx;rw[T,Int.toNat_natCast]
 have G:∀W b,IsBench W b p->Calls Tryz.prog 25 #[.pointer (some ⟨b,0,none⟩)] W λe w'=>e= .returned (.tuple #[.int .i64 (qA1 p),.int .i64 t])/\∃n,w'=W.drewN n:=λW b h=>by rw[<-T];exact qGV b p W h J
 have hcut:=λW=>qBt (qAc:qAd Tryz.prog 22 3 (.int .i64 0) 8) A5 p.shifts.length c5 (qA1 p) (by omega) W;have R:=Lib.hid (qGs p (qA1 p) ak.2);rw[Y];generalize hME:qA1 p=m at*;have⟨ae,I,aF,aA,ao,aq⟩:=hyd6 hE G T Y hME L;clear L hME Y T G hE;go_enter Tryz.func7,Tryz.ntmps7;go_wp2_with (first | (go_at_call 21;((with_reducible refine(qAM _ p _ (al.out.below (alc1 _ _)) 0 ae.out).mono ?_);rintro e w' ⟨vb,rfl,O,-,S⟩;obtain⟨b,rfl,ah,z⟩:=S rfl;have F:=(Box.start w _).next O;have o:=Lib.hid z;clear O S ah z))| (go_at_call 25;((with_reducible refine(I.out _ b o.out).mono ?_);rintro e w' ⟨rfl,nd,hw⟩;have q:=(show Box w w.heap.size _ w' from hw▸F.drewN nd);have P:=(show IsBench w' b p from hw▸o.out.drewN nd);clear hw o F;obtain⟨p0,p1,p2,p3,p4,p5⟩:=q.prog;obtain⟨_,_,-,-,-,-,-,-,-,-,-,c9⟩:=P.cells;replace c9:w'.cell? ⟨b,9,none⟩=some (.int .i64 (per p)):=c9;clear P p0 p1 p2 p3 p4)));have ad:=Lib.hid (ac.out.below q.below);have l:=Lib.hid q.below;clear q hcut
 go_loop [29,10,8] (λi _ s=>∃k:Nat,k<=m/\i= .int .i64 k/\s= .int .i64 (qBo p k)) (λi _ _=>m - (intOf i).toNat)
 case atStart=>exact⟨0,Nat.zero_le _,rfl,by simp[qBo]⟩
 case round=>
  obtain⟨k,Y,rfl,rfl⟩:=hrel
  by_cases aB:k<m
  ·have H:k<p.shifts.length:=by omega
   obtain⟨sb,so,hA,a8,ai⟩:=ad.out.look H;subst hA;have hx:=J.sh k H;have E:=Lib.hid (qJj p k H);have aE:qBo p k<=k:=by have:=qGs p k (by omega);omega
   have ap:¬c5=0:=by omega
   generalize p.shifts[k]=x at ai hx E;have j3:x.tmod (per p:Int)=x%(per p:Int):=Int.tmod_eq_emod_of_nonneg hx.1;have k1:((per p:Int)==0)=false:=by simp;omega
   by_cases r:x%(per p:Int)=0
   ·have hz:(x%(per p:Int)==0)=true:=by simpa using r
    have C:qBo p (k+1)=qBo p k+1:=by rw[E.out,if_pos r]
    have⟨D,V⟩:=hyd2 C r;clear r C;go_wp2
    go_round
    case rel=>exact⟨k+1,by omega,by go_num,by rw[D.out];go_num⟩
    case measure=>simp[intOf];omega
   ·have hz:(x%(per p:Int)==0)=false:=by simpa using r
    have C:qBo p (k+1)=qBo p k:=by rw[E.out,if_neg r];rfl
    have⟨D,V⟩:=hyd2 C r;clear r C;go_wp2
    go_round
    case rel=>exact⟨k+1,by omega,by go_num,by rw[D.out]⟩
    case measure=>simp[intOf];omega
  ·obtain rfl:k=m:=by omega
   have Q:=R.out;generalize hCe:qFb p k=c at Q;generalize qBo p k=s at Q ⊢;have j1:IntKind.i64.wrap (2*(t:Int))=2*(t:Int):=IntWalk.i64_in _ (by omega);have j2:IntKind.i64.wrap ((k:Int) - 1)=(k:Int) - 1:=IntWalk.i64_in _ (by omega);generalize hNe:per p=N at af ag c9 U;have⟨g,j⟩:=hyd2 hCe hNe;clear hNe hCe
   by_cases y:N=1
   ·skip
    have b1:((N:Int)==1)=true:=beq_iff_eq.2 (by omega);have d:qBl N k t c=1:=by unfold qBl;simp[y]
    have f:=hyd1 d;clear d;clear y;go_wp2;go_ret2;exact⟨by rw[j.out,g.out,f.out];exact rfl,l.out⟩
   ·skip
    have b1:((N:Int)==1)=false:=beq_eq_false_iff_ne.2 (by omega)
    by_cases A:k=1
    ·skip
     have b2:((k:Int)==1)=true:=beq_iff_eq.2 (by omega)
     by_cases M:t=0
     ·skip
      have b3:((t:Int)==0)=true:=beq_iff_eq.2 (by omega);have d:qBl N k t c=2:=by unfold qBl;simp[y,A,M]
      have f:=hyd1 d;clear d;clear y A M;go_wp2;go_ret2;exact⟨by rw[j.out,g.out,f.out];exact rfl,l.out⟩
     ·skip
      have b3:((t:Int)==0)=false:=beq_eq_false_iff_ne.2 (by omega)
      by_cases B:2*t=N
      ·skip
       have Z:(2*(t:Int)==(N:Int))=true:=beq_iff_eq.2 (by omega);have d:qBl N k t c=3:=by unfold qBl;simp[y,A,M,B]
       have f:=hyd1 d;clear d;clear y A M B;go_wp2;go_ret2;exact⟨by rw[j.out,g.out,f.out];exact rfl,l.out⟩
      ·skip
       have Z:(2*(t:Int)==(N:Int))=false:=beq_eq_false_iff_ne.2 (by omega);have d:qBl N k t c=4:=by unfold qBl;simp[y,A,M,B]
       have f:=hyd1 d;clear d;clear y A M B;go_wp2;go_ret2;exact⟨by rw[j.out,g.out,f.out];exact rfl,l.out⟩
    ·skip
     have b2:((k:Int)==1)=false:=beq_eq_false_iff_ne.2 (by omega)
     by_cases B:2*t=N
     ·skip
      have Z:(2*(t:Int)==(N:Int))=true:=beq_iff_eq.2 (by omega)
      by_cases X:c=1
      ·skip
       have b5:((s:Int)==(k:Int) - 1)=true:=beq_iff_eq.2 (by omega);have d:qBl N k t c=5:=by unfold qBl;simp[y,A,B,X]
       have f:=hyd1 d;clear d;clear y A B X;go_wp2;go_ret2;exact⟨by rw[j.out,g.out,f.out];exact rfl,l.out⟩
      ·skip
       have b5:((s:Int)==(k:Int) - 1)=false:=beq_eq_false_iff_ne.2 (by omega);have d:qBl N k t c=6:=by unfold qBl;simp[y,A,B,X]
       have f:=hyd1 d;clear d;clear y A B X;go_wp2;go_ret2;exact⟨by rw[j.out,g.out,f.out];exact rfl,l.out⟩
     ·skip
      have Z:(2*(t:Int)==(N:Int))=false:=beq_eq_false_iff_ne.2 (by omega);have d:qBl N k t c=6:=by unfold qBl;simp[y,A,B]
      have f:=hyd1 d;clear d;clear y A B;go_wp2;go_ret2;exact⟨by rw[j.out,g.out,f.out];exact rfl,l.out⟩
theorem qE5 (v:Value) (p:Prog) (w:World) (hv:IsProg w v p) (E:Int) (hE:qAJ p=E):
  Calls Tryz.prog 7 #[v] w λe w'=>e= .returned (.tuple #[.int .u8 (qBG E (qEx p)),.int .i64 E])/\Below w.heap.size w w':=by
 by_cases b:E=0
 ·subst b;exact qHW v p w hv hE
 ·have i:=Lib.hid hv;obtain⟨n,o,q,rfl,j,k,l⟩:=hv;clear j k l;have m:(E != 0)=true:=by simpa using b
  rw[qB3 b];have⟨f,c⟩:=hyd2 hE b;clear b hE;go_enter Tryz.func7,Tryz.ntmps7;go_wp2_with (first | (go_at_call 21;((with_reducible refine(qAM _ p _ (i.out.below (alc1 _ _)) E f.out).mono ?_);rintro e w' ⟨r,rfl,g,d,-⟩;have h:=d c.out;subst h;clear d)));go_ret2;exact⟨rfl,((Box.start w _).next g).below⟩
open Go.RowKit Go.Shelf Go.Sort Go.Lib
def qBI:Prog:=⟨[0,3,0,0,3,0],[0],100,2,10,[1]⟩
def qC6:Prog:=⟨[0,1,2,1],[0],0,1,0,[0,2]⟩
def qFu:List Mv:=[⟨0,0,false,false⟩,⟨0,2,true,true⟩,⟨1,0,true,true⟩,⟨1,1,false,false⟩,⟨2,1,true,true⟩,⟨2,2,false,false⟩]
theorem qGX:qAJ qBI=0:=by kernel_rfl
theorem qIq:qAJ qC6=0:=by kernel_rfl
theorem qKi:symL qBI=qFu:=by kernel_rfl
theorem qIr:(qBG 0 (qAD qBI):Int)=3:=by kernel_rfl
theorem qJk:cutE qBI 1=0:=by kernel_rfl
theorem qKj:onOk 0 (cutL qBI 1)=[110,110,116,110,110,116]:=by kernel_rfl
theorem qKk:(qBG 0 (gapI qBI):Int)=4:=by kernel_rfl
theorem qIs:(qBG 0 (qA1 qC6):Int)=2:=by kernel_rfl
theorem qJl:(qBG 0 (qBT qC6):Int)=2:=by kernel_rfl
theorem qJm:(qBG 0 (qEx qC6):Int)=5:=by kernel_rfl
theorem lit1 (w:World) (zs:List Int) (e:TypeId) (n:Nat) (hw:w.heap.size=n) (hm:zs.length<=maxLen):Ints (w.alloc (.cells (zs.map vint).toArray e)) (.slice (some ⟨n,0,none⟩) zs.length zs.length) zs:=by subst hw;exact qMa w zs e hm
theorem qDc (w:World):Calls Tryz.prog 5 #[] w λe w'=>∃v,e= .returned v/\Below w.heap.size w w'/\IsProg w' v qBI:=by
 go_enter Tryz.func5,Tryz.ntmps5;go_wp2;refine bodyPost_ret (v:= .agg #[.slice (some ⟨w.heap.size+1,0,none⟩) 6 6,.slice (some ⟨w.heap.size+1+1,0,none⟩) 1 1,.int .i64 100,.int .i64 2,.int .i64 10,.slice (some ⟨w.heap.size+1+1+1,0,none⟩) 1 1]) (by simp[results,Tryz.results5,go_sem]) rfl ?_;refine⟨_,rfl,alc4 _ _ _ _ _,_,_,_,rfl,?_,?_,?_⟩
 ·exact(lit1 (w.alloc _) [0,3,0,0,3,0] 3 (w.heap.size+1) (by simp) (by simp[maxLen])).below (alc2 _ _ _)
 ·exact(lit1 ((w.alloc _).alloc _) [0] 3 (w.heap.size+1+1) (by simp) (by simp[maxLen])).below (alc1 _ _)
 ·exact lit1 (((w.alloc _).alloc _).alloc _) [1] 3 (w.heap.size+1+1+1) (by simp) (by simp[maxLen])
theorem qHs (vs:Value) (w:World) (hs:Ints w vs [0,2]):Calls Tryz.prog 9 #[vs] w λe w'=>∃v,e= .returned v/\Below w.heap.size w w'/\IsProg w' v qC6:=by
 have b:=Lib.hid hs;obtain⟨A,c,rfl,_,_,_,_⟩:=hs;go_enter Tryz.func9,Tryz.ntmps9;go_wp2;refine bodyPost_ret (v:= .agg #[.slice (some ⟨w.heap.size+1,0,none⟩) 4 4,.slice (some ⟨w.heap.size+1+1,0,none⟩) 1 1,.int .i64 0,.int .i64 1,.int .i64 0,.slice A 2 c]) (by simp[results,Tryz.results9,go_sem]) rfl ?_;refine⟨_,rfl,alc3 _ _ _ _,_,_,_,rfl,?_,?_,?_⟩
 ·exact(lit1 (w.alloc _) [0,1,2,1] 3 (w.heap.size+1) (by simp) (by simp[maxLen])).below (alc1 _ _)
 ·exact lit1 ((w.alloc _).alloc _) [0] 3 (w.heap.size+1+1) (by simp) (by simp[maxLen])
 ·exact b.out.below (alc3 _ _ _ _)
theorem qEy (v v':Value) (xs:List Int) (w:World) (hx:Ints w v xs) (hy:Ints w v' xs):
  Calls Tryz.prog 10 #[v,v'] w λe w'=>e= .returned (.bool true)/\∃n,w'=w.drewN n:=by
 have h:=qKT v v' xs xs w hx hy
 rwa[show(xs==xs)=true by simp]at h
theorem qLu (v v':Value) (xs:List Mv) (w:World) (hx:Mvs w v xs) (hy:Mvs w v' xs):
  Calls Tryz.prog 47 #[v,v'] w λe w'=>e= .returned (.bool true)/\∃n,w'=w.drewN n:=by
 have h:=qIp v v' xs xs w hx hy
 rwa[show(xs==xs)=true by simp]at h
theorem qMz (w:World):Calls Tryz.prog 19 #[] w λe w'=>e= .returned (.bool true)/\Below w.heap.size w w':=by
 have r:∀W V,IsProg W V qBI->Calls Tryz.prog 4 #[V,.int .i64 1] W λe w'=>∃q,e= .returned (.tuple #[q,.int .i64 0])/\Below W.heap.size W w'/\Ints w' q [110,110,116,110,110,116]:=λW V h=>(qGm V qBI 1 W h 0 qJk).mono λe w' ⟨q,D,l,A⟩=>⟨q,D,l,by rw[qKj]at A;exact qCR A⟩;have j:∀W V,IsProg W V qBI->Calls Tryz.prog 8 #[V] W λe w'=>e= .returned (.tuple #[.int .i64 3,.int .i64 0])/\Below W.heap.size W w':=λW V h=>by have l:=qDe V qBI W h 0 qGX;rwa[qIr]at l
 have k:∀W V,IsProg W V qC6->Calls Tryz.prog 6 #[V] W λe w'=>e= .returned (.tuple #[.int .i64 2,.int .i64 2,.int .i64 0])/\Below W.heap.size W w':=λW V h=>by have l:=qF2 V qC6 W h 0 qIq;rwa[qIs,qJl]at l
 have n:∀W V,IsProg W V qC6->Calls Tryz.prog 7 #[V] W λe w'=>e= .returned (.tuple #[.int .u8 5,.int .i64 0])/\Below W.heap.size W w':=λW V h=>by have l:=qE5 V qC6 W h 0 qIq;rwa[qJm]at l
 have s:∀W V,IsProg W V qBI->Calls Tryz.prog 45 #[V] W λe w'=>e= .returned (.tuple #[.int .i64 4,.int .i64 0])/\Below W.heap.size W w':=λW V h=>by have l:=qK7 V qBI W h 0 qGX;rwa[qKk]at l
 have t:∀W V,IsProg W V qBI->Calls Tryz.prog 46 #[V] W λe w'=>∃q,e= .returned (.tuple #[q,.int .i64 0])/\Below W.heap.size W w'/\Mvs w' q qFu:=λW V h=>(qGH V qBI W h 0 qGX).mono λe w' ⟨q,D,l,A⟩=>⟨q,D,l,by rw[qKi]at A;exact Mvs.of_own A (by decide)⟩;have⟨v,m,o,p,x,y⟩:=hyd6 r j k n s t;clear t s n k j r;go_enter Tryz.func19,Tryz.ntmps19;have i:=Below.refl w.heap.size w;go_upto_region 2 with(first | (go_at_call 5;refine(qDc _).mono ?_;rintro e C ⟨B,rfl,b,g⟩;have f:=Lib.hid g;have d:=Below.tr i b;clear b i g)| (go_at_call 4;refine(v.out _ _ f.out).mono ?_;rintro e z ⟨L,rfl,b,F⟩;have i:=Below.tr d b;have c:=Lib.hid F;clear b F d f));go_upto_region 3 with(first | (go_at_call 5;refine(qDc _).mono ?_;rintro e C ⟨B,rfl,b,g⟩;have f:=Lib.hid g;have d:=Below.tr i b;have c:=Lib.hid (c.out.below b);clear b i g)| (go_at_call 8;refine(m.out _ _ f.out).mono ?_;rintro e z ⟨rfl,b⟩;have i:=Below.tr d b;have c:=Lib.hid (c.out.below b);clear b d f));go_upto_region 4 with(first | (go_at_call 9;refine(qHs _ _ (lit1 _ [0,2] 3 _ rfl (by simp[maxLen]))).mono ?_;rintro e C ⟨B,rfl,b,g⟩;have b:=(alc1 _ _).trans (b.mono (by simp));have f:=Lib.hid g;have d:=Below.tr i b;have c:=Lib.hid (c.out.below b);clear b i g)| (go_at_call 6;refine(o.out _ _ f.out).mono ?_;rintro e z ⟨rfl,b⟩;have i:=Below.tr d b;have c:=Lib.hid (c.out.below b);clear b d f))
 go_upto_region 5 with(first | (go_at_call 9;refine(qHs _ _ (lit1 _ [0,2] 3 _ rfl (by simp[maxLen]))).mono ?_;rintro e C ⟨B,rfl,b,g⟩;have b:=(alc1 _ _).trans (b.mono (by simp));have f:=Lib.hid g;have d:=Below.tr i b;have c:=Lib.hid (c.out.below b);clear b i g)| (go_at_call 7;refine(p.out _ _ f.out).mono ?_;rintro e z ⟨rfl,b⟩;have i:=Below.tr d b;have c:=Lib.hid (c.out.below b);clear b d f));go_upto_region 6 with(first | (go_at_call 5;refine(qDc _).mono ?_;rintro e C ⟨B,rfl,b,g⟩;have f:=Lib.hid g;have d:=Below.tr i b;have c:=Lib.hid (c.out.below b);clear b i g)| (go_at_call 45;refine(x.out _ _ f.out).mono ?_;rintro e z ⟨rfl,b⟩;have i:=Below.tr d b;have c:=Lib.hid (c.out.below b);clear b d f));go_upto_region 7 with(first | (go_at_call 5;refine(qDc _).mono ?_;rintro e C ⟨B,rfl,b,g⟩;have f:=Lib.hid g;have d:=Below.tr i b;have c:=Lib.hid (c.out.below b);clear b i g)| (go_at_call 46;refine(y.out _ _ f.out).mono ?_;rintro e z ⟨M,rfl,b,G⟩;have i:=Below.tr d b;have E:=Lib.hid G;have c:=Lib.hid (c.out.below b);clear b d f G));go_upto_region 8 with(fail);go_wp2_with (first | (go_at_call 10;refine(qEy _ _ [110,110,116,110,110,116] _ (c.out.below (alc2 _ _ _)) (lit1 _ [110,110,116,110,110,116] 3 _ (by simp) (by simp[maxLen]))).mono ?_;rintro e I ⟨rfl,J,rfl⟩)| (go_at_call 47;refine(qLu _ _ qFu _ (E.out.below (qAF (alc2 _ _ _) _)) ((qLq z qFu _ rfl 39 (by decide)).below (qAF (alc1 _ _) _))).mono ?_;rintro e I ⟨rfl,H,rfl⟩))
 go_ret;exact⟨rfl,qAF (i.trans ((alc2 _ _ _).mono i.size)) _⟩
end Go.Proofs.YtbcbcdgbliheoaaGreat

/- From what a row's opening gives of a program (a struct of six fields) to the predicate that the contracts speak of. From what a row's opening gives of a .. -/
import Derived.Test.YtabfaobakmjiaaaGreatPy53
import Derived.Test.YtabfaobakmjiaaaGreatPy22
namespace Go.Proofs.YtabfaobakmjiaaaGreat
set_option maxRecDepth 100000
open Go.RowKit Go.ChangeShapes Go.WideShapes Go.Deep
set_option linter.unusedVariables false
section
variable {H:Type} {enc:TypeId×Value->H} {w:World} {n:Nat}
end
end Go.Proofs.YtabfaobakmjiaaaGreat
namespace Go.Proofs.YtabfaobakmjiaaaGreat
set_option maxRecDepth 100000
open Go.RowKit Go.ChangeShapes Go.WideShapes Go.Deep
set_option linter.unusedVariables false
theorem qP0 {α:Type} {n:Nat} {Q:Nat->α->Prop} (h:∀i,i<n->∃a,Q i a):∃l:List α,l.length=n/\∀j (hj:j<l.length),Q j l[j]:=by
 induction n with
 | zero=>exact⟨[],rfl,λj hj=>absurd hj (Nat.not_lt_zero j)⟩
 | succ n ih=>
  obtain⟨l,c,hq⟩:=ih (λi f=>h i (by omega));obtain⟨a,d⟩:=h n (by omega);refine⟨l++[a],by simp[c],λj hj=>?_⟩
  by_cases b:j<l.length
  ·rw[List.getElem_append_left b];exact hq j b
  ·have:j=l.length:=by simp at hj;omega
   subst this;simp only[List.getElem_concat_length];rw[c];exact d
section
variable {H:Type} {enc:TypeId×Value->H} {w:World}
theorem qIc {P:Program} {TS TE:TypeId} {k:Nat} (hu:P.underlying TS=some (.slice TE)) (hk:P.cellsOf TE=k) (hk0:0<k) {α:Type} (Q:Nat->Nat->α->Prop)
  (each:∀(b o n:Nat) (cs:List Value) (y:DataW H×List MemPlace),cs.length=k->(∀i,i<k->w.cell? ⟨b,o+i,none⟩=cs[i]?)->DataW.trod enc P w 0 (λ_=>true) true n TE cs=some y->∃a:α,Q b o a)
  {n:Nat} {v:Value} {y:DataW H×List MemPlace} (h:DataW.trod enc P w 0 (λ_=>true) true n TS [v]=some y):
  ∃l:List α,∃A c,v= .slice A l.length c/\l.length<=c/\c<=maxLen/\(A=none->c=0)/\(0<l.length->∃b off,A=some ⟨b,off,none⟩/\b<w.heap.size/\∀j (hj:j<l.length),Q b (off+j*k) l[j]):=by
 rcases open_slice hu h with⟨f,-⟩| ⟨x,len,cap,m,n',D,Pl,f,-,hl,hm,hmm,-,hel⟩
 ·obtain rfl:v= .slice none 0 0:=by simpa using f
  exact⟨[],none,0,rfl,Nat.le_refl _,Nat.zero_le _,(λ_=>rfl),λh=>absurd h (Nat.lt_irrefl 0)⟩
 ·obtain rfl:v= .slice (some x) len cap:=by simpa using f
  have L:m=cap:=by simpa using hmm
  by_cases J:len=0
  ·subst J;exact⟨[],some x,cap,rfl,Nat.zero_le _,by omega,(λh=>by cases h),λh=>absurd h (Nat.lt_irrefl 0)⟩
  ·obtain⟨b,off,B⟩:=x;rw[hk]at hel;obtain⟨C,t,-⟩:=hel 0 (by omega);obtain⟨-,z,E⟩:=World.cells?_some t;have d:=E 0 hk0;obtain⟨O,I⟩:∃v,C[0]? =some v:=⟨_,List.getElem?_eq_getElem (by omega)⟩;rw[I]at d;have p:B=none:=by simpa[Addr.add]using World.cell?_spot d
   subst p;have q:∀j,(⟨b,off,none⟩:Addr).add j=⟨b,off+j,none⟩:=λj=>by unfold Addr.add;split<;>simp_all
   have g:∀o j,(⟨b,o,none⟩:Addr).add j=⟨b,o+j,none⟩:=λo j=>by unfold Addr.add;split<;>simp_all
   have s:b<w.heap.size:=by
    have:=World.block_lt_of_cell? w _ d;simpa[Addr.add]using this
   have r:∀i,i<len->∃a:α,Q b (off+i*k) a:=λi N=>by
    obtain⟨cs,f,M⟩:=hel i (by omega);obtain⟨-,z,F⟩:=World.cells?_some f;refine each b (off+i*k) _ cs _ z (λj hj=>?_) M;have:=F j hj;rw[q,g]at this;exact this
   obtain⟨l,G,hq⟩:=qP0 r;subst G;exact⟨l,some ⟨b,off,none⟩,cap,rfl,by simpa using hl,by omega,(λh=>by cases h),λ_=>⟨b,off,rfl,s,hq⟩⟩
end
end Go.Proofs.YtabfaobakmjiaaaGreat
namespace Go.Proofs.YtabfaobakmjiaaaGreat
set_option maxRecDepth 100000
open Go.RowKit Go.ChangeShapes Go.WideShapes Go.Deep
set_option linter.unusedVariables false
def PathsI (w:World) (v:Value) (L:List (List ArmA)):Prop:=
 ∃A c,v= .slice A L.length c/\L.length<=c/\c<=maxLen/\(A=none->c=0)/\(0<L.length->∃b off,A=some ⟨b,off,none⟩/\b<w.heap.size/\∀j (h:j<L.length),∃vr,w.cell? ⟨b,off+j,none⟩=some vr/\ArmsL w vr L[j])
theorem PathsI.paths {w:World} {v:Value} {L:List (List ArmA)} (h:PathsI w v L) (hl:L.length<=1000):PathsL w v L:=by
 obtain⟨A,c,d,-,-,-,b⟩:=h;exact⟨A,c,d,hl,b⟩
section
variable {H:Type} {enc:TypeId×Value->H} {w:World}
theorem qRy {n:Nat} {v:Value} {y:DataW H×List MemPlace} (h:DataW.trod enc Tryz.prog w 0 (λ_=>true) true n 25 [v]=some y):∃l:List ArmA,ArmsL w v l:=by
 obtain⟨l,A,c,rfl,m,p,q,f⟩:=qIc Tryz.underlying25 (by kernel_rfl) (by decide) (λb o (a:ArmA)=>ArmAt w b o a/\ -9223372036854775808<=a.k/\a.k<=9223372036854775807) (λb o n x y s q2 t=>qPM s q2 t) h;refine⟨l,A,c,rfl,m,p,q,λa r=>?_,λi=>?_⟩
 ·obtain⟨j,d,rfl⟩:=List.getElem_of_mem r;obtain⟨b,off,e,g,hq⟩:=f (by omega);exact(hq j d).2
 ·obtain⟨b,off,e,g,hq⟩:=f i;exact⟨b,off,e,g,λj d=>by rw[Nat.mul_comm 9 j];exact(hq j d).1⟩
theorem qRz {b o n:Nat} {cs:List Value} {y:DataW H×List MemPlace} (hlen:cs.length=1) (hc:∀i,i<1->w.cell? ⟨b,o+i,none⟩=cs[i]?) (h:DataW.trod enc Tryz.prog w 0 (λ_=>true) true n 25 cs=some y):
  ∃l:List ArmA,∃vr,w.cell? ⟨b,o,none⟩=some vr/\ArmsL w vr l:=by
 match cs,hlen with
 | [v0],_=>
  obtain⟨l,c⟩:=qRy h;exact⟨l,v0,hc 0 (by decide),c⟩
theorem open_paths {r:Reach} {b0:Nat} {v:Value} {d:DataW H} {p:List MemPlace} (hv:Value.okWide Tryz.prog w r b0 22 v) (h:DataW.Trod enc Tryz.prog w 0 (λ_=>true) true 22 v d p):∃l:List (List ArmA),PathsI w v l:=by
 obtain⟨g,C⟩:=h;obtain⟨m,i,f,rfl⟩:=okWide_slice Tryz.underlying22 hv;have k:DataW.trod enc Tryz.prog w 0 (λ_=>true) true g 22 [.slice m i f]=some (d,p):=by simpa[Value.cells]using C
 obtain⟨l,A,c,e,s,t,x,z⟩:=qIc Tryz.underlying22 (by kernel_rfl) (by decide) (λb o (a:List ArmA)=>∃vr,w.cell? ⟨b,o,none⟩=some vr/\ArmsL w vr a) (λb o n G y E q2 F=>qRz E q2 F) k;refine⟨l,A,c,e,s,t,x,λq=>?_⟩;obtain⟨b,off,e,B,hq⟩:=z q;exact⟨b,off,e,B,λj D=>by have:=hq j D;rwa[Nat.mul_one]at this⟩
end
end Go.Proofs.YtabfaobakmjiaaaGreat
namespace Go.Proofs.YtabfaobakmjiaaaGreat
set_option maxRecDepth 100000
set_option maxHeartbeats 4000000
open Go.RowKit
set_option linter.unusedVariables false
set_option linter.unusedSimpArgs false
theorem qP1 (a0:List (List ArmA)) (x0:Value) (n1 n2 n3 n4:Nat) (a5:Bool) (a6:List Int) (x6:Value) (n7:Nat) (w:World) (w0:PathsI w x0 a0) (h1:n1<=255) (h2:n2<=255) (h3:n3<=255) (h4:n4<=255) (w6:Arr (Value.int .i8) w x6 a6) (h6:∀o∈a6,-128<=o/\o<=127) (h7:n7<=255):
  Calls Tryz.prog 4 #[x0,.int .u8 (n1:Int),.int .u8 (n2:Int),.int .u8 (n3:Int),.int .u8 (n4:Int),.bool a5,x6,.int .u8 (n7:Int)] w (qGg w):=by
 obtain⟨PA,pc,rfl,p1,p2,-⟩:=id w0;obtain⟨FA,fc,rfl,f1,f2,-,f3⟩:=id w6;unfold maxLen at p2 f2;obtain⟨c,f⟩:∃m,a0.length=m:=⟨_,rfl⟩;obtain⟨E,t⟩:∃m,a6.length=m:=⟨_,rfl⟩;rw[f]at p1 ⊢;rw[t]at f1 ⊢;have B:=qMI w
 by_cases a3:c=0∨4<c∨12<E∨E<2
 ·have ai:((c:Int)=0)∨(¬(c:Int)=0/\(4:Int)<(c:Int))∨(¬(c:Int)=0/\¬(4:Int)<(c:Int)/\(12:Int)<(E:Int))∨(¬(c:Int)=0/\¬(4:Int)<(c:Int)/\¬(12:Int)<(E:Int)/\(E:Int)<(2:Int)):=by omega
  clear a3
  rcases ai with h| ⟨g1,h⟩| ⟨g1,g2,h⟩| ⟨g1,g2,g3,h⟩
  ·obtain rfl:c=0:=by omega
   have⟨aJ,aK,b,N,s,aR⟩:=hyd6 w0 w6 f t B f3;clear f3 B t f w6 w0;go_enter Tryz.func4,Tryz.ntmps4;go_wp2_with (fail);go_at_call 10;refine s.out.mono ?_;rintro e W1 ⟨rfl,g⟩;have k:=hyd1 g;clear g;go_wp2;go_ret;exact⟨rfl,k.out⟩
  all_goals
   have g4:¬c=0:=by omega
   have⟨aJ,aK,b,N,s,aR⟩:=hyd6 w0 w6 f t B f3;clear f3 B t f w6 w0;go_enter Tryz.func4,Tryz.ntmps4;go_wp2_with (fail);go_at_call 10;refine s.out.mono ?_;rintro e W1 ⟨rfl,g⟩;have k:=hyd1 g;clear g;go_wp2;go_ret;exact⟨rfl,k.out⟩
 ·have bb:c<=4:=by omega
  have b6:0<c:=by omega
  have a4:E<=12:=by omega
  have aX:2<=E:=by omega
  have i0:¬(c:Int)=0:=by omega
  have i9:¬c=0:=by omega
  have k0:((c:Int)==0)=false:=by simpa using i9
  have k1:decide ((4:Int)<(c:Int))=false:=by simp;omega
  have k2:decide ((12:Int)<(E:Int))=false:=by simp;omega
  have k3:decide ((E:Int)<(2:Int))=false:=by simp;omega
  have i1:¬(4:Int)<(c:Int):=by omega
  have i2:¬(12:Int)<(E:Int):=by omega
  have i3:¬(E:Int)<(2:Int):=by omega
  have hp:=w0.paths (by omega);rw[f]at hp;obtain⟨fb,fo,rfl,a7,a8⟩:=f3 (by omega);clear f3;obtain⟨pb,po,aI,bQ,l,ad,-,-⟩:=PathsL.at hp (show 0<a0.length by omega);rw[f]at l;injection l with e1 e2 D;subst e1 D;clear e2;obtain⟨mo,an⟩:∃m,n7%8=m:=⟨_,rfl⟩;obtain⟨D,aj⟩:∃m,n2%3=m:=⟨_,rfl⟩;obtain⟨C,aq⟩:∃m,n1%c=m:=⟨_,rfl⟩;obtain⟨f9,S⟩:∃m,n3%(4*(D+1))=m:=⟨_,rfl⟩;obtain⟨q9,ar⟩:∃m,n4%4=m:=⟨_,rfl⟩;obtain⟨ea,aW⟩:∃m,D+1=m:=⟨_,rfl⟩;obtain⟨U,ba⟩:∃m,4*ea=m:=⟨_,rfl⟩;rw[aW,ba]at S;have b0:mo<8:=by rw[<-an];exact Nat.mod_lt _ (by decide)
  have b1:D<3:=by rw[<-aj];exact Nat.mod_lt _ (by decide)
  have b2:C<c:=by rw[<-aq];exact Nat.mod_lt _ (by omega)
  have b3:f9<U:=by rw[<-S];exact Nat.mod_lt _ (by omega)
  have b4:q9<4:=by rw[<-ar];exact Nat.mod_lt _ (by decide)
  have⟨aJ,aK,b,N,s,aA,a9,bc⟩:=hyd8 w0 w6 f t B hp a8 ad;have⟨M,aa,X,ac,Y,ae,aT⟩:=hyd7 a7 an aj aq S ar h6;clear h6 ar S aq aj an a7 ad a8 hp B t f w6 w0;go_enter Tryz.func4,Tryz.ntmps4;go_wp2_with (fail);go_at_call 10;refine s.out.mono ?_;rintro e W1 ⟨rfl,g⟩;have k:=hyd1 g;clear g;go_wp2_with (fail);go_loopw [16,61] (λrx ix wr=>∃i:Nat,i<=c/\rx= .bool false/\ix= .int .i64 (i:Int)/\Hid (Below w.heap.size w wr)) (λrx ix _=>c - (intOf ix).toNat)
  case atStart=>exact⟨0,Nat.zero_le _,rfl,rfl,k⟩
  case round=>
   obtain⟨i,hi,rfl,rfl,hB⟩:=hrel;have I:=hB.out
   by_cases aZ:i<c
   ·have aY:i<a0.length:=by rw[b.out];exact aZ
    obtain⟨bh,bi,aI,vr,l,O,g0,v⟩:=PathsL.at (aA.out.le I) aY;rw[b.out]at l;injection l with e1 e2 D;injection e1 with e1;injection e1 with e1 e4;subst e1 D e4;clear e2;have kg:=qMQ a0[i] 5 1 12 vr _ v (by omega) (by omega) (by omega);obtain⟨G,hG⟩:∃G,qFX a0[i] 5 1 12=G:=⟨_,rfl⟩;rw[hG]at kg;have j1:(i:Int)<(c:Int):=by omega
    have j2:(0:Int)<=(i:Int):=by omega
    have⟨aU,J,aC,aE,bg,b5⟩:=hyd6 hB I O v kg hG;clear hG kg v O I hB;go_wp2_with (fail);go_at_call 6;refine bg.out.mono ?_;rintro e W2 ⟨rfl,q⟩;have Q:=belT J.out q;clear g0
    cases G with
    | true=>
     have⟨am,F⟩:=hyd2 q Q;clear Q q;go_wp2;go_ret;exact⟨rfl,F.out⟩
    | false=>
     have⟨am,F⟩:=hyd2 q Q;clear Q q;go_wp2;go_roundw
     case rel=>exact⟨i+1,by omega,rfl,by go_num,F⟩
     case measure=>simp[intOf];omega
   ·obtain rfl:i=c:=by omega
    have x1:(n7:Int).tmod 8=(mo:Int):=by rw[<-aa.out];rfl
    have y1:(n7:Int)%8=(mo:Int):=by rw[<-aa.out];rfl
    have x2:(n2:Int).tmod 3=(D:Int):=by rw[<-X.out];rfl
    have y2:(n2:Int)%3=(D:Int):=by rw[<-X.out];rfl
    have x3:(n1:Int).tmod (i:Int)=(C:Int):=by rw[<-ac.out];rfl
    have y3:(n1:Int)%(i:Int)=(C:Int):=by rw[<-ac.out];rfl
    have x4:(n3:Int).tmod (U:Int)=(f9:Int):=by rw[<-Y.out];rfl
    have y4:(n3:Int)%(U:Int)=(f9:Int):=by rw[<-Y.out];rfl
    have x5:(n4:Int).tmod 4=(q9:Int):=by rw[<-ae.out];rfl
    have y5:(n4:Int)%4=(q9:Int):=by rw[<-ae.out];rfl
    have s1:IntKind.i64.wrap (n1:Int)=(n1:Int):=IntWalk.i64_in _ (by omega);have s2:IntKind.i64.wrap (n2:Int)=(n2:Int):=IntWalk.i64_in _ (by omega);have s3:IntKind.i64.wrap (n3:Int)=(n3:Int):=IntWalk.i64_in _ (by omega);have s4:IntKind.i64.wrap (n4:Int)=(n4:Int):=IntWalk.i64_in _ (by omega);have s7:IntKind.i64.wrap (n7:Int)=(n7:Int):=IntWalk.i64_in _ (by omega);have s8:IntKind.i64.wrap ((D:Int)+1)=(ea:Int):=(IntWalk.i64_in _ (by omega)).trans (by omega);have s9:IntKind.i64.wrap (4*(ea:Int))=(U:Int):=(IntWalk.i64_in _ (by omega)).trans (by omega);have t1:¬(U:Int)=0:=by omega
    have t2:¬U=0:=by omega
    have⟨aU,J⟩:=hyd2 hB I;clear I hB;go_wp2_with (fail);go_region
    obtain⟨W3,a2,ah,k3⟩:∃V,(wr.alloc (.cells #[.int .i64 (C:Int),.int .i64 (f9:Int),.int .i64 (q9:Int),.bool a5] 37)).drew =V/\Below wr.heap.size wr V/\V.heap[wr.heap.size]? =some (.cells #[.int .i64 (C:Int),.int .i64 (f9:Int),.int .i64 (q9:Int),.bool a5] 37):=
     ⟨_,rfl,(alc1 _ _).drew,qCN _ _⟩
    rw[a2];clear a2 x1 y1 x2 y2 x3 y3 x4 y4 x5 y5 s1 s2 s3 s4 s7 s8;have y:=belT J.out ah;have ap:=aA.out.le y;obtain⟨bh,bi,aI,vr,l,O,g0,v⟩:=PathsL.at ap (show C<a0.length by rw[b.out];exact b2);rw[b.out]at l;injection l with e1 e2 D;injection e1 with e1;injection e1 with e1 e4;subst e1 e4;clear e2 D;have al:a0.getD C []=a0[C]'(by rw[b.out];exact b2):=by rw[List.getD_eq_getElem?_getD,List.getElem?_eq_getElem (by rw[b.out];exact b2)];rfl
    have au:=qDM _ (ea:Int) vr W3 v;rw[<-al]at au;obtain⟨v0,v1,v2,v3⟩:=pc4 k3;have j1:(C:Int)<(i:Int):=by omega
    have j2:(0:Int)<=(C:Int):=by omega
    have aF:C<a0.length:=by rw[b.out];exact b2
    have Z:∀j (h:j<a6.length),W3.cell? ⟨fb,fo+j,none⟩=some (.int .i8 a6[j]):=λj h=>(y.cell (p:=⟨fb,fo+j,none⟩) M.out).trans (a9.out j h);have⟨bn,be,L,aB,aC,aE,bo,aH⟩:=hyd8 ah k3 y ap O v al au;have⟨aG,ak⟩:=hyd2 aF Z;clear Z aF au al v O ap y k3 ah;go_wp2_with (fail);clear v0 v1 v2 v3 g0;go_at_call 11;refine aH.out.mono ?_;rintro e W5 ⟨r,v5,c5,rfl,A⟩;have R:=belT L.out r
    rcases hP:qA4 (a0.getD C []) (ea:Int)with z|P
    ·rw[hP]at A;obtain⟨rfl,rfl⟩:=A;have z0:=qGB hP;have y0:(c5==0)=false:=by simpa using z0
     have x0:(c5 != 0)=true:=by simpa using z0
     have⟨d,x,az⟩:=hyd3 r R hP;clear hP R r;go_wp2;go_ret;exact⟨rfl,x.out⟩
    ·rw[hP]at A;obtain⟨T,rfl,-⟩:=A;obtain⟨OA,oc,rfl,-⟩:=T.form;obtain⟨-,ag,-⟩:=qDH hP;obtain⟨on,ao⟩:∃m,P.length=m:=⟨_,rfl⟩;rw[ao]at T ag ⊢;have e5:on=U:=by omega
     have e7:(on:Int)=(U:Int):=by omega
     have e6:((on:Int) != (U:Int))=false:=by rw[e7];simp
     clear e5;have⟨d,x,az,aD,ab,a1⟩:=hyd6 r R hP T ao ag;clear ag ao T hP R r;go_upto_region 15 with(fail);exact qSY w pb po i pc fb fo E fc wr.heap.size OA on oc (mo:Int) (ea:Int) a0 a6 ⟨C,f9,q9,a5⟩ P W5 (aB.out.le d.out) b.out bb N.out ⟨aX,a4⟩ (Nat.lt_of_lt_of_le M.out x.out.size) (λj h=>(d.out.cell (p:=⟨fb,fo+j,none⟩) (Nat.lt_of_lt_of_le M.out L.out.size)).trans (ak.out j h)) aT.out (blk d.out be.out) (by omega) (by omega) aD.out ab.out a1.out aG.out az.out (by show f9<P.length;rw[ab.out];omega) b4 x.out _ (qAL _ _ (by kernel_rfl)) _ (by assumption)
theorem law_ReadTraced (a0:List (List ArmA)) (x0:Value) (a1 a2 a3 a4:Int) (a5:Bool) (a6:List Int) (x6:Value) (a7:Int) (w:World) (w0:PathsI w x0 a0) (w1:(Lit.int .u8 a1).wf =true) (w2:(Lit.int .u8 a2).wf =true) (w3:(Lit.int .u8 a3).wf =true) (w4:(Lit.int .u8 a4).wf =true) (w6:Arr (Value.int .i8) w x6 a6/\∀n∈a6,(Lit.int .i8 n).wf =true) (w7:(Lit.int .u8 a7).wf =true):
  Calls Tryz.prog 4 #[x0,.int .u8 a1,.int .u8 a2,.int .u8 a3,.int .u8 a4,.bool a5,x6,.int .u8 a7] w λe w'=>e= .returned (.bool true)/\Below w.heap.size w w':=by
 have b:∀a:Int,(Lit.int .u8 a).wf =true->0<=a/\a<=255:=λa h=>by
  have c:IntKind.u8.min<=a/\a<=IntKind.u8.max:=by simpa[Lit.wf]using h
  exact c
 have d:∀a:Int,(Lit.int .i8 a).wf =true-> -128<=a/\a<=127:=λa h=>by
  have c:IntKind.i8.min<=a/\a<=IntKind.i8.max:=by simpa[Lit.wf]using h
  exact c
 have m:=b _ w1;have p:=b _ w2;have q:=b _ w3;have r:=b _ w4;have s:=b _ w7;obtain⟨g,rfl⟩:∃n:Nat,a1=n:=⟨a1.toNat,by omega⟩;obtain⟨i,rfl⟩:∃n:Nat,a2=n:=⟨a2.toNat,by omega⟩;obtain⟨j,rfl⟩:∃n:Nat,a3=n:=⟨a3.toNat,by omega⟩;obtain⟨k,rfl⟩:∃n:Nat,a4=n:=⟨a4.toNat,by omega⟩;obtain⟨l,rfl⟩:∃n:Nat,a7=n:=⟨a7.toNat,by omega⟩;exact qP1 a0 x0 g i j k a5 a6 x6 l w w0 (by omega) (by omega) (by omega) (by omega) w6.1 (λo f=>d o (w6.2 o f)) (by omega)
end Go.Proofs.YtabfaobakmjiaaaGreat

/- The program's table of the phases that fit, plain and in memory. The program's table: free, shifts; slices.Compare. The program's table: shifts. .. -/
import Derived.Test.YtabfaobakmjiaaaGreatPy16
import Derived.Deep.LoopGhost
namespace Go.Proofs.YtabfaobakmjiaaaGreat
set_option maxRecDepth 100000
set_option maxHeartbeats 1000000
open Go.RowKit
set_option linter.unusedVariables false
set_option linter.unusedSimpArgs false
def rowB (steps:Nat) (l:List Int):List Bool:=(List.range steps).map λ(k:Nat)=>memI l (k:Int)
def tabL (steps:Nat) (L:List (List Int)):List (List Bool):=L.map (rowB steps)
theorem qCJ (steps:Nat) (l:List Int):(rowB steps l).length =steps:=by unfold rowB;simp
theorem qCe (steps:Nat) (L:List (List Int)):(tabL steps L).length =L.length:=by unfold tabL;simp
theorem qEy {steps:Nat} {l:List Int} {k:Nat} (h:k<(rowB steps l).length):(rowB steps l)[k]=memI l (k:Int):=by simp[rowB]
theorem rowB_get? {steps:Nat} {l:List Int} {k:Nat} (h:k<steps):(rowB steps l)[k]? =some (memI l (k:Int)):=by rw[List.getElem?_eq_getElem (by rw[qCJ];exact h),qEy]
theorem qPk (steps:Nat):rowB steps []=List.replicate steps false:=by
 apply List.ext_getElem
 ·rw[qCJ];simp
 ·intro i b c;rw[qEy];simp[memI]
theorem qOb (l:List Int) (x k:Int):memI (l++[x]) k=(memI l k||decide (x=k)):=by unfold memI;simp
theorem qPl {steps:Nat} {l:List Int} {x:Nat} (h:x<steps):(rowB steps l).set x true=rowB steps (l++[(x:Int)]):=by
 apply List.ext_getElem
 ·rw[List.length_set,qCJ,qCJ]
 ·intro i b c;rw[qEy,List.getElem_set,qOb]
  by_cases e:x=i
  ·subst e;simp
  ·rw[if_neg e,qEy];simp;omega
theorem qKy {α:Type} {l:List α} {j:Nat} (h:j<l.length):l.take (j+1)=l.take j++[l[j]]:=by rw[List.take_succ_eq_append_getElem h]
theorem qOc {steps:Nat} {L:List (List Int)} {c:Nat} (h:c<L.length):tabL steps (L.take (c+1))=tabL steps (L.take c)++[rowB steps L[c]]:=by
 unfold tabL;rw[qKy h,List.map_append]
 rfl
abbrev qFS:Bool->Value:=Value.bool
def GridB (w:World) (v:Value) (L:List (List Bool)):Prop:=
 ∃A c,v= .slice A L.length c/\L.length<=c/\c<=maxLen/\(A=none->c=0)∧
  (0<L.length->∃b off,A=some ⟨b,off,none⟩/\b<w.heap.size/\∀j (h:j<L.length),∃vr,w.cell? ⟨b,off+j,none⟩=some vr/\Arr qFS w vr L[j])
theorem GridB.le {w W:World} {v:Value} {L:List (List Bool)} (h:GridB w v L) (hb:Below w.heap.size w W):GridB W v L:=by
 obtain⟨A,c,r,i,k,m,l⟩:=h;refine⟨A,c,r,i,k,m,λg=>?_⟩;obtain⟨b,off,n,d,o⟩:=l g;refine⟨b,off,n,Nat.lt_of_lt_of_le d hb.size,λj q=>?_⟩;obtain⟨t,f,s⟩:=o j q;exact⟨t,(Below.cell hb (p:=⟨b,_,none⟩) d).trans f,s.below hb⟩
theorem GridB.at {w:World} {v:Value} {L:List (List Bool)} (h:GridB w v L) {j:Nat} (hj:j<L.length):∃b off c vr,v= .slice (some ⟨b,off,none⟩) L.length c/\b<w.heap.size/\w.cell? ⟨b,off+j,none⟩=some vr/\Arr qFS w vr L[j]:=by
 obtain⟨A,c,rfl,l,m,n,g⟩:=h;obtain⟨b,off,rfl,d,i⟩:=g (by omega);obtain⟨vr,f,k⟩:=i j hj;exact⟨b,off,c,vr,rfl,d,f,k⟩
theorem GridB.slice {w:World} {v:Value} {L:List (List Bool)} (h:GridB w v L):∃A c,v= .slice A L.length c/\L.length<=maxLen:=by
 obtain⟨A,c,rfl,b,d,-⟩:=h;exact⟨A,c,rfl,by omega⟩
theorem Arr.cellB {w:World} {v:Value} {L:List Bool} (h:Arr qFS w v L) {j:Nat} (hj:j<L.length):∃b off c,v= .slice (some ⟨b,off,none⟩) L.length c/\w.cell? ⟨b,off+j,none⟩=some (.bool L[j]):=by
 obtain⟨A,c,rfl,i,k,l,d⟩:=h;obtain⟨b,off,rfl,g,f⟩:=d (by omega);exact⟨b,off,c,rfl,f j hj⟩
theorem qNW {first sum ph st:Int} (h:0<st):(first+sum - ph%st+st)%st=(sum - (ph - first))%st:=by
 rw[Int.add_emod_right,show first+sum - ph%st=(first+sum) - ph%st from rfl,Int.sub_emod_emod]
 congr 1
 omega
theorem qIq (m:List Int):qCZ [] m=false:=by unfold qCZ;rfl
theorem qNX {xs ys:List Int} {j:Nat} (hx:j<xs.length) (hy:j<ys.length):qCZ (xs.drop j) (ys.drop j)=if xs[j]=ys[j]then qCZ (xs.drop (j+1)) (ys.drop (j+1))else decide (xs[j]<ys[j]):=by
 rw[List.drop_eq_getElem_cons hx,List.drop_eq_getElem_cons hy]
 conv=>lhs;unfold qCZ
theorem qQw {steps j:Nat} {L:List (List Int)} (h:j<(tabL steps L).length) (hj:j<L.length):(tabL steps L)[j]=rowB steps L[j]:=by simp[tabL]
theorem qFn {x st:Nat} (h:x<st):((x:Int)%(st:Int))=(x:Int):=by rw[<-Int.natCast_emod,Nat.mod_eq_of_lt h]
theorem qNY (v:Value) (L:List (List Int)) (steps n r ph sum:Nat) (w:World) (hv:GridB w v (tabL steps L)) (hL:L.length<=1000) (hn:0<n) (hn2:n<=12) (hr:r<=12) (hs:0<steps) (hs2:steps<=96) (hp:ph<steps) (hsum:sum<steps):
  Calls Tryz.prog 125 #[.agg #[.int .i64 (steps:Int),v],.int .i64 (r:Int),.int .i64 (n:Int),.int .i64 (ph:Int),.int .i64 (sum:Int)] w λe w'=>e= .returned (.bool (qAq L steps n r (ph:Int) (sum:Int)))/\Below w.heap.size w w':=by
 obtain⟨A,c,rfl,G⟩:=hv.slice;rw[qCe]at hv G ⊢;unfold maxLen at G;obtain⟨C,ae,t,R⟩:=newb w (.cells #[.int .i64 (steps:Int),.slice A L.length c] 149);obtain⟨V,X⟩:=pc2 R;have D:Below C.heap.size C C:=Below.refl _ _;have H:=hv.le t;have⟨ag,F,S,E,I⟩:=hyd5 hv t R D H;clear H D R t hv;go_enter Tryz.func125,Tryz.ntmps125;go_wp2;go_loopw [1,3] (λU px wr=>∃j q:Nat,j<=L.length+12/\q<steps/\U= .int .i64 (j:Int)/\px= .int .i64 (q:Int)/\Hid (Below C.heap.size C wr)/\Hid (qAq L steps n r (ph:Int) (sum:Int)=qAq L steps n j (q:Int) (sum:Int))) (λU _ _=>L.length+13 - (intOf U).toNat)
 case atStart=>exact⟨r,ph,by omega,hp,rfl,rfl,E,Lib.hid rfl⟩
 case round=>
  obtain⟨j,q,hj,hq,rfl,rfl,g,o⟩:=hrel;have J:=blk g.out S.out;clear V X;obtain⟨V,X⟩:=pc2 J;have m:=qAA F.out g.out;have d:=qLo (L:=L) (steps:=steps) (all:=(sum:Int)) hn j (q:Int);rw[qFn hq]at d
  by_cases l:j<L.length
  ·rw[if_pos l]at d;have y:L.getD j []=L[j]:=by simp[l]
   rw[y]at d;obtain⟨b,off,c2,vr,Z,af,d0,i⟩:=(I.out.le g.out).at (j:=j) (by rw[qCe];exact l);rw[qCe]at Z;injection Z with e1 e2 e3;subst e1 e3;clear e2;rw[qQw _ l]at i;obtain⟨b2,ab,c3,rfl,Y⟩:=i.cellB (j:=q) (by rw[qCJ];exact hq);rw[qEy]at Y;rw[qCJ]at d0;obtain⟨B,M⟩:∃B,memI L[j] (q:Int)=B:=⟨_,rfl⟩;rw[M]at Y d;have j1:(j:Int)<(L.length:Int):=by omega
   have j2:(0:Int)<=(j:Int):=by omega
   have j3:(q:Int)<(steps:Int):=by omega
   have j4:(0:Int)<=(q:Int):=by omega
   obtain⟨x,O⟩:∃x:Nat,((q:Int)+(sum:Int))%(steps:Int)=(x:Int):=⟨(q+sum)%steps,by push_cast;rfl⟩;have Q:x<steps:=by have:=Int.emod_lt_of_pos ((q:Int)+(sum:Int)) (show(0:Int)<steps by omega);omega
   have s:qAq L steps n (j+n) ((q:Int)+(sum:Int)) (sum:Int)=qAq L steps n (j+n) (x:Int) (sum:Int):=qHs (by rw[<-O,Int.emod_emod]);have k2:¬(steps:Int)=0:=by omega
   have k3:0<=(q:Int)+(sum:Int):=by omega
   have⟨p,h,T,k,N,ad,f,P⟩:=hyd8 g o J m i M d O;have⟨z,aa⟩:=hyd2 s y;clear y s O d M i m J o g
   cases B with
   | false=>
    go_wp2;go_ret;exact⟨by rw[h.out.out,f.out];rfl,k.out⟩
   | true=>
    go_wp2;go_roundw
    case rel=>exact⟨j+n,x,by omega,Q,by go_num,by rw[P.out],p.out,Lib.hid (by rw[h.out.out,f.out,z.out];rfl)⟩
    case measure=>simp[intOf];omega
  ·rw[if_neg l]at d;have j1:¬(j:Int)<(L.length:Int):=by omega
   have⟨p,h,T,k,f⟩:=hyd5 g o J m d;clear d m J o g;go_wp2;go_ret;exact⟨by rw[h.out.out,f.out];rfl,k.out⟩
theorem qDz (x:Int) (w:World):Calls Tryz.prog 175 #[.int .i64 x] w λe w'=>e= .returned (.bool false)/\w=w':=by
 go_enter Tryz.func175,Tryz.ntmps175;go_wp2;go_ret;exact⟨by simp,rfl⟩
theorem qQx (x y:Int) (w:World):Calls Tryz.prog 126 #[.int .i64 x,.int .i64 y] w λe w'=>e= .returned (.int .i64 (if x<y then -1 else if y<x then 1 else 0))/\w=w':=by
 by_cases b:x<y
 ·go_enter Tryz.func126,Tryz.ntmps126;go_wp2_with (first | (go_at_call 175;((with_reducible refine(qDz _ _).mono ?_);rintro e w' ⟨rfl,rfl⟩))| (go_at_call 175;((with_reducible refine(qDz _ _).mono ?_);rintro e w' ⟨rfl,rfl⟩)));go_ret;exact⟨rfl,rfl⟩
 ·by_cases c:y<x
  ·go_enter Tryz.func126,Tryz.ntmps126;go_wp2_with (first | (go_at_call 175;((with_reducible refine(qDz _ _).mono ?_);rintro e w' ⟨rfl,rfl⟩))| (go_at_call 175;((with_reducible refine(qDz _ _).mono ?_);rintro e w' ⟨rfl,rfl⟩)));go_ret;exact⟨rfl,rfl⟩
  ·go_enter Tryz.func126,Tryz.ntmps126;go_wp2_with (first | (go_at_call 175;((with_reducible refine(qDz _ _).mono ?_);rintro e w' ⟨rfl,rfl⟩))| (go_at_call 175;((with_reducible refine(qDz _ _).mono ?_);rintro e w' ⟨rfl,rfl⟩)));go_ret;exact⟨rfl,rfl⟩
theorem qMF (va vb:Value) (xs ys:List Int) (w:World) (ha:Ints w va xs) (hb:Ints w vb ys) (hl:xs.length=ys.length):Calls Tryz.prog 71 #[va,vb] w λe w'=>∃c,e= .returned (.int .i64 c)/\decide (c<0)=qCZ xs ys/\w=w':=by
 obtain⟨A,c,rfl,ad,M,-,hr⟩:=id ha;obtain⟨B,d,rfl,ae,N,-,O⟩:=id hb;unfold maxLen at M N;clear hr O;have ab:xs.length<=ys.length:=by omega
 have ac:ys.length<=xs.length:=by omega
 have⟨J,L,aa⟩:=hyd3 ha hb hl;clear hl hb ha;go_enter Tryz.func71,Tryz.ntmps71;go_wp2;go_loopw [11] (λS wr=>∃j:Nat,j<=xs.length/\S= .int .i64 j/\w=wr/\Hid (qCZ xs ys=qCZ (xs.drop j) (ys.drop j))) (λS _=>xs.length - (intOf S).toNat)
 case atStart=>exact⟨0,Nat.zero_le _,rfl,rfl,Lib.hid rfl⟩
 case round=>
  obtain⟨j,hj,rfl,rfl,o⟩:=hrel
  by_cases D:j<xs.length
  ·obtain⟨b,off,U,v,V,-,-,g⟩:=Ints.cells J.out (by omega);injection v with e1 e2 e3;subst e1 e3;clear e2;obtain⟨b2,T,U,v,X,-,-,f⟩:=Ints.cells L.out (by omega);injection v with e1 e2 e3;subst e1 e3;clear e2;have Y:=g j D;have Z:=f j (by omega);have h:=qNX (xs:=xs) (ys:=ys) D (show j<ys.length by omega);obtain⟨x,E⟩:∃y,xs[j]=y:=⟨_,rfl⟩;obtain⟨y,G⟩:∃y,ys[j]'(by omega)=y:=⟨_,rfl⟩;rw[E]at Y h;rw[G]at Z h;have j1:(j:Int)<(xs.length:Int):=by omega
   have j2:(0:Int)<=(j:Int):=by omega
   have j3:(j:Int)<(ys.length:Int):=by omega
   have j4:¬(ys.length:Int)<=(j:Int):=by omega
   have k:=λW=>qQx x y W;obtain⟨z,s⟩:∃z:Int,(if x<y then(-1:Int)else if y<x then 1 else 0)=z:=⟨_,rfl⟩;rw[s]at k
   by_cases i:x=y
   ·obtain rfl:z=0:=by rw[<-s,if_neg (by omega),if_neg (by omega)]
    rw[if_pos i]at h;have⟨n,m,P,Q,r,l,R,F⟩:=hyd8 g f E G h k s i;have t:=hyd1 o;clear o i s k h G E f g;go_wp2_with (first | (go_at_call 126;((with_reducible refine(l.out _).mono ?_);rintro e w' ⟨rfl,rfl⟩)));go_roundw
    case rel=>exact⟨j+1,by omega,by go_num,trivial,Lib.hid (by rw[t.out.out,r.out])⟩
    case measure=>simp[intOf];omega
   ·have ag:¬z=0:=by rw[<-s];split;omega;split<;>omega
    have H:decide (z<0)=qCZ xs ys:=by
     rw[o.out,h,if_neg i,<-s]
     by_cases q:x<y
     ·rw[if_pos q];simp[q]
     ·rw[if_neg q,if_pos (by omega)];simp[q]
    have⟨n,m,P,Q,r,l,R,F⟩:=hyd8 g f E G h k s i;have⟨t,I⟩:=hyd2 o H;clear H o i s k h G E f g;go_wp2_with (first | (go_at_call 126;((with_reducible refine(l.out _).mono ?_);rintro e w' ⟨rfl,rfl⟩)));go_ret;exact⟨z,rfl,I.out,rfl⟩
  ·have p:decide ((0:Int)<0)=qCZ xs ys:=by
    rw[o.out,List.drop_of_length_le (show xs.length<=j by omega),qIq];rfl
   have j5:¬(xs.length:Int)<(ys.length:Int):=by omega
   have⟨t,C⟩:=hyd2 o p;clear p o;go_wp2;go_ret;exact⟨0,rfl,C.out,rfl⟩
theorem qNZ (w:World) {ops:Array Oper} {rest:List Oper} {o:Oper} {a:Act} {Q:Exit->Act->World->Prop}
  (hg:o.guard=none) (l c:Operand) (hop:o.op=Op.makeSlice 56 l c) (base n:Nat) (hl:a.eval l= .int .i64 0) (hc:a.eval c= .int .i64 (n:Int)) (hn:n<=1000000000) (b4:base<=w.heap.size)
  (hK:∀w',w'.ownsRow base 3 1 (.slice (some ⟨w.heap.size,0,none⟩) 0 n) 0 []->Below w.heap.size w w'->wpList Tryz.prog ops Q rest (a.put o.dst (.slice (some ⟨w.heap.size,0,none⟩) 0 n)) w'):
  wpList Tryz.prog ops Q (o::rest) a w:=by
 obtain⟨k,j,p⟩:=qB9;obtain⟨i,d,m,f,b⟩:=info_parts j;refine wpList_make_own w hg l c _ hop base _ i _ 1 k d m f .i64 .i64 (n:Int) n hl hc rfl (by rw[b];omega) (by unfold maxLen;omega) b4 ?_;intro w' g h;exact hK w' g ((Below.refl _ _).grown h (Nat.le_refl _) (by simp))
theorem qN0 {L:List (List Int)} {steps n r:Nat} {all:Int} {q:Int} {ph s:Nat} (h:(ph:Int)=q%(steps:Int)):qAq L steps n r (((ph+s)%steps:Nat):Int) all=qAq L steps n r (q+(s:Int)) all:=
 qHs (by rw[Int.natCast_emod,Int.emod_emod,Int.natCast_add,h,Int.emod_add_emod])
def ShI (L:List (List Int)) (steps n:Nat) (first all:Int) (W0:World) (r ph:Nat) (vo:Value) (W:World):Prop:=
 Below W0.heap.size W0 W/\∃q out,(ph:Int)=q%(steps:Int)/\qCF L steps n all (n - 1) 1 first []=qCF L steps n all (n - r) r q out/\W.ownsRow W0.heap.size 3 1 vo out.length (out.map vint)/\out.length+1=r/\vo.ownBlock≠none
theorem qKz (v:Value) (L:List (List Int)) (steps n first sum:Nat) (w:World) (hv:GridB w v (tabL steps L)) (hL:L.length<=1000) (hn:0<n) (hn2:n<=12) (hs:0<steps) (hs2:steps<=96) (hf:first<steps) (hsum:sum<steps):
  Calls Tryz.prog 70 #[.agg #[.int .i64 (steps:Int),v],.int .i64 (n:Int),.int .i64 (first:Int),.int .i64 (sum:Int)] w λe w'=>∃v' b,e= .returned (.tuple #[v',.bool b])/\b=(qBb L steps n (first:Int) (sum:Int)).isSome /\Below w.heap.size w w'/\(b=true->Ints w' v' ((qBb L steps n (first:Int) (sum:Int)).getD [])/\∃g l c,v'= .slice (some ⟨g,0,none⟩) l c/\w.heap.size<=g):=by
 obtain⟨A,c,rfl,aE⟩:=hv.slice;rw[qCe]at hv aE ⊢;unfold maxLen at aE;have a1:=hv;obtain⟨i,bf,aq,k0⟩:=newb w (.cells #[.int .i64 (steps:Int),.slice A L.length c] 149);obtain⟨c0,c1⟩:=pc2 k0;have a0:=a1.le aq;have z0:w.heap.size<i.heap.size:=gsl k0;have aS:=λ(W:World) (r D:Nat) (hr:r<=12) (aI:D<steps) (h:Below i.heap.size i W)=>qNY _ L steps n r D sum W (a0.le h) hL hn hn2 hr hs hs2 aI hsum;have⟨bJ,bx,af,aP,bw,am⟩:=hyd6 hv a1 aq k0 a0 aS;clear aS a0 k0 aq a1 hv;go_enter Tryz.func70,Tryz.ntmps70;go_wp2_with (fail)
 go_step3
 go_wp2_with (first | (at_make;go_must (refine qNZ _ rfl _ _ rfl i.heap.size n rfl rfl (by omega) (Nat.le_refl _) ?_))|fail);intro w1 ay ar;have a5:ShI L steps n (first:Int) (sum:Int) i 1 first (.slice (some ⟨i.heap.size,0,none⟩) 0 n) w1:=⟨ar,(first:Int),[],(qFn hf).symm,rfl,ay,rfl,by simp[Value.ownBlock]⟩;clear c0 c1 bf;have⟨a6,bv,br⟩:=hyd3 a5 ay ar;clear ar ay a5;go_wp2_with (fail)
 go_step3
 go_wp2_with (fail)
 go_loopg [12,11,10] (n - 1) (λg rx px vo wr=>∃r D:Nat,r+g=n/\1<=r/\r<=n/\D<steps/\rx= .int .i64 (r:Int)/\px= .int .i64 (D:Int)/\Hid (ShI L steps n (first:Int) (sum:Int) i r D vo wr))
 case atStart=>exact⟨1,first,by omega,by omega,by omega,hf,rfl,rfl,a6⟩
 case round=>
  obtain⟨r,D,bE,bD,bF,aI,rfl,rfl,hI⟩:=hrel;obtain⟨S,q,k,hq,T,z,aD,Z⟩:=hI.out;obtain⟨gO,cO,rfl,b6,b7,b8,b9⟩:=qJR z Z;have bA:k.length+1<=r:=by omega
  have bB:r<=k.length+1:=by omega
  clear aD;have kw:=blk S aP.out;obtain⟨c0,c1⟩:=pc2 kw
  by_cases bC:r<n
  ·have j1:(r:Int)<(n:Int):=by omega
   have⟨be,ah,az,U,f,aV,aH⟩:=hyd7 hI S hq T z kw Z;clear Z kw z T hq S hI;go_wp2_with (fail);rename World=>wo
   go_loopg [25,11,10] steps (λg sx px vo wr=>∃s:Nat,s+g=steps/\s<=steps/\sx= .int .i64 (s:Int)/\px= .int .i64 (D:Int)/\vo= .slice (some ⟨gO,0,none⟩) k.length cO/\Hid (Below wo.heap.size wo wr)/\Hid (∀t,t<s->qAq L steps n r (q+(t:Int)) (sum:Int)=false))
   case atStart=>exact⟨0,by omega,Nat.zero_le _,rfl,rfl,rfl,Lib.hid (Below.refl _ _),Lib.hid λt h=>absurd h (Nat.not_lt_zero t)⟩
   case round=>
    obtain⟨s,bG,bH,rfl,rfl,rfl,E,X⟩:=hrel;have J:=ah.out.trans (E.out.mono ah.out.size);have kv:=blk E.out aV.out;have m:=qAK f.out E.out;clear c0 c1;obtain⟨c0,c1⟩:=pc2 kv
    by_cases bh:s<steps
    ·have k1:(s:Int)<(steps:Int):=by omega
     obtain⟨x,hx⟩:∃x:Nat,(D+s)%steps=x:=⟨_,rfl⟩;have aN:x<steps:=by rw[<-hx];exact Nat.mod_lt _ hs
     have a2:((D:Int)+(s:Int))%(steps:Int)=(x:Int):=by rw[<-hx];push_cast;rfl
     have ab:=am.out wr r x (by omega) aN J;have V:qAq L steps n r (x:Int) (sum:Int)=qAq L steps n r (q+(s:Int)) (sum:Int):=by rw[<-hx];exact qN0 az.out
     rw[V]at ab;obtain⟨B,hB⟩:∃B,qAq L steps n r (q+(s:Int)) (sum:Int)=B:=⟨_,rfl⟩;rw[hB]at ab;have k2:¬(steps:Int)=0:=by omega
     have k3:0<=(D:Int)+(s:Int):=by omega
     rw[<-a2]at ab;have⟨Y,ag,I,N,al,bi,ap,bm⟩:=hyd8 X E m J ab V hB kv;have⟨bK,ak⟩:=hyd2 hx a2;clear a2 hx kv hB V ab J m E X
     cases B with
     | false=>
      go_wp2_with (fail);go_at_call 125;refine al.out.mono ?_;rintro e w5 ⟨rfl,p⟩;have aB:=qAA ag.out.out p
      have aF:∀t,t<s+1->qAq L steps n r (q+(t:Int)) (sum:Int)=false:=λt ht=>by
       by_cases e:t=s
       ·subst e;exact ap.out
       ·exact Y.out.out t (by omega)
      have⟨aA,aC,aG⟩:=hyd3 p aB aF;clear aF aB p;go_wp2
      go_roundg (steps - (s+1))
      case rel=>exact⟨s+1,by omega,by omega,by go_num,rfl,rfl,aC,aG⟩
      case measure=>omega
     | true=>
      have G:=qKi bh ap.out Y.out.out
      have aj:qCF L steps n (sum:Int) (n - 1) 1 (first:Int) []=qCF L steps n (sum:Int) (n - (r+1)) (r+1) (q+(s:Int)) (k++[(s:Int)]):=by
       rw[U.out,show n - r=(n - (r+1))+1 by omega]
       conv=>lhs;unfold qCF
       rw[G]
      have aJ:(x:Int)=(q+(s:Int))%(steps:Int):=by rw[<-ak.out,az.out,Int.emod_add_emod]
      have⟨ba,ax,aK⟩:=hyd3 G aj aJ;clear aJ aj G;go_wp2_with (fail);go_at_call 125;refine al.out.mono ?_;rintro e w5 ⟨rfl,p⟩;have O:=N.out.trans (p.mono N.out.size);have aa:=qAK I.out p;have aL:=O.size;have⟨aA,av,ad⟩:=hyd3 p O aa;clear aa O p;go_wp2_with (first | (at_builtin;go_must (refine qCb rfl _ _ 56 rfl i.heap.size 3 qB9 _ k rfl (ad.out.alloc _) _ [(s:Int)] rfl (qDU _ _ _) (by simp;omega) (by simp;omega) ?_)));intro v3 w3 M h2 h3 h4;have au:Below i.heap.size i w3:=(av.out.alloc aL _).trans h2;have y:v3.ownBlock≠none:=λe=>h4 e;have a7:ShI L steps n (first:Int) (sum:Int) i (r+1) x v3 w3:=⟨au,q+(s:Int),k++[(s:Int)],aK.out,ax.out,by simpa using M,by simp;omega,y⟩;have⟨an,b4,b5,ao,bs,bj,a8⟩:=hyd7 M h2 h3 h4 au y a7;clear a7 y au h4 h3 h2 M;go_wp2
      go_roundg (n - (r+1))
      case rel=>exact⟨r+1,x,by omega,by omega,by omega,aN,by go_num,by rw[ak.out],a8⟩
      case measure=>omega
    ·obtain rfl:s=steps:=by omega
     have F:=qKj X.out
     have C:qBb L s n (first:Int) (sum:Int)=none:=by
      unfold qBb
      split
      ·rw[U.out,show n - r=(n - (r+1))+1 by omega]
       conv=>lhs;unfold qCF
       rw[F]
      ·rfl
     have P:=qAA af.out J;have⟨Y,ag,I,N,aZ,o,bm,Q⟩:=hyd8 X E m J F C kv P;clear P kv C F J m E X;go_wp2
     try rw[Exit.noGoto_ret]
     go_ret2;exact⟨_,_,rfl,by rw[o.out];rfl,Q.out,λe=>by cases e⟩
  ·obtain rfl:r=n:=by omega
   obtain⟨B,hB⟩:∃B,qAq L steps r 0 (first:Int) (sum:Int)=B:=⟨_,rfl⟩
   have aQ:∀W,Below i.heap.size i W->Calls Tryz.prog 125 #[.agg #[.int .i64 (steps:Int),.slice A L.length c],.int .i64 0,.int .i64 (r:Int),.int .i64 (first:Int),.int .i64 (sum:Int)] W λe w'=>e= .returned (.bool B)/\Below W.heap.size W w':=λW h=>by
    have h:=am.out W 0 first (by omega) hf h;rw[hB]at h;exact h
   have C:qBb L steps r (first:Int) (sum:Int)=if B=true then some (k++[((sum:Int) - (q - (first:Int)))%(steps:Int)])else none:=by
    unfold qBb;rw[hB,T,Nat.sub_self]
    rfl
   have hy:((first:Int)+(sum:Int) - (D:Int))%(steps:Int)=((sum:Int) - (q - (first:Int)))%(steps:Int):=by
    rw[<-qNW (by omega),hq,Int.add_emod_right]
   have hS:∀W,Below i.heap.size i W->W.cell? ⟨w.heap.size,0,none⟩=some (.int .i64 (steps:Int))/\W.cell? ⟨w.heap.size,1,none⟩=some (.slice A L.length c):=λW h=>pc2 (blk h aP.out);have R:Below i.heap.size i wr.drew:=S.drew;have bI:=S.size;have k2:¬(steps:Int)=0:=by omega
   have k3:0<=(first:Int)+(sum:Int) - (D:Int)+(steps:Int):=by omega
   have i9:¬steps=0:=by omega
   have bL:(0:Int)<(steps:Int):=by omega
   have⟨be,U,f,aV,aH,aR,o,bk⟩:=hyd8 hI T z kw Z aQ C hy;have⟨a9,ap,az⟩:=hyd3 hS hB hq;clear hq hB hS hy C aQ Z kw z T hI;go_wp2_with (fail)
   go_region_held3 (λw'=>w'.cell? ⟨w.heap.size,0,none⟩=some (.int .i64 (steps:Int))/\w'.cell? ⟨w.heap.size,1,none⟩=some (.slice A L.length c)) (go_keep) (first | (go_at_call 125;with_reducible refine(aR.out _ (by first |exact R|exact R.alloc (by simp;omega) _|exact H)).mono ?_;rintro e w9 ⟨rfl,j⟩;have d:Below i.heap.size i w9:=(by first |exact R.trans (j.mono (by simp;omega))|exact(R.alloc (by simp;omega) _).trans (j.mono (by simp;omega))|exact H.trans (j.mono H.size));obtain⟨t1,t2⟩:=a9.out _ d)| (refine qOF rfl (.tmp 46) (.tmp 58) 56 (by rfl) i.heap.size 3 qB9 _ k (by rfl) (by first |exact f.out.alloc _|exact(qAK f.out j).alloc _|exact qAK (f.out.alloc _) j) (.slice (some ⟨_,0,none⟩) 1 1) [_] (by rfl) (by first |exact qKX _ _ _|exact qDU _ _ _|exact Arr.below (qKX _ _ _) j|exact Arr.below (qDU _ _ _) j) (by simp;omega) (by first | (simp;omega)|exact Nat.le_trans d.size (by simp)|exact d.size) ?_;intro v3 w3 M h2 h3 h4;have H:Below i.heap.size i w3:=(by first |exact(R.alloc (by simp;omega) _).trans h2|exact(d.alloc d.size _).trans h2);obtain⟨s1,s2⟩:=a9.out _ H;have an:=Lib.hid M;have ao:=Lib.hid h4;clear M h3 h4))
   all_goals
    have aO:(IntKind.i64.wrap (IntKind.i64.wrap (IntKind.i64.wrap ((first:Int)+(sum:Int)) - (D:Int))+(steps:Int))).tmod (steps:Int)=((sum:Int) - (q - (first:Int)))%(steps:Int):=by
     rw[IntWalk.i64_in ((first:Int)+(sum:Int)) (by omega),IntWalk.i64_in ((first:Int)+(sum:Int) - (D:Int)) (by omega),IntWalk.i64_in ((first:Int)+(sum:Int) - (D:Int)+(steps:Int)) (by omega),Int.tmod_eq_emod_of_nonneg (by omega),Int.add_emod_right];exact bk.out
    have M:=an.out;have h4:=ao.out;rw[aO]at M;have y:v3.ownBlock≠none:=λe=>by have:=(h4.1 e).2;cases this
    obtain⟨g3,c3,rfl,bu,-,-,-⟩:=qJR M y;have ai:Ints w9 (.slice (some ⟨g3,0,none⟩) (k++[((sum:Int) - (q - (first:Int)))%(steps:Int)]).length c3) (k++[((sum:Int) - (q - (first:Int)))%(steps:Int)]):=(qFf M).below j;have P:=qAA af.out d;have bl:w.heap.size<=g3:=by omega
    clear aO h4 M an ao;have⟨aw,Q,bt,bg⟩:=hyd4 ai P j d;clear d j P ai;go_wp2
    try rw[Exit.noGoto_ret]
    go_ret2;exact⟨_,B,rfl,by rw[o.out];cases B<;>rfl,Q.out,λe=>⟨by rw[o.out,if_pos e];exact aw.out,_,_,_,rfl,bl⟩⟩

theorem qLA (v:Value) (f:List Int) (s:Nat) (w:World) (hv:Ints w v f) (hok:qAY f=true) (hs:s<f.length):
  Calls Tryz.prog 72 #[v,.int .i64 s] w λe w'=>∃v',e= .returned (.tuple #[v',.int .i64 0])/\Below w.heap.size w w'/\w'.ownsRow w.heap.size 3 1 v' f.length ((qB4 f (s:Int)).map vint):=by
 obtain⟨p,q,-⟩:=rosOk_iff.1 hok;have k:=qB3 v f w hv true hok;have g:=qOJ v f s w hv (by omega) (by omega) (by omega);rw[qEp,qMy f s (by omega)]at g
 have j:∀W,Calls Tryz.prog 128 #[.int .i64 s,.int .i64 f.length] W λe w'=>e= .returned (.int .i64 (s:Int))/\W=w':=λW=>by
  have h:=qEZ s f.length W (by omega) (by omega) (by unfold Mid;omega)
  rwa[qFn hs]at h
 obtain⟨A,c,rfl,-⟩:=id hv;have⟨d,i,o,l,b⟩:=hyd5 k g hv hok j;clear j hok hv g k;go_enter Tryz.func72,Tryz.ntmps72;go_wp2_with (first | (go_at_call 50;((with_reducible refine(d.out).mono ?_);rintro e w' ⟨rfl,rfl⟩))| (go_at_call 128;((with_reducible refine(b.out _).mono ?_);rintro e w' ⟨rfl,rfl⟩))| (go_at_call 127;((with_reducible refine(i.out).mono ?_);rintro e w' ⟨r,rfl,m,n⟩)));go_ret2;exact⟨_,rfl,m,n⟩
theorem Arr.rowB {W W':World} {r v:Value} {xs:List Bool} {base e size m:Nat} {ys:List Value} (h:Arr qFS W v xs) (ho:W.ownsRow base e size r m ys) (hall:RowAll IsSl W r) (hg:W.grownBy W' r.ownBlock):Arr qFS W' v xs:=by
 obtain⟨A,c,C,o,p,x,q⟩:=h;refine⟨A,c,C,o,p,x,λk=>?_⟩;obtain⟨b,off,y,f,n⟩:=q k
 have i:some b≠r.ownBlock:=λe=>by
  rcases ho.2 with⟨rfl,-⟩| ⟨g,cap,cur,rfl,hbg,hgb,-⟩
  ·cases e
  ·have d:b=g:=by simpa[Value.ownBlock]using e
   subst d;have l:=n 0 k;simp only[World.cell?,hgb]at l
   have B:Value.bool xs[0]∈cur.toList:=by
    have s:cur[off+0]? =some (Value.bool xs[0]):=by simpa using l
    have t:cur.toList[off+0]? =some (Value.bool xs[0]):=by simpa using s
    exact List.mem_of_getElem? t
   obtain⟨_,_,_,D⟩:=hall b cur _ rfl hgb _ B
   cases D
 exact⟨b,off,y,Nat.lt_of_lt_of_le f hg.size,λj z=>(World.cell?_of_block (hg.block b f i)).trans (n j z)⟩
def GrB (W:World) (base:Nat) (vo:Value) (L:List (List Bool)):Prop:=∃vs:List Value,vs.length=L.length/\W.ownsRow base 137 1 vo L.length vs/\RowAll IsSl W vo/\∀i (h1:i<vs.length) (h2:i<L.length),Arr qFS W vs[i] L[i]
theorem GrB.nil (W:World) (base:Nat):GrB W base (.slice none 0 0) []:=⟨[],rfl,World.ownsRow_nil _ _ _ _,RowAll.nil _ _,λi h=>absurd h (Nat.not_lt_zero i)⟩
theorem GrB.le {W W':World} {base:Nat} {vo:Value} {L:List (List Bool)} (h:GrB W base vo L) (hb:Below W.heap.size W W'):GrB W' base vo L:=by
 obtain⟨l,d,c,f,j⟩:=h;exact⟨l,d,qAK c hb,f.same λg k=>hb.block g (c.lt g k).2,λi a b=>(j i a b).below hb⟩
theorem GrB.form {W:World} {base:Nat} {vo:Value} {L:List (List Bool)} (h:GrB W base vo L):∃A c,vo= .slice A L.length c:=by
 obtain⟨f,d,b,-⟩:=h
 rcases b.2 with⟨rfl,e⟩| ⟨g,cap,cur,rfl,_⟩
 ·exact⟨none,0,by rw[e]⟩
 ·exact⟨_,cap,rfl⟩
theorem GrB.grid {W:World} {base:Nat} {vo:Value} {L:List (List Bool)} (h:GrB W base vo L):GridB W vo L:=by
 obtain⟨k,l,b,m,d⟩:=h;have c:=b
 rcases b.2 with⟨rfl,hx⟩| ⟨g,cap,cur,rfl,hbg,hg,hnc,hcm,hcs,htake⟩
 ·have i:L=[]:=List.eq_nil_of_length_eq_zero hx;subst i;exact⟨none,0,rfl,Nat.le_refl _,Nat.zero_le _,λ_=>rfl,λh=>absurd h (Nat.lt_irrefl 0)⟩
 ·refine⟨some ⟨g,0,none⟩,cap,rfl,hnc,hcm,λh=>(by cases h),λ_=>⟨g,0,rfl,(gsl hg),λj f=>⟨k[j]'(by omega),?_,d j (by omega) f⟩⟩⟩;rw[Nat.zero_add,c.cellAt j (by omega)];exact List.getElem?_eq_getElem (by omega)
theorem GrB.put {W:World} {base:Nat} {vo:Value} {L:List (List Bool)} (h:GrB W base vo L) {X k:Nat} {cs:Array Value} {t:TypeId} (hX:W.heap[X]? =some (.cells cs t)) (hlt:X<base) (ht:137≠t) (hne:∀c∈cs.toList,∀b,c≠ .bool b) (u:Value):GrB (W.setCell ⟨X,k,none⟩ u) base vo L:=by
 obtain⟨G,p,m,q,r⟩:=h;refine⟨G,p,qCA m hlt u,q.same λg z=>(Below.heap_setCell W ⟨X,k,none⟩ u g (by have:=(m.lt g z).1;show g≠X;omega)),λi a b=>?_⟩;obtain⟨A,c,D,E,q2,x,F⟩:=r i a b;refine⟨A,c,D,E,q2,x,λl=>?_⟩;obtain⟨f,off,y,C,o⟩:=F l
 have d:f≠X:=by
  rintro rfl;have n:=o 0 l;simp only[World.cell?,hX]at n;have s:cs[off+0]? =some (Value.bool (L[i])[0]):=by simpa using n
  have v:cs.toList[off+0]? =some (Value.bool (L[i])[0]):=by simpa using s
  exact hne _ (List.mem_of_getElem? v) _ rfl
 exact⟨f,off,y,by simpa[World.setCell]using C,λj B=>(qOG d W k (off+j) u).trans (o j B)⟩
theorem qPm:(Tryz.prog.info? 137).map (λi=>(i.zero,i.size,i.bytes))=some (some (.slice none 0 0),1,24):=by kernel_rfl
theorem qRh:qBR Tryz.prog 137 4 (.bool false) 1:=⟨Tryz.underlying137,by kernel_rfl,rfl⟩
theorem qLB (w:World) {ops:Array Oper} {rest:List Oper} {o:Oper} {a:Act} {Q:Exit->Act->World->Prop} (hgd:o.guard=none) (s x:Operand)
  (ho:o.op= .call {callee:= .builtin .append,args:=#[s,x],argTypes:=#[147,147]})
  (base:Nat) (v:Value) (L:List (List Bool)) (hs:a.eval s=v) (hown:GrB w base v L)
  (B:Nat) (A:Option Addr) (n c:Nat) (y:List Bool) (hx:a.eval x= .slice (some ⟨B,0,none⟩) 1 1) (hc0:w.cell? ⟨B,0,none⟩=some (.slice A n c)) (hy:Arr qFS w (.slice A n c) y) (hlen:L.length<=1000000) (hbase:base<=w.heap.size)
  (h:∀v' w',GrB w' base v' (L++[y])->(∀n,n<=base->Below n w w')->wpList Tryz.prog ops Q rest (a.put o.dst v') w'):wpList Tryz.prog ops Q (o::rest) a w:=by
 obtain⟨N,r,t,z,C⟩:=info_parts qPm;obtain⟨d,D,l,p,J⟩:=hown;refine qGS IsSl w hgd s x 147 ho base 137 N _ 1 24 Tryz.underlying147 r t z C rfl (by decide) v L.length d hs l ⟨B,0,none⟩ 1 1 [.slice A n c] hx rfl (λj u f=>?_) (λu f=>?_) (by unfold maxLen;omega) (by omega) hbase (by decide) (λu f=>?_) (λj M=>?_) p ?_
 ·have M:j<1:=(List.getElem?_eq_some_iff.1 f).1
  obtain rfl:j=0:=by omega
  have g:(⟨B,0,none⟩:Addr).add 0=⟨B,0,none⟩:=by unfold Addr.add;split<;>simp_all
  rw[g,hc0];simpa using f
 ·obtain rfl:u=_:=by simpa using f
  rfl
 ·obtain rfl:u=_:=by simpa using f
  exact⟨_,_,_,rfl⟩
 ·obtain rfl:j=0:=by omega
  exact⟨none,0,0,rfl⟩
 ·intro v' w' H m O I P;refine h v' w' ⟨d++[.slice A n c],by simp[D],by rw[show(L++[y]).length =L.length+1 by simp];exact H,I,λi a b=>?_⟩ (λn R=>Below.grown (Below.refl n w) m (by omega) (λk e=>by have:=(l.lt k e).1;omega))
  by_cases E:i<d.length
  ·rw[List.getElem_append_left E,List.getElem_append_left (by omega)];exact(J i E (by omega)).rowB l p m
  ·have q:i=d.length:=by simp at a;omega
   subst q;have F:(d++[Value.slice A n c])[d.length]'a= .slice A n c:=by simp
   have G:(L++[y])[d.length]'b=y:=by rw[List.getElem_append_right (by omega)];simp[D]
   rw[F,G];exact hy.rowB l p m
theorem qMG (s a b:Int):qAE s (max a 0) (min b 10000)=(qAE s a b&&qAE s 0 10000):=by
 rw[Bool.eq_iff_iff,Bool.and_eq_true,within_iff,within_iff,within_iff];omega
theorem qN1 (v:Value) (p:Pic) (f:Fnd) (start:Int) (w:World) (hp:IsPic w v p) (hf:p.Fit) (hff:f.Fit) (hs:qA6 start):
  Calls Tryz.prog 13 #[v,fndV f,.int .i64 start] w λe w'=>∃v',e= .returned (.tuple #[v',.int .i64 (qBM p f start)])/\Below w.heap.size w w'/\GridL w' v' (qCx p f start):=by
 have cv:=hp;obtain⟨vh,vr,rfl,hh,hr⟩:=hp;obtain⟨HA,hc,rfl,ex⟩:=hh.slice;obtain⟨RA,rc,rfl,eB⟩:=hr.slice;unfold maxLen at ex eB;obtain⟨fh,d,o,Y,X⟩:=f;obtain⟨f1,f2,f3,f4,f5⟩:=hff;dsimp only at f1 f2 f3 f4 f5;show Calls Tryz.prog 13 #[_,.agg #[.int .i64 fh,.int .i64 d,.int .i64 o,.int .i64 Y,.int .i64 X],_] w _;obtain⟨W0,dk,cg,k0⟩:=newb w (.cells #[.slice HA p.hs.length hc,.int .i64 p.tl,.int .i64 p.th,.int .i64 p.al,.int .i64 p.ah,.slice RA p.rds.length rc] 51);obtain⟨W1,er,b4,k1⟩:=newb W0 (.cells #[.int .i64 fh,.int .i64 d,.int .i64 o,.int .i64 Y,.int .i64 X] 54);have c6:=blk b4 k0;have aU:=qAA cg b4;obtain⟨c0,c1,c2,c3,c4,c5⟩:=pc6 c6;have z0:w.heap.size<W0.heap.size:=by rw[<-dk];simp
 have c8:=qFZ _ p W1 (cv.le aU) hf;obtain⟨E,hE⟩:∃E,picE p=E:=⟨_,rfl⟩;rw[hE]at c8;have cY:E=if picB p then 0 else 90:=by rw[<-hE];rfl
 have⟨bR,ge,gh,gd,fd,fe,gr,eJ⟩:=hyd8 cv hh hr hf cg b4 k0 k1;have⟨dG,co,dP,fT,bK⟩:=hyd5 c6 aU c8 hE cY;clear cY hE c8 aU c6 k1 k0 b4 cg hf hr hh cv;go_enter Tryz.func13,Tryz.ntmps13;go_wp2_with (fail);clear dk er;go_at_call 24;refine dP.out.mono ?_;rintro e W2 ⟨rfl,au⟩;have a8:=qAA co.out au;have bm:=blk au dG.out;have bo:=blk au eJ.out;clear c0 c1 c2 c3 c4 c5;obtain⟨c0,c1,c2,c3,c4,c5⟩:=pc6 bm;obtain⟨d0,d1,d2,d3,d4⟩:=pc5 bo
 cases hB:picB p with
 | false=>
  have cb:E=90:=by rw[bK.out,hB];rfl
  have be:qBM p ⟨fh,d,o,Y,X⟩ start=90:=by unfold qBM;rw[hB];rfl
  have hv:=qFm (show qBM p ⟨fh,d,o,Y,X⟩ start≠0 by rw[be];decide);subst cb;have⟨dl,C,bT,bU,bu,cw,eD⟩:=hyd7 au a8 bm bo hB be hv;clear hv be hB bo bm a8 au;go_wp2;exact bodyPost_ret (v:= .tuple #[.slice none 0 0,.int .i64 90]) (by simp[results,Tryz.results13,go_sem]) rfl ⟨_,by rw[cw.out],C.out,by rw[eD.out];exact GridL.nil _⟩
 | true=>
  have cb:E=0:=by rw[bK.out,hB];rfl
  subst cb;have cu:=picB_iff.1 hB;have aS:argB p ⟨fh,d,o,Y,X⟩ start=false->qBM p ⟨fh,d,o,Y,X⟩ start=2:=λh=>by unfold qBM;rw[hB,h];rfl
  have aT:argB p ⟨fh,d,o,Y,X⟩ start=false->qCx p ⟨fh,d,o,Y,X⟩ start=[]:=λh=>qFm (by rw[aS h];decide);have w1:=λW=>qAv fh 0 ((p.hs.length:Int) - 1) W;have w2:=λW=>qAv d p.tl p.th W;have w3:=λW=>qAv o p.al p.ah W;have w4:=λW=>qAv start (max Y 0) (min X 10000) W;have ag:=qM6 p ⟨fh,d,o,Y,X⟩ start;dsimp only at ag;rw[<-qMG]at ag;obtain⟨B1,bv⟩:∃B,qAE fh 0 ((p.hs.length:Int) - 1)=B:=⟨_,rfl⟩;obtain⟨B2,bw⟩:∃B,qAE d p.tl p.th=B:=⟨_,rfl⟩;obtain⟨B3,bx⟩:∃B,qAE o p.al p.ah=B:=⟨_,rfl⟩;obtain⟨B4,bz⟩:∃B,qAE start (max Y 0) (min X 10000)=B:=⟨_,rfl⟩;rw[bz]at w4;rw[bv]at w1;rw[bw]at w2;rw[bx]at w3;rw[bv,bw,bx,bz]at ag;have ey:(1:Int)<=(p.hs.length:Int):=by have:=cu.heads.1;omega
  have⟨dl,C,bT,bU,bu,I,cn,b6⟩:=hyd8 au a8 bm bo hB cu aS aT;have⟨aP,cS,cT,cU,cV,br,bH,cC⟩:=hyd8 ag bv bw bx bz w1 w2 w3;have dV:=hyd1 w4;clear w4 w3 w2 w1 bz bx bw bv ag aT aS cu hB bo bm a8 au
  by_cases af:(B1&&(B2&&(B3&&B4)))=true
  ·simp only[Bool.and_eq_true]at af;obtain⟨rfl,rfl,rfl,rfl⟩:=af;have aQ:argB p ⟨fh,d,o,Y,X⟩ start=true:=aP.out;obtain⟨r1,r2⟩:0<=fh/\fh<=(p.hs.length:Int) - 1:=within_iff.1 cS.out;obtain⟨r3,r4⟩:p.tl<=d/\d<=p.th:=within_iff.1 cT.out;obtain⟨r5,r6⟩:p.al<=o/\o<=p.ah:=within_iff.1 cU.out
   obtain⟨r7,r8⟩:0<=start/\start<=10000:=by have h:=within_iff.1 cV.out;omega
   obtain⟨m,rfl⟩:∃m:Nat,fh=(m:Int):=⟨fh.toNat,by omega⟩;have hm:m<p.hs.length:=by omega
   have gm:=I.out.tl;have gl:=I.out.th;have fX:=I.out.al;have fW:=I.out.ah;have gk:=I.out.steps;have aJ:=I.out.head _ (List.getElem_mem hm);have dA:∀r∈p.rds,RdOk p.steps r:=λr h=>I.out.rd r h;obtain⟨lift,T⟩:∃l,qCX p.hs[m].ros p.hs[m].rub =l:=⟨_,rfl⟩;have ct:p.lift m=lift:=by unfold Pic.lift;rw[List.getD_eq_getElem?_getD,List.getElem?_eq_getElem hm];exact T
   have dw:lift.length=p.steps:=by rw[<-T,qBD];exact aJ.1
   have bg:qAo p.hs[m].rub p.hs[m].ros.length =true:=by rw[aJ.1];exact aJ.2.2
   have dx:qAY lift=true:=by rw[<-T];exact qIg aJ.2.1 bg
   have cA:=qGH _ p m d W2 (bR.out.le C.out) I.out.toM hm ⟨by omega,by omega⟩;rw[ct]at cA;have dy:((m:Int)).toNat =m:=Int.toNat_natCast m;have⟨aa,fn,dB,eb,a9,bP,eC,fr⟩:=hyd8 aQ aJ dA T ct dw bg dx;have⟨dS,fu⟩:=hyd2 cA dy;clear dy cA dx bg dw ct T dA aJ aQ;go_wp2_with (first | (go_at_call 28;((with_reducible refine(br.out _).mono ?_);rintro e w' ⟨rfl,rfl⟩))| (go_at_call 28;((with_reducible refine(bH.out _).mono ?_);rintro e w' ⟨rfl,rfl⟩))| (go_at_call 28;((with_reducible refine(cC.out _).mono ?_);rintro e w' ⟨rfl,rfl⟩))| (go_at_call 28;((with_reducible refine(dV.out _).mono ?_);rintro e w' ⟨rfl,rfl⟩)));go_at_call 44;refine dS.out.mono ?_;rintro e W3 ⟨B,n,D,bl,Z,rfl,cj,fv,ca,-⟩;obtain⟨V,fV,b5,k4⟩:=newb W3 (.cells #[.int .i64 (m:Int),.int .i64 d,.map (some B)] 108);have bI:=ca.le b5;have ai:=qAA cj b5;have bO:=qAA C.out ai;have dH:=blk ai bT.out;have dM:=blk ai bU.out;clear c0 c1 c2 c3 c4 c5 d0 d1 d2 d3 d4;obtain⟨b0,b1,b2⟩:=pc3 k4;have bM:Below V.heap.size V V:=Below.refl _ _;have⟨ff,fb,fg,eL,P,es,cp,dI⟩:=hyd8 cj ca b5 k4 bI ai bO dH;have⟨dN,et⟩:=hyd2 dM bM;clear bM dM dH bO ai bI k4 b5 ca cj;go_wp2_with (first | (at_range;refine wpList_range_own _ rfl _ 106 rfl 3 110 qER Tryz.underlying106 hdR B n D rfl P.out.own ?_;intro w5 bS cq gj)|fail)
   go_frame
   have bN:Below V.heap.size V w5:=Below.grown (Below.refl _ _) cq (Nat.le_refl _) (λk e=>by cases e);have da:∃left aD,w5.ranges Tryz.prog 3 hdR B V.heap.size n D left aD/\Below V.heap.size V w5/\(∀c,(Lit.int .i64 c).wf =true->hasC p.rds c=true->left (.int .i64 c)=false->c<=0)/\((0:Int)=0∨hasC p.rds 0=true):=⟨_,_,bS,bN,λc hw aI hl=>(by rw[P.out.has c hw,aI]at hl;cases hl),.inl rfl⟩;clear bS bN b0 b1 b2;have⟨db,fk⟩:=hyd2 da cq;clear cq da;go_loopw [10] (λmx wr=>∃mv:Int,0<=mv/\mv<=11/\mx= .int .i64 mv/\Hid (∃left aD,wr.ranges Tryz.prog 3 hdR B V.heap.size n D left aD/\Below V.heap.size V wr/\(∀c,(Lit.int .i64 c).wf =true->hasC p.rds c=true->left (.int .i64 c)=false->c<=mv)/\(mv=0∨hasC p.rds mv=true))) (λ_ wr=>wr.rangeLeft B V.heap.size)
   case atStart=>exact⟨0,by omega,by omega,rfl,db⟩
   case round=>
    obtain⟨mv,e0,fs,rfl,hI⟩:=hrel;obtain⟨left,aD,aK,S,b9,bB⟩:=hI.out;go_wp2_with (first | (at_next;refine qGJ rfl _ rfl rfl aK ?_ ?_)|fail)
    ·intro ga dv;have dz:=qPh (λr h=>(I.out.rd r h).1) e0 (λc aI=>b9 c (P.out.wf c aI) aI (dv _)) bB;obtain⟨mN,rfl⟩:∃k:Nat,mv=(k:Int):=⟨mv.toNat,by omega⟩;have dK:=blk S dI.out;have dO:=blk S dN.out;have dU:=blk S eL.out;have aG:=P.out.le S;have aV:=qAA cp.out S;have d7:=bR.out.le aV;clear b9 bB dv;rename World=>wr0
     have⟨eo,d9,dm,aA,dL,bV,bW,bJ⟩:=hyd8 hI aK S dz dK dO dU aG;have⟨av,d8⟩:=hyd2 aV d7;clear d7 aV aG dU dO dK dz S aK hI;go_wp2_with (first | (at_make;go_must (refine qGV _ rfl _ _ 45 rfl 56 _ 1 24 Tryz.underlying45 qQq (by decide) (mN+1) rfl rfl (by omega) ?_))|fail);intro w7 cs cm;have cy:RowsTo w7 wr0.heap.size (mN+1) 0 (λi:Nat=>qAe p.rds lift d o start (i:Int)) _:=RowsTo.start (by rw[cs.out,qQu]);have de:∃vs,Below wr0.heap.size wr0 w7/\RowsTo w7 wr0.heap.size (mN+1) 0 (λi:Nat=>qAe p.rds lift d o start (i:Int)) vs:=⟨_,cm,cy⟩;have⟨fq,fj,fz,df⟩:=hyd4 cs cm cy de;clear de cy cm cs;go_wp2_with (fail);go_loopw [82] (λcx wv=>∃c:Nat,c<=mN+1/\cx= .int .i64 (c:Int)/\Hid (∃vs,Below wr0.heap.size wr0 wv/\RowsTo wv wr0.heap.size (mN+1) c (λi:Nat=>qAe p.rds lift d o start (i:Int)) vs)/\Hid (∀k:Nat,k<c->qAe p.rds lift d o start (k:Int)≠[])) (λcx _=>mN+1 - (intOf cx).toNat)
     case atStart=>exact⟨0,Nat.zero_le _,rfl,df,Lib.hid λk h=>absurd h (Nat.not_lt_zero k)⟩
     case round=>
      rename World=>wv
      obtain⟨c,gb,rfl,hJ,ay⟩:=hrel;obtain⟨vs,z,t⟩:=hJ.out
      by_cases dp:c<mN+1
      ·have bn:=blk z dL.out;have bF:=blk z bV.out;have bq:=blk z bW.out;have aq:=bJ.out.le z;have e6:=d8.out.le z;have U:c<vs.length:=by rw[t.len];exact dp
       have b7:wr0.heap.size<wv.heap.size:=gsl t.blk;have bQ:W0.heap.size≠wr0.heap.size:=Nat.ne_of_lt (gsl bV.out);have fw:W3.heap.size≠wr0.heap.size:=Nat.ne_of_lt (gsl bW.out);obtain⟨c0,c1,c2,c3,c4,c5⟩:=pc6 bn;obtain⟨b0,b1,b2⟩:=pc3 bq;obtain⟨gw,gy,a2,aX,bD⟩:=e6;injection a2 with a2;injection a2 with a2;injection a2 with e1 a2;subst e1;clear a2;obtain⟨bh,oh,ch,gx,gu,ev,fY,g0,g1,i0,i1⟩:=aX.at (j:=0) (by omega);injection ev with e1 e2 e3;subst e1 e3;clear e2 g1 i1;rw[Nat.zero_mul,Nat.add_zero]at g0;obtain⟨A0,fL,rfl,-⟩:=id i0;rw[<-qKb (p:=p) (by omega)]at g0;have fy:(0:Int)<(p.hs.length:Int):=by omega
       have dn:(c:Int)<=11:=by omega
       have j1:(c:Int)<(mN:Int)+1:=by omega
       have j2:(0:Int)<=(c:Int):=by omega
       have bE:(Lit.int .i64 (c:Int)).wf =true:=WalkArith.wf_i64 (by omega);have m1:=qHx j2 dn (b:=o) (B:=1000) (by omega) (by omega) (by decide);have b3:∃vl,RowOn wv wv wr0.heap.size c vs vl (qA7 p.rds lift d o start (c:Int) 0):=⟨_,t.on dp⟩;obtain⟨RH,ar⟩:∃b,hasC p.rds (c:Int)=b:=⟨_,rfl⟩
       cases RH with
       | true=>
        have aH:=aq.get (c:Int) ar;have ax:=aq.has (c:Int) bE;rw[ar]at ax;have⟨dh,L,J,aB,dJ,ak,dT,a6⟩:=hyd8 hJ z t ay bn bF bq aq;have⟨dC,dt,eH,aN,a7,bL,aW⟩:=hyd7 bD aX i0 b3 ar aH ax;clear ax aH ar b3 i0 aX bD aq bq bF bn ay t z hJ;go_wp2_with (first | (at_lookup;refine qKr rfl (.tmp 87) (.tmp 88) rfl rfl a6.out.own (c:Int) rfl bE _ _ _ bL.out aW.out ?_)|fail);clear c0 c1 c2 c3 c4 c5 b0 b1 b2 g0;go_loopw [98] (λpx wq=>∃ph:Nat,ph<=p.steps/\px= .int .i64 (ph:Int)/\Hid (∃vl,RowOn wv wq wr0.heap.size c vs vl (qA7 p.rds lift d o start (c:Int) ph))) (λpx _=>p.steps - (intOf px).toNat)
        case atStart=>exact⟨0,Nat.zero_le _,rfl,aN⟩
        case round=>
         obtain⟨ph,e5,rfl,hK⟩:=hrel;obtain⟨vl,q⟩:=hK.out
         by_cases aY:ph<p.steps
         ·have bc:=qFO p.rds lift d o start (c:Int) ph;have g:=qGI p.rds lift d o start (c:Int) ph;have aw:=qM7 (rds:=p.rds) (lift:=lift) (throw:=d) (adv:=o) (start:=start) (c:=(c:Int)) (ph:=ph) ⟨r7,r8⟩ ⟨by omega,by omega⟩ ⟨by omega,by omega⟩;rw[<-aw]at g;unfold fitP at g;rw[if_pos a7.out]at g;have a3:=(q.kept W0.heap.size (gsl ak.out) bQ).trans ak.out;obtain⟨d0,d1,d2,d3,d4⟩:=pc5 a3;have bp:=(a6.out.blk (c:Int) a7.out).2;have ba:=qGp bp J.out.blk (by decide);have c7:=(q.kept _ (gsl bp) ba).trans bp;obtain⟨y0,y1⟩:=qHY c7 (j:=ph) (by rw[qF0];exact aY);have bf:(rowS p.rds lift d p.steps (c:Int))[ph]'(by rw[qF0];exact aY)=qAk p.rds lift d (c:Int) ph:=by simp[rowS]
          rw[bf]at y0 y1;obtain⟨O,hO⟩:∃O,qAk p.rds lift d (c:Int) ph=O:=⟨_,rfl⟩;rw[hO]at y0 y1 g;obtain⟨o1,o2⟩:=O;dsimp only at y0 y1 g;have kw:=λW=>qAv (start+(c:Int)*o) o1 o2 W;obtain⟨Bw,aG⟩:∃b,qAE (start+(c:Int)*o) o1 o2=b:=⟨_,rfl⟩;rw[aG]at kw g;have j3:(ph:Int)<(p.steps:Int):=by omega
          have j4:(0:Int)<=(ph:Int):=by omega
          have⟨s,aO,bd,N,dq,dQ,f9,e4⟩:=hyd8 q hK bc g aw a3 bp ba;have⟨f8,eA,fU,eN,bJ⟩:=hyd5 c7 bf hO kw aG;clear aG kw hO bf c7 ba bp a3 aw g bc hK q;go_wp2_with (fail);go_quiet ((go_at_call 28;exact qDI (eN.out _)));have F:RowOn wv (wr.drewN nq) wr0.heap.size c vs vl (qA7 p.rds lift d o start (c:Int) ph):=⟨s.out.blk,s.out.own,s.out.size,s.out.kept,qAQ s.out.below nq⟩;clear d0 d1 d2 d3 d4 y0 y1;generalize wr.drewN nq=wq2 at F ⊢;have bX:=F.cell U;obtain⟨Al,cl,rfl⟩:=qAH F.own;have el:=pfrz F.blk c
          cases Bw with
          | true=>
           have A:=hyd1 F;clear F;go_wp2_with (first | (at_builtin;go_must (refine qCb rfl _ _ 56 rfl wv.heap.size 3 qB9 _ (qA7 p.rds lift d o start (c:Int) ph) rfl (A.out.own.alloc _) _ [(ph:Int)] rfl (qDU _ _ _) (by have:=bd.out;simp;omega) (Nat.le_trans A.out.size (by simp)) ?_)));intro v3 w3 h1 h2 h3 _;have H:Below wv.heap.size wq2 w3:=((Below.refl _ _).alloc A.out.size _).trans h2;have a1:=A.out.push (x:=(ph:Int)) (v2:=v3) b7 (by simpa using h1) H;have bi:IsSl v3:=by obtain⟨A9,c9,e9⟩:=qAH h1;exact⟨_,_,_,e9⟩
           have ad:∃vl,RowOn wv (w3.setCell ⟨wr0.heap.size,c,none⟩ v3) wr0.heap.size c vs vl (qA7 p.rds lift d o start (c:Int) (ph+1)):=⟨v3,by rw[N.out];exact a1⟩;have ab:=(H.block wr0.heap.size b7).trans A.out.blk;have ek:=pfrz ab c;have eh:w3.cell? ⟨wr0.heap.size,c,none⟩=some (.slice Al (qA7 p.rds lift d o start (c:Int) ph).length cl):=by simp only[World.cell?,ab];simp[U]
           obtain⟨A9,c9,rfl⟩:=qAH h1;have⟨aE,aF,en,ck,d6,dE,ae,dR⟩:=hyd8 h1 h2 h3 H a1 bi ad ab;clear ab ad bi a1 H h3 h2 h1;go_wp2;go_roundw
           case rel=>exact⟨ph+1,by omega,by go_num,ae⟩
           case measure=>simp[intOf];omega
          | false=>
           have ad:∃vl,RowOn wv wq2 wr0.heap.size c vs vl (qA7 p.rds lift d o start (c:Int) (ph+1)):=⟨_,by rw[N.out];simpa using F⟩;have⟨A,ae⟩:=hyd2 F ad;clear ad F;go_wp2;go_roundw
           case rel=>exact⟨ph+1,by omega,by go_num,ae⟩
           case measure=>simp[intOf];omega
         ·obtain rfl:ph=p.steps:=by omega
          have G:qA7 p.rds lift d o start (c:Int) p.steps=qAe p.rds lift d o start (c:Int):=by unfold qA7 qAe;rw[bP.out]
          have bX:=q.cell U;obtain⟨Al,cl,rfl⟩:=qAH q.own;have M:=qAA av.out (L.out.trans q.below);have cd:c<=(qCY p.rds).toNat :=by have h:=aA.out;omega
          by_cases hz:(qA7 p.rds lift d o start (c:Int) p.steps).length =0
          ·have h6:qBM p ⟨(m:Int),d,o,Y,X⟩ start=6:=qKk bu.out aa.out cd (by
            show qAe p.rds (p.lift (m:Int).toNat) d o start (c:Int)=[]
            rw[Int.toNat_natCast,a9.out,<-G]
            exact List.eq_nil_of_length_eq_zero hz)
           have bj:=qFm (show qBM p ⟨(m:Int),d,o,Y,X⟩ start≠0 by rw[h6];decide);have⟨s,aO,bb,R,bZ,bk⟩:=hyd6 q hK G M h6 bj;clear bj h6 M G hK q;go_wp2;exact bodyPost_ret (v:= .tuple #[.slice none 0 0,.int .i64 6]) (by simp[results,Tryz.results13,go_sem]) rfl ⟨_,by rw[bZ.out],R.out,by rw[bk.out];exact GridL.nil _⟩
          ·have eG:¬((qA7 p.rds lift d o start (c:Int) p.steps).length :Int)=0:=by omega
           have a0:=J.out.next (by omega) q G.symm ⟨_,_,_,rfl⟩;have Q:=L.out.trans q.below;have aL:∃vs,Below wr0.heap.size wr0 wr/\RowsTo wr wr0.heap.size (mN+1) (c+1) (λi:Nat=>qAe p.rds lift d o start (i:Int)) vs:=⟨_,Q,a0⟩
           have aj:∀k:Nat,k<c+1->qAe p.rds lift d o start (k:Int)≠[]:=λk hk=>by
            by_cases e:k=c
            ·subst e;rw[<-G];intro h0;rw[h0]at hz;exact hz rfl
            ·exact aB.out k (by omega)
           have⟨s,aO,bb,R,d5,ci,aM,az⟩:=hyd8 q hK G M a0 Q aL aj;clear aj aL Q a0 M G hK q;go_wp2;go_roundw
           case rel=>exact⟨c+1,by omega,by go_num,aM,az⟩
           case measure=>simp[intOf];omega
       | false=>
        have ax:=aq.has (c:Int) bE;rw[ar]at ax;have⟨dh,L,J,aB,dJ,ak,dT,a6⟩:=hyd8 hJ z t ay bn bF bq aq;have⟨dC,dt,eH,aN,a7,aW⟩:=hyd6 bD aX i0 b3 ar ax;clear ax ar b3 i0 aX bD aq bq bF bn ay t z hJ;go_wp2_with (first | (at_lookup;refine qKs rfl (.tmp 87) (.tmp 88) rfl rfl a6.out.own (c:Int) rfl bE aW.out ?_)|fail);clear c0 c1 c2 c3 c4 c5 b0 b1 b2 g0;go_loopw [98] (λpx wq=>∃ph:Nat,ph<=p.steps/\px= .int .i64 (ph:Int)/\Hid (∃vl,RowOn wv wq wr0.heap.size c vs vl (qA7 p.rds lift d o start (c:Int) ph))) (λpx _=>p.steps - (intOf px).toNat)
        case atStart=>exact⟨0,Nat.zero_le _,rfl,aN⟩
        case round=>
         obtain⟨ph,e5,rfl,hK⟩:=hrel;obtain⟨vl,q⟩:=hK.out
         by_cases aY:ph<p.steps
         ·have bc:=qFO p.rds lift d o start (c:Int) ph;have g:=qGI p.rds lift d o start (c:Int) ph;have aw:=qM7 (rds:=p.rds) (lift:=lift) (throw:=d) (adv:=o) (start:=start) (c:=(c:Int)) (ph:=ph) ⟨r7,r8⟩ ⟨by omega,by omega⟩ ⟨by omega,by omega⟩;rw[<-aw]at g;unfold fitP at g;rw[a7.out]at g;simp only[Bool.false_eq_true,if_false,if_true]at g;have a3:=(q.kept W0.heap.size (gsl ak.out) bQ).trans ak.out;obtain⟨d0,d1,d2,d3,d4⟩:=pc5 a3;have j3:(ph:Int)<(p.steps:Int):=by omega
          have j4:(0:Int)<=(ph:Int):=by omega
          have⟨s,aO,bd,N,dq,dQ⟩:=hyd6 q hK bc g aw a3;clear a3 aw g bc hK q;go_wp2_with (fail);go_quiet (fail);have F:RowOn wv (wr.drewN nq) wr0.heap.size c vs vl (qA7 p.rds lift d o start (c:Int) ph):=⟨s.out.blk,s.out.own,s.out.size,s.out.kept,qAQ s.out.below nq⟩;clear d0 d1 d2 d3 d4;generalize wr.drewN nq=wq2 at F ⊢;have bX:=F.cell U;obtain⟨Al,cl,rfl⟩:=qAH F.own;have el:=pfrz F.blk c;have A:=hyd1 F;clear F;go_wp2_with (first | (at_builtin;go_must (refine qCb rfl _ _ 56 rfl wv.heap.size 3 qB9 _ (qA7 p.rds lift d o start (c:Int) ph) rfl (A.out.own.alloc _) _ [(ph:Int)] rfl (qDU _ _ _) (by have:=bd.out;simp;omega) (Nat.le_trans A.out.size (by simp)) ?_)));intro v3 w3 h1 h2 h3 _;have H:Below wv.heap.size wq2 w3:=((Below.refl _ _).alloc A.out.size _).trans h2;have a1:=A.out.push (x:=(ph:Int)) (v2:=v3) b7 (by simpa using h1) H;have bi:IsSl v3:=by obtain⟨A9,c9,e9⟩:=qAH h1;exact⟨_,_,_,e9⟩
          have ad:∃vl,RowOn wv (w3.setCell ⟨wr0.heap.size,c,none⟩ v3) wr0.heap.size c vs vl (qA7 p.rds lift d o start (c:Int) (ph+1)):=⟨v3,by rw[N.out];exact a1⟩;have ab:=(H.block wr0.heap.size b7).trans A.out.blk;have ek:=pfrz ab c;have eh:w3.cell? ⟨wr0.heap.size,c,none⟩=some (.slice Al (qA7 p.rds lift d o start (c:Int) ph).length cl):=by simp only[World.cell?,ab];simp[U]
          obtain⟨A9,c9,rfl⟩:=qAH h1;have⟨aE,aF,en,ck,d6,dE,ae,dR⟩:=hyd8 h1 h2 h3 H a1 bi ad ab;clear ab ad bi a1 H h3 h2 h1;go_wp2;go_roundw
          case rel=>exact⟨ph+1,by omega,by go_num,ae⟩
          case measure=>simp[intOf];omega
         ·obtain rfl:ph=p.steps:=by omega
          have G:qA7 p.rds lift d o start (c:Int) p.steps=qAe p.rds lift d o start (c:Int):=by unfold qA7 qAe;rw[bP.out]
          have bX:=q.cell U;obtain⟨Al,cl,rfl⟩:=qAH q.own;have M:=qAA av.out (L.out.trans q.below);have cd:c<=(qCY p.rds).toNat :=by have h:=aA.out;omega
          by_cases hz:(qA7 p.rds lift d o start (c:Int) p.steps).length =0
          ·have h6:qBM p ⟨(m:Int),d,o,Y,X⟩ start=6:=qKk bu.out aa.out cd (by
            show qAe p.rds (p.lift (m:Int).toNat) d o start (c:Int)=[]
            rw[Int.toNat_natCast,a9.out,<-G]
            exact List.eq_nil_of_length_eq_zero hz)
           have bj:=qFm (show qBM p ⟨(m:Int),d,o,Y,X⟩ start≠0 by rw[h6];decide);have⟨s,aO,bb,R,bZ,bk⟩:=hyd6 q hK G M h6 bj;clear bj h6 M G hK q;go_wp2;exact bodyPost_ret (v:= .tuple #[.slice none 0 0,.int .i64 6]) (by simp[results,Tryz.results13,go_sem]) rfl ⟨_,by rw[bZ.out],R.out,by rw[bk.out];exact GridL.nil _⟩
          ·have eG:¬((qA7 p.rds lift d o start (c:Int) p.steps).length :Int)=0:=by omega
           have a0:=J.out.next (by omega) q G.symm ⟨_,_,_,rfl⟩;have Q:=L.out.trans q.below;have aL:∃vs,Below wr0.heap.size wr0 wr/\RowsTo wr wr0.heap.size (mN+1) (c+1) (λi:Nat=>qAe p.rds lift d o start (i:Int)) vs:=⟨_,Q,a0⟩
           have aj:∀k:Nat,k<c+1->qAe p.rds lift d o start (k:Int)≠[]:=λk hk=>by
            by_cases e:k=c
            ·subst e;rw[<-G];intro h0;rw[h0]at hz;exact hz rfl
            ·exact aB.out k (by omega)
           have⟨s,aO,bb,R,d5,ci,aM,az⟩:=hyd8 q hK G M a0 Q aL aj;clear aj aL Q a0 M G hK q;go_wp2;go_roundw
           case rel=>exact⟨c+1,by omega,by go_num,aM,az⟩
           case measure=>simp[intOf];omega
      ·obtain rfl:c=mN+1:=by omega
       obtain⟨cW,ce⟩:=qOU (p:=p) (f:=⟨(m:Int),d,o,Y,X⟩) (start:=start) bu.out aa.out (λk hk=>by
        show qAe p.rds (p.lift (m:Int).toNat) d o start (k:Int)≠[]
        rw[Int.toNat_natCast,a9.out]
        exact ay.out k (by have h:=aA.out;omega))
       have di:qCx p ⟨(m:Int),d,o,Y,X⟩ start=(List.range (mN+1)).map λi:Nat=>qAe p.rds lift d o start (i:Int):=by
        rw[ce,show(qCY p.rds).toNat +1=mN+1 by have h:=aA.out;omega];show qOT p (p.lift (m:Int).toNat) _ start _=_;rw[Int.toNat_natCast,a9.out];rfl
       have dr:=t.grid (by omega);have M:=qAA av.out z;have jn:¬((mN+1:Nat):Int)<(mN:Int)+1:=by omega
       have⟨dh,L,J,aB,cX,fc,dj,ds⟩:=hyd8 hJ z t ay cW ce di dr;have R:=hyd1 M;clear M dr di ce cW ay t z hJ;go_wp2;exact bodyPost_ret (v:= .tuple #[.slice (some ⟨wr0.heap.size,0,none⟩) (mN+1) (mN+1),.int .i64 0]) (by simp[results,Tryz.results13,go_sem]) rfl ⟨_,by rw[cX.out],R.out,by rw[dj.out];exact ds.out⟩
    ·intro x y w6 eZ eF gg aH aC aY cr dD gc
     have b8:hasC p.rds x=true:=by
      rw[<-P.out.has x eF];exact Maps.has_true_of_atKey aH
     obtain⟨q1,q2⟩:=qM5 dB.out b8;have aR:Below V.heap.size V w6:=Below.grown S cr S.size (λk e=>by injection e with e;omega)
     have dc:∃left aD,w6.ranges Tryz.prog 3 hdR B V.heap.size n D left aD/\Below V.heap.size V w6/\(∀c,(Lit.int .i64 c).wf =true->hasC p.rds c=true->left (.int .i64 c)=false->c<=max mv x)/\(max mv x=0∨hasC p.rds (max mv x)=true):=⟨_,_,aC,aR,λc hw aI hl=>(by
      by_cases e:c=x
      ·omega
      ·have h9:(Lit.int .i64 c).sameKey (.int .i64 x)=false:=by
        simp[Lit.sameKey,e]
       rw[h9]at hl;have:=b9 c hw aI (by simpa using hl)
       omega),(by
      by_cases e:mv<=x
      ·right;rw[show max mv x=x by omega];exact b8
      ·rw[show max mv x=mv by omega];exact bB)⟩
     have aZ:w6.rangeLeft B V.heap.size<wr.rangeLeft B V.heap.size:=by rw[aC.left_eq,aK.left_eq];exact aY
     clear b9 bB;have⟨eo,d9,dm,bL,e8,fm,f0,fo⟩:=hyd8 hI aK S aH aC cr dD b8;have⟨eu,dd,bA⟩:=hyd3 aR dc aZ;clear aZ dc aR b8 dD cr aC aH S aK hI;go_wp2;go_roundw
     case rel=>exact⟨max mv x,by omega,by omega,by go_num,dd⟩
     case measure=>exact bA.out
  ·have bC:argB p ⟨fh,d,o,Y,X⟩ start=false:=by rw[aP.out];simpa using af
   have h1:=cn.out bC;have h2:=b6.out bC;have⟨fx,aE,aF,cf⟩:=hyd4 bC h1 h2 af;clear af h2 h1 bC
   cases B1
   ·go_wp2_with (first | (go_at_call 28;((with_reducible refine(br.out _).mono ?_);rintro e w' ⟨rfl,rfl⟩)));exact bodyPost_ret (v:= .tuple #[.slice none 0 0,.int .i64 2]) (by simp[results,Tryz.results13,go_sem]) rfl ⟨_,by rw[aE.out],C.out,by rw[aF.out];exact GridL.nil _⟩
   cases B2
   ·go_wp2_with (first | (go_at_call 28;((with_reducible refine(br.out _).mono ?_);rintro e w' ⟨rfl,rfl⟩))| (go_at_call 28;((with_reducible refine(bH.out _).mono ?_);rintro e w' ⟨rfl,rfl⟩)));exact bodyPost_ret (v:= .tuple #[.slice none 0 0,.int .i64 2]) (by simp[results,Tryz.results13,go_sem]) rfl ⟨_,by rw[aE.out],C.out,by rw[aF.out];exact GridL.nil _⟩
   cases B3
   ·go_wp2_with (first | (go_at_call 28;((with_reducible refine(br.out _).mono ?_);rintro e w' ⟨rfl,rfl⟩))| (go_at_call 28;((with_reducible refine(bH.out _).mono ?_);rintro e w' ⟨rfl,rfl⟩))| (go_at_call 28;((with_reducible refine(cC.out _).mono ?_);rintro e w' ⟨rfl,rfl⟩)));exact bodyPost_ret (v:= .tuple #[.slice none 0 0,.int .i64 2]) (by simp[results,Tryz.results13,go_sem]) rfl ⟨_,by rw[aE.out],C.out,by rw[aF.out];exact GridL.nil _⟩
   cases B4
   ·go_wp2_with (first | (go_at_call 28;((with_reducible refine(br.out _).mono ?_);rintro e w' ⟨rfl,rfl⟩))| (go_at_call 28;((with_reducible refine(bH.out _).mono ?_);rintro e w' ⟨rfl,rfl⟩))| (go_at_call 28;((with_reducible refine(cC.out _).mono ?_);rintro e w' ⟨rfl,rfl⟩))| (go_at_call 28;((with_reducible refine(dV.out _).mono ?_);rintro e w' ⟨rfl,rfl⟩)));exact bodyPost_ret (v:= .tuple #[.slice none 0 0,.int .i64 2]) (by simp[results,Tryz.results13,go_sem]) rfl ⟨_,by rw[aE.out],C.out,by rw[aF.out];exact GridL.nil _⟩
   exact absurd rfl cf.out
def offRel (X:Nat):WRel where
 r W W':=(W'.os=W.os/\W'.tape=W.tape/\W'.output=W.output)/\W.heap.size<=W'.heap.size/\∀k,k<W.heap.size->k≠X->W'.heap[k]? =W.heap[k]?
 refl w:=⟨⟨rfl,rfl,rfl⟩,Nat.le_refl _,λ_ _ _=>rfl⟩
 drew w:=⟨⟨rfl,rfl,rfl⟩,Nat.le_refl _,λ_ _ _=>rfl⟩
 trans:=by
  rintro a b c ⟨⟨h1,h2,h3⟩,h4,h5⟩ ⟨⟨k1,k2,k3⟩,k4,k5⟩;exact⟨⟨k1.trans h1,k2.trans h2,k3.trans h3⟩,Nat.le_trans h4 k4,λk hk hx=>(k5 k (Nat.lt_of_lt_of_le hk h4) hx).trans (h5 k hk hx)⟩
theorem offRel.of_le {X:Nat} (a b:World) (h:Le a b):(offRel X).r a b:=⟨⟨h.os,h.tape,h.output⟩,h.size,λk hk _=>h.block k hk⟩
theorem offRel.below {X n:Nat} {w a b:World} (h:(offRel X).r a b) (hb:Below n w a) (hn:n<=X) (hw:n<=a.heap.size):Below n w b:=
 ⟨h.1.1.trans hb.os,h.1.2.1.trans hb.tape,h.1.2.2.trans hb.output,Nat.le_trans hb.size h.2.1,λk hk=>(h.2.2 k (by omega) (by omega)).trans (hb.block k hk)⟩
theorem offRel.blk {X:Nat} {a b:World} (h:(offRel X).r a b) {k:Nat} {o:Obj} (hk:a.heap[k]? =some o) (hx:k≠X):b.heap[k]? =some o:=(h.2.2 k (gsl hk) hx).trans hk
theorem qMa {X N:Nat} {a b:World} {e size n:Nat} {v:Value} {xs:List Value} (h:a.ownsRow N e size v n xs) (hr:(offRel X).r a b) (hX:X<N):b.ownsRow N e size v n xs:=by
 refine⟨h.1,?_⟩
 rcases h.2 with h0| ⟨g,cap,cur,hv,hbg,hg,r⟩
 ·exact .inl h0
 ·exact .inr ⟨g,cap,cur,hv,hbg,offRel.blk hr hg (by omega),r⟩
theorem IntsN.off {X:Nat} {a b:World} {v:Value} {L:List Int} (h:IntsN X a v L) (hr:(offRel X).r a b):IntsN X b v L:=by
 obtain⟨⟨A,c,rfl,k,l,m,n⟩,d⟩:=h;refine⟨⟨A,c,rfl,k,l,m,λi=>?_⟩,d⟩;obtain⟨g,off,rfl,f,o⟩:=n i;exact⟨g,off,rfl,Nat.lt_of_lt_of_le f hr.2.1,λj p=>(World.cell?_of_block (a:=⟨g,off+j,none⟩) (hr.2.2 g f (Nat.ne_of_gt (d g rfl)))).trans (o j p)⟩
def NewP (n N:Nat) (w:World) (v:Value) (p:Prog):Prop:=∃v0 v1 v5,v= .agg #[v0,v1,.int .i64 p.start,.int .i64 p.throw,.int .i64 p.adv,v5]/\IntsN n w v0 p.ros/\w.ownsRow N 3 1 v1 p.rub.length (p.rub.map vint)/\IntsN n w v5 p.shifts
theorem NewP.off {X N:Nat} {a b:World} {v:Value} {p:Prog} (h:NewP X N a v p) (hr:(offRel X).r a b) (hX:X<N):NewP X N b v p:=by
 obtain⟨c,d,f,e,x,y,z⟩:=h;have g:=IntsN.off x hr;have i:=qMa y hr hX;have j:=IntsN.off z hr;unfold NewP;refine⟨c,d,f,?_,?_,?_,?_⟩
 ·exact e
 ·exact g
 ·exact i
 ·exact j
def TPred.ownI (X N:Nat) (hX:X<N) (L:List Int):MPredR (offRel X):=⟨λv W=>W.ownsRow N 3 1 v L.length (L.map vint),λ_ _ _ h hp=>qMa hp h hX⟩
def TPred.newP (X N:Nat) (hX:X<N) (p:Prog):MPredR (offRel X):=⟨λv W=>NewP X N W v p,λ_ _ _ h hp=>hp.off h hX⟩
def MPred.boxP (X N:Nat) (hX:X<N) (p:Prog):MPred:=⟨λ_ W=>∃v0 v1 v5,W.heap[X]? =some (.cells #[v0,v1,.int .i64 p.start,.int .i64 p.throw,.int .i64 p.adv,v5] 69)/\NewP X N W (.agg #[v0,v1,.int .i64 p.start,.int .i64 p.throw,.int .i64 p.adv,v5]) p,
 λ_ W W' h ⟨v0,v1,v5,a,b⟩=>⟨v0,v1,v5,(Below.block h X (gsl a)).trans a,b.off (offRel.of_le _ _ h) hX⟩⟩
theorem qEA (W:World) (X k:Nat) (u:Value):(offRel X).r W (W.setCell ⟨X,k,none⟩ u):=by
 refine⟨⟨rfl,rfl,rfl⟩,?_,λj _ b=>Below.heap_setCell W ⟨X,k,none⟩ u j b⟩;simp[World.setCell]
theorem qPn (W:World) (X:Nat) (u0 u1 u2 u3 u4 u5:Value):(offRel X).r W ((((((W.setCell ⟨X,0,none⟩ u0).setCell ⟨X,1,none⟩ u1).setCell ⟨X,2,none⟩ u2).setCell ⟨X,3,none⟩ u3).setCell ⟨X,4,none⟩ u4).setCell ⟨X,5,none⟩ u5):=
 (offRel X).trans (qEA W X 0 u0) ((offRel X).trans (qEA _ X 1 u1) ((offRel X).trans (qEA _ X 2 u2) ((offRel X).trans (qEA _ X 3 u3) ((offRel X).trans (qEA _ X 4 u4) (qEA _ X 5 u5)))))
def qGs (n:Nat) (w:World) (v:Value) (p:Prog):Prop:=∃v0 v1 v5,v= .agg #[v0,v1,.int .i64 p.start,.int .i64 p.throw,.int .i64 p.adv,v5]/\Ints w v0 p.ros/\w.ownsRow n 3 1 v1 p.rub.length (p.rub.map vint)/\Ints w v5 p.shifts
theorem qJ5 (n:Nat) (w:World):qGs n w (.agg #[.slice none 0 0,.slice none 0 0,.int .i64 0,.int .i64 0,.int .i64 0,.slice none 0 0]) ⟨[],[],0,0,0,[]⟩:=⟨_,_,_,rfl,Arr.nil _ _,World.ownsRow_nil _ _ _ _,Arr.nil _ _⟩
def BestV (N:Nat) (W:World) (v:Value):Option (List Int)->Prop
 | none=>v= .slice none 0 0
 | some b=>∃g c,v= .slice (some ⟨g,0,none⟩) b.length c/\IntsN N W v b
theorem BestV.le {N:Nat} {W W':World} {v:Value} {B:Option (List Int)} (h:BestV N W v B) (hb:Below W.heap.size W W'):BestV N W' v B:=by
 cases B with
 | none=>exact h
 | some b=>
  obtain⟨g,c,e,d⟩:=h;exact⟨g,c,e,d.later hb⟩
theorem qLC {w:World} {X k:Nat} {cs:Array Value} {t:TypeId} {v:Value} (h:w.heap[X]? =some (.cells cs t)) (hv:cs[k]? =some v):w.setCell ⟨X,k,none⟩ v=w:=by
 rw[setCell_eq_setRow w X k cs t (0,0) v h];obtain⟨b,c⟩:=Array.getElem?_eq_some_iff.1 hv;rw[show cs.setIfInBounds k v=cs from by rw[Array.setIfInBounds,dif_pos b,<-c,Array.set_getElem_self]];exact setRow_self w X cs t (0,0) h
theorem qOd {p:Pic} {f:Fnd} {start:Int} (hok:PicOk p) (hm:f.head.toNat<p.hs.length):∀l∈qCx p f start,∀x∈l,∃k:Nat,x=(k:Int)/\k<p.steps:=by
 intro l b x g;unfold qCx at b
 split at b
 ·unfold qGm at b;obtain⟨c,-,rfl⟩:=List.mem_map.1 b;unfold qAe at g;obtain⟨k,h,rfl⟩:=List.mem_map.1 g;have i:=List.mem_range.1 (List.mem_filter.1 h).1;have d:=hok.head _ (List.getElem_mem hm);have j:(p.lift f.head.toNat).length =p.steps:=by unfold Pic.lift;rw[List.getD_eq_getElem?_getD,List.getElem?_eq_getElem hm];exact(qBD _ _).trans d.1
  exact⟨k,rfl,by omega⟩
 ·cases b
theorem qIr (v:Value) (p:Pic) (f:Fnd) (start:Int) (w:World) (hp:IsPic w v p) (hf:p.Fit) (hff:f.Fit) (hs:qA6 start):
  Calls Tryz.prog 35 #[v,fndV f,.int .i64 start] w λe w'=>∃v',e= .returned (.tuple #[v',.int .i64 (qFQ p f start)])/\Below w.heap.size w w'/\qGs w.heap.size w' v' (qDc p f start):=by
 have cF:=hp;obtain⟨vh,vr,rfl,hh,hr⟩:=hp;obtain⟨HA,hc,rfl,ge⟩:=hh.slice;obtain⟨RA,rc,rfl,gl⟩:=hr.slice;unfold maxLen at ge gl;have bm:=hff;obtain⟨fh,M,J,fl,fi⟩:=f;show Calls Tryz.prog 35 #[_,.agg #[.int .i64 fh,.int .i64 M,.int .i64 J,.int .i64 fl,.int .i64 fi],_] w _;obtain⟨W0,d8,cn,k0⟩:=newb w (.cells #[.slice HA p.hs.length hc,.int .i64 p.tl,.int .i64 p.th,.int .i64 p.al,.int .i64 p.ah,.slice RA p.rds.length rc] 51);obtain⟨W1,d9,bD,k1⟩:=newb W0 (.cells #[.int .i64 fh,.int .i64 M,.int .i64 J,.int .i64 fl,.int .i64 fi] 54);obtain⟨W2,fR,ba,k2⟩:=newb W1 (.cells #[.slice none 0 0,.slice none 0 0,.int .i64 0,.int .i64 0,.int .i64 0,.slice none 0 0] 69);have bf:=qAA cn bD;have bS:=qAA bf ba;have cL:=blk ba (blk bD k0);have cM:=blk ba k1;have z0:w.heap.size<W0.heap.size:=by rw[<-d8];simp
 have z1:W0.heap.size<W1.heap.size:=by rw[<-d9];simp
 obtain⟨c0,c1,c2,c3,c4,c5⟩:=pc6 cL;obtain⟨d0,d1,d2,d3,d4⟩:=pc5 cM;have bx:∀W,Below w.heap.size w W->Calls Tryz.prog 13 #[.agg #[.slice HA p.hs.length hc,.int .i64 p.tl,.int .i64 p.th,.int .i64 p.al,.int .i64 p.ah,.slice RA p.rds.length rc],.agg #[.int .i64 fh,.int .i64 M,.int .i64 J,.int .i64 fl,.int .i64 fi],.int .i64 start] W λe w'=>∃v',e= .returned (.tuple #[v',.int .i64 (qBM p ⟨fh,M,J,fl,fi⟩ start)])/\Below W.heap.size W w'/\GridL w' v' (qCx p ⟨fh,M,J,fl,fi⟩ start):=λW h=>qN1 _ p ⟨fh,M,J,fl,fi⟩ start W (cF.le h) hf bm hs;obtain⟨E,hE⟩:∃E,qBM p ⟨fh,M,J,fl,fi⟩ start=E:=⟨_,rfl⟩;obtain⟨L,hL⟩:∃L,qCx p ⟨fh,M,J,fl,fi⟩ start=L:=⟨_,rfl⟩;rw[hE,hL]at bx;have⟨he,dT,iv,ik,ga,gK,gL,gM⟩:=hyd8 cF hh hr hf bm cn bD ba;have⟨i2,i3,gu,fY,bg,eE,eG,cS⟩:=hyd8 k0 k1 k2 bf bS cL cM bx;have⟨a9,aZ⟩:=hyd2 hE hL;clear hL hE bx cM cL bS bf k2 k1 k0 ba bD cn bm hf hr hh cF;go_enter Tryz.func35,Tryz.ntmps35;go_wp2_with (fail);clear d8 d9 fR;generalize hP1:W0.heap.size=P1 at*;generalize hP2:W1.heap.size=P2 at*;have⟨gG,gH⟩:=hyd2 hP1 hP2;clear hP2 hP1;go_at_call 13;refine(cS.out W2 bg.out).mono ?_;rintro e W3 ⟨vL,rfl,aq,aO⟩;have O:=qAA bg.out aq;have bv:=blk aq eE.out;have aR:=blk aq eG.out;have I:=blk aq gu.out;obtain⟨GA,gc,rfl,io⟩:=aO.slice;clear c0 c1 c2 c3 c4 c5 d0 d1 d2 d3 d4
 by_cases ck:E=0
 ·subst ck
  have bI:picB p=true:=by
   have h:=a9.out;unfold qBM at h
   split at h
   ·assumption
   ·cases h
  have ap:argB p ⟨fh,M,J,fl,fi⟩ start=true:=by
   have h:=a9.out;unfold qBM at h;rw[if_pos bI]at h
   split at h
   ·assumption
   ·cases h
  have aQ:=picB_iff.1 bI
  obtain⟨r1,r2⟩:0<=fh/\fh<=(p.hs.length:Int) - 1:=by
   rw[qM6]at ap;simp only[Bool.and_eq_true]at ap;exact within_iff.1 ap.1
  obtain⟨m,rfl⟩:∃m:Nat,fh=(m:Int):=⟨fh.toNat,by omega⟩;have hm:m<p.hs.length:=by omega
  obtain⟨bh,oh,ch,iI,iF,bl,ii,g0,g1,i0,i1⟩:=(dT.out.le O).at hm;injection bl with e1 e2 e3;subst e1 e3;clear e2;obtain⟨Ar,cr,rfl,-⟩:=id i0;obtain⟨Ab,cb,rfl,-⟩:=id i1
  have eA:Ints w (.slice Ab p.hs[m].rub.length cb) p.hs[m].rub :=by
   obtain⟨hS,i7,hT,iH,iE,dL,dH,hW,fK,gr,ez⟩:=dT.out.at hm;injection dL with e1 e2 e3;injection e1 with e1;injection e1 with e1 e4;subst e1 e4;have h9:=(Below.cell O (p:=⟨bh,oh+m*2+1,none⟩) dH).trans fK;rw[g1]at h9;injection h9 with h9;subst h9;exact ez
  have cA:=aQ.head _ (List.getElem_mem hm);have ej:=aQ.steps;rw[cA.1]at g0 i0;obtain⟨N,fS,au,k4⟩:=newb W3 (.cells #[.slice Ar p.steps cr,.slice Ab p.hs[m].rub.length cb] 113);obtain⟨c0,c1,c2,c3,c4,c5⟩:=pc6 bv;obtain⟨d0,d1,d2,d3,d4⟩:=pc5 aR;obtain⟨x0,x1⟩:=pc2 k4;have j1:(m:Int)<(p.hs.length:Int):=by omega
  have j2:(0:Int)<=(m:Int):=by omega
  have bT:=qAA O au;have bW:=aO.le au

  have fQ:L.length<=1000:=by
   have it:=qK6 (rds:=p.rds) (λr h=>(aQ.rd r h).1);rw[<-aZ.out];unfold qCx qGm
   split
   ·rw[List.length_map,List.length_range];omega
   ·simp
  have dy:∀l∈L,∀x∈l,∃k:Nat,x=(k:Int)/\k<p.steps:=by
   rw[<-aZ.out];exact qOd aQ hm
  obtain⟨W5,dA,cp,k5⟩:=newb N (.cells #[.int .i64 (p.steps:Int),.slice none 0 0] 149);have z4:W3.heap.size<N.heap.size:=gsl k4;have z5:N.heap.size<W5.heap.size:=gsl k5;have fm:W5.heap.size=N.heap.size+1:=by rw[<-dA];simp
  have eO:=blk au I;have eI:=blk au aR;have iL:P2<W3.heap.size:=gsl I;have ev:=i0.below au;have e6:=i1.below au;obtain⟨t0,t1⟩:=pc2 k5;have f5:=pfrz k5 1;have e5:W5.setCell ⟨N.heap.size,1,none⟩ (.slice none 0 0)=W5:=qLC k5 rfl;have dn:∃vo,Below N.heap.size N W5/\W5.heap[N.heap.size]? =some (.cells #[.int .i64 (p.steps:Int),vo] 149)/\W5.heap.size<=W5.heap.size/\GrB W5 W5.heap.size vo (tabL p.steps (L.take 0)):=⟨_,cp,k5,Nat.le_refl _,GrB.nil _ _⟩;have d6:∀q,qDw L p.steps=q->qFQ p ⟨(m:Int),M,J,fl,fi⟩ start=(if q=none then 6 else 0):=λq h=>by unfold qFQ;rw[a9.out,aZ.out,h];rfl
  generalize hBL:p.hs[m].rub.length =BL at*;have⟨dF,dQ,ct,eF,eH,eN,hi,fU⟩:=hyd8 aq aO O bv aR I bI ap;have⟨ha,gr,ez,eB,aK,gw,gO,cu⟩:=hyd8 aQ i0 i1 eA cA k4 au bT;have⟨c6,eP,eJ,ew,e7,bP,gF,dz⟩:=hyd8 bW eO eI ev e6 d6 hBL dy;have⟨gP,i4,dp,fn⟩:=hyd4 cp k5 dn fm;clear fm dn k5 cp dy hBL d6 e6 ev eI eO bW bT au k4 cA eA i1 i0 aQ ap bI I aR bv O aO aq;go_wp2_with (fail);clear fS dA c0 c1 c2 c3 c4 c5 d0 d1 d2 d3 d4 x0 x1 g0 g1 t0 t1 f5 e5;generalize hP4:W3.heap.size=P4 at*;generalize hZ5:W5.heap.size=Z5 at*;have⟨gI,dD⟩:=hyd2 hP4 hZ5;clear hZ5 hP4;go_loopw [48] (λcx wr=>∃c:Nat,c<=L.length/\cx= .int .i64 (c:Int)/\Hid (∃vo,Below N.heap.size N wr/\wr.heap[N.heap.size]? =some (.cells #[.int .i64 (p.steps:Int),vo] 149)/\Z5<=wr.heap.size/\GrB wr Z5 vo (tabL p.steps (L.take c)))) (λcx _=>L.length - (intOf cx).toNat)
  case atStart=>
   obtain⟨vo,q1,q2,q3,q4⟩:=dp.out;exact⟨0,Nat.zero_le _,rfl,Lib.hid ⟨vo,q1,q2,Nat.le_of_eq dD.out.symm,q4⟩⟩
  case round=>
   rename World=>wr0
   obtain⟨c,ij,rfl,hI⟩:=hrel;obtain⟨vo,t,kT,ie,ag⟩:=hI.out;obtain⟨t0,t1⟩:=pc2 kT;obtain⟨Av,cv,rfl⟩:=ag.form;rw[qCe]at ag t1 kT;have dY:(L.take c).length <=L.length:=List.length_take_le' c L;obtain⟨tl,bu⟩:∃k,(L.take c).length =k:=⟨_,rfl⟩;rw[bu]at ag t1 kT dY
   by_cases cD:c<L.length
   ·obtain⟨lb,lo,lc,lv,bl,gW,y0,bn⟩:=(c6.out.le t).at cD;injection bl with e1 e2 e3;subst e1 e3;clear e2;obtain⟨Al,cl,rfl,-⟩:=id bn;have cC:=dz.out _ (List.getElem_mem cD);have cG:=qOc (steps:=p.steps) cD;obtain⟨l,hl⟩:∃l,L[c]=l:=⟨_,rfl⟩;rw[hl]at y0 bn cC cG;have j3:(c:Int)<(L.length:Int):=by omega
    have j4:(0:Int)<=(c:Int):=by omega
    have iu:l.length<=9223372036854775807:=by
     obtain⟨A9,c9,e9,q1,q2,-⟩:=id bn;unfold maxLen at q2;omega
    have⟨fO,be,aS,bX,dU,dX,ir,em⟩:=hyd8 hI t kT ag bn cC hl cG;have en:=hyd1 bu;clear bu cG hl cC bn ag kT t hI;go_wp2_with (first | (at_make;go_must (refine qD0 (f:=Value.bool) _ rfl _ _ 137 rfl wr0.heap.size 4 false 1 qRh rfl (by decide) p.steps rfl rfl (by omega) (Nat.le_refl _) (rowB p.steps []) (qPk _) ?_))|fail);intro w5 r1 r2 r3;clear y0 t0 t1;have dq:Below wr0.heap.size wr0 w5/\w5.ownsRow wr0.heap.size 4 1 (.slice (some ⟨wr0.heap.size,0,none⟩) p.steps p.steps) p.steps ((rowB p.steps (l.take 0)).map Value.bool):=⟨r2,r1⟩;have⟨iA,iB,dr⟩:=hyd3 r1 r2 dq;clear dq r2 r1;go_wp2_with (fail);go_loopw [57] (λkx wq=>∃k:Nat,k<=l.length/\kx= .int .i64 (k:Int)/\Hid (Below wr0.heap.size wr0 wq/\wq.ownsRow wr0.heap.size 4 1 (.slice (some ⟨wr0.heap.size,0,none⟩) p.steps p.steps) p.steps ((rowB p.steps (l.take k)).map Value.bool))) (λkx _=>l.length - (intOf kx).toNat)
    case atStart=>exact⟨0,Nat.zero_le _,rfl,dr⟩
    case round=>
     obtain⟨k,iq,rfl,hJ⟩:=hrel;obtain⟨ab,H⟩:=hJ.out
     by_cases hk:k<l.length
     ·obtain⟨b2,o2,c2,bl,gN,-,-,aC⟩:=Ints.cells (dU.out.below ab) (by omega);injection bl with e1 e2 e3;subst e1 e3;clear e2;have y1:=aC k hk;obtain⟨x,hx,et⟩:=dX.out _ (List.getElem_mem hk);rw[hx]at y1;have aL:=qPl (steps:=p.steps) (l:=l.take k) et;have bt:l.take (k+1)=l.take k++[(x:Int)]:=by rw[qKy hk,hx]
      rw[<-bt]at aL;have y2:=qBm (f:=Value.bool) H (qCJ _ _) (rowB_get? (l:=l.take k) et);have f2:=H.frozenAt x;have bH:=qCW (f:=Value.bool) H x true;rw[aL]at bH;have j5:(k:Int)<(l.length:Int):=by omega
      have j6:(0:Int)<=(k:Int):=by omega
      have j7:(x:Int)<(p.steps:Int):=by omega
      have j8:(0:Int)<=(x:Int):=by omega
      have ds:Below wr0.heap.size wr0 (wr.setCell ⟨wr0.heap.size,x,none⟩ (.bool true))/\(wr.setCell ⟨wr0.heap.size,x,none⟩ (.bool true)).ownsRow wr0.heap.size 4 1 (.slice (some ⟨wr0.heap.size,0,none⟩) p.steps p.steps) p.steps ((rowB p.steps (l.take (k+1))).map Value.bool):=⟨Below.setCell ab (p:=⟨wr0.heap.size,x,none⟩) (Nat.le_refl _) _,bH⟩;have⟨bC,dI,cE,f0,iw,gn,gq,gZ⟩:=hyd8 hJ ab H aC hx aL bt bH;have dt:=hyd1 ds;clear ds bH bt aL hx aC H ab hJ;go_wp2;go_roundw
      case rel=>exact⟨k+1,by omega,by go_num,dt⟩
      case measure=>simp[intOf];omega
     ·obtain rfl:k=l.length:=by omega
      rw[List.take_length]at H;have bq:Arr qFS wr (.slice (some ⟨wr0.heap.size,0,none⟩) p.steps p.steps) (rowB p.steps l):=Arr.of_own (n:=p.steps) H;have bw:=blk ab aS.out;obtain⟨t0,t1⟩:=pc2 bw;have c8:=bX.out.le ab;have bd:=be.out.trans (ab.mono (by have:=gsl aS.out;omega));have zq:=ab.size;obtain⟨W8,ib,aA,k8⟩:=newb wr (.cells #[.slice (some ⟨wr0.heap.size,0,none⟩) p.steps p.steps] 137);have x8:=cell_of_row W8 wr.heap.size 0 _ _ _ k8;have dM:=c8.le aA;have br:=bq.below aA;have bQ:=bd.trans (aA.mono (by have:=gsl bw;omega));have eY:=blk aA bw;have z8:=aA.size;have cK:N.heap.size<Z5:=by have:=fn.out;omega
      have⟨bC,dI,cE,gm,h4,gU,fX,gQ⟩:=hyd8 hJ ab H bq bw c8 bd aA;have⟨i5,dN,bK,co,eZ⟩:=hyd5 k8 dM br bQ eY;clear eY bQ br dM k8 aA bd c8 bw bq H ab hJ;go_wp2_with (first | (at_builtin;go_must (refine qLB _ rfl _ _ rfl Z5 (.slice Av tl cv) (tabL p.steps (L.take c)) rfl dN.out wr.heap.size _ _ _ (rowB p.steps l) rfl x8 bK.out (by rw[qCe,en.out];omega) (by omega) ?_))|fail);intro v3 w3 bF ar;have aT:=((ar Z5 (Nat.le_refl _)).block N.heap.size cK).trans eZ.out;obtain⟨s0,s1⟩:=pc2 aT;have fs:=pfrz aT 1;have cz:=bF.put (k:=1) aT cK (by decide) (by intro c hc b;simp at hc;rcases hc with rfl|rfl<;>intro h<;>cases h) v3
      have cQ:(w3.setCell ⟨N.heap.size,1,none⟩ v3).heap[N.heap.size]? =some (.cells #[.int .i64 (p.steps:Int),v3] 149):=by
       simp only[World.setCell,Array.getElem?_modify,aT];simp
      have bc:Below N.heap.size N (w3.setCell ⟨N.heap.size,1,none⟩ v3):=(co.out.trans (ar N.heap.size (Nat.le_of_lt cK))).setCell (p:=⟨N.heap.size,1,none⟩) (Nat.le_refl _) _;have du:∃vo,Below N.heap.size N (w3.setCell ⟨N.heap.size,1,none⟩ v3)/\(w3.setCell ⟨N.heap.size,1,none⟩ v3).heap[N.heap.size]? =some (.cells #[.int .i64 (p.steps:Int),vo] 149)/\Z5<=(w3.setCell ⟨N.heap.size,1,none⟩ v3).heap.size /\GrB (w3.setCell ⟨N.heap.size,1,none⟩ v3) Z5 vo (tabL p.steps (L.take (c+1))):=⟨v3,bc,cQ,by have:=(ar Z5 (Nat.le_refl _)).size;simp[World.setCell];omega,by rw[em.out];exact cz⟩;obtain⟨A3,c3,ep⟩:=bF.form;obtain⟨n3,ec⟩:∃k,(tabL p.steps (L.take c)++[rowB p.steps l]).length =k:=⟨_,rfl⟩;rw[ec]at ep;subst ep;clear ec;clear t0 t1 x8;have⟨gR,fV,hz,gS,h0,fW,dv⟩:=hyd7 bF ar aT cz cQ bc du;clear du bc cQ cz aT ar bF;go_wp2;go_roundw
      case rel=>exact⟨c+1,by omega,by go_num,dv⟩
      case measure=>simp[intOf];omega
   ·obtain rfl:c=L.length:=by omega
    rw[List.take_length]at ag bu;subst bu;have bU:=qAA cu.out t;have dR:=ag.grid;have eL:=blk t eJ.out;have eR:=blk t eP.out;have eV:=blk t gw.out;have ex:=ew.out.below t;have eC:=e7.out.below t;have iO:=gsl kT;have hu:=ej.1;have go:=ej.2;have⟨fO,be,aS,bX,bj,dS,eM,aM⟩:=hyd8 hI t kT ag bU dR eL eR;have⟨eW,ey,eD⟩:=hyd3 eV ex eC;clear eC ex eV eR eL dR bU ag kT t hI;go_wp2_with (fail);clear t0 t1;go_loopw [72] (λnx wr=>∃n:Nat,n<=12/\nx= .int .i64 (n:Int)/\Hid (Below wr0.heap.size wr0 wr)/\Hid (∀k,k<n->∀j,j<p.steps->qEJ L p.steps (k+1) (j:Int)=none)) (λnx _=>13 - (intOf nx).toNat)
    case atStart=>exact⟨0,by omega,rfl,Lib.hid (Below.refl _ _),Lib.hid λk h=>absurd h (Nat.not_lt_zero k)⟩
    case round=>
     obtain⟨n,gX,rfl,bE,aD⟩:=hrel;obtain⟨t0,t1⟩:=pc2 (blk bE.out aS.out)
     by_cases hn:n<12
     ·have j3:(n:Int)<12:=by omega
      go_wp2_with (fail);rename World=>wn
      clear t0 t1;go_loopw [77] (λfx wr=>∃first:Nat,first<=p.steps/\fx= .int .i64 (first:Int)/\Hid (Below wr0.heap.size wr0 wr)/\Hid (∀j,j<first->qEJ L p.steps (n+1) (j:Int)=none)) (λfx _=>p.steps - (intOf fx).toNat)
      case atStart=>exact⟨0,Nat.zero_le _,rfl,bE,Lib.hid λj h=>absurd h (Nat.not_lt_zero j)⟩
      case round=>
       obtain⟨first,il,rfl,cq,af⟩:=hrel;obtain⟨t0,t1⟩:=pc2 (blk cq.out aS.out)
       by_cases cy:first<p.steps
       ·have j4:(first:Int)<(p.steps:Int):=by omega
        have dw:Below wr0.heap.size wr0 wr/\BestV P2 wr (.slice none 0 0) (qCP L p.steps (n+1) (first:Int) 0):=⟨cq.out,rfl⟩;have dx:=hyd1 dw;clear dw;go_wp2_with (fail);rename World=>wf
        clear t0 t1;go_loopw [82,19] (λax vb wr=>∃i:Nat,i<=p.steps/\ax= .int .i64 (i:Int)/\Hid (Below wr0.heap.size wr0 wr/\BestV P2 wr vb (qCP L p.steps (n+1) (first:Int) i))) (λax _ _=>p.steps - (intOf ax).toNat)
        case atStart=>exact⟨0,Nat.zero_le _,rfl,dx⟩
        case round=>
         obtain⟨i,ig,rfl,hJ⟩:=hrel;obtain⟨Z,ay⟩:=hJ.out;obtain⟨t0,t1⟩:=pc2 (blk Z aS.out)
         by_cases dE:i<p.steps
         ·have cT:Calls Tryz.prog 70 #[.agg #[.int .i64 (p.steps:Int),.slice Av L.length cv],.int .i64 ((n:Int)+1),.int .i64 (first:Int),.int .i64 (i:Int)] wr λe w'=>∃v' b,e= .returned (.tuple #[v',.bool b])/\b=(qBb L p.steps (n+1) (first:Int) (i:Int)).isSome /\Below wr.heap.size wr w'/\(b=true->Ints w' v' ((qBb L p.steps (n+1) (first:Int) (i:Int)).getD [])/\∃g l c,v'= .slice (some ⟨g,0,none⟩) l c/\wr.heap.size<=g):=
           qKz _ L p.steps (n+1) first i wr (dS.out.le Z) fQ (by omega) (by omega) (by omega) (by omega) cy dE
          have aj:=qHK L p.steps (n+1) (first:Int) i;obtain⟨X,hX⟩:∃X,qBb L p.steps (n+1) (first:Int) (i:Int)=X:=⟨_,rfl⟩;obtain⟨Bo,s⟩:∃B,qCP L p.steps (n+1) (first:Int) i=B:=⟨_,rfl⟩;have dB:∀l,X=some l->l.length=n+1:=λl h=>qDx (by omega) (hX.trans h);have dk:∀l,Bo=some l->l.length=n+1:=λl h=>qE3 (by omega) i l (s.trans h);rw[hX]at cT aj;rw[s]at aj ay;have j5:(i:Int)<(p.steps:Int):=by omega
          have⟨bC,ad,aI,ff,S,ic,dC,dl⟩:=hyd8 hJ Z ay cT aj hX dB dk;clear dk dB hX aj cT ay Z hJ;go_wp2_with (fail);go_at_call 70;refine ff.out.mono ?_;rintro e U ⟨vx,b,rfl,hb,A,cJ⟩;have d:=qAA ad.out A;clear t0 t1
          cases X with
          | none=>
           obtain rfl:b=false:=hb;have C:Below wr0.heap.size wr0 U/\BestV P2 U u19 (qCP L p.steps (n+1) (first:Int) (i+1)):=⟨d,by rw[S.out];have h:=aI.out.le A;cases Bo<;>exact h⟩;have⟨aH,hv,ae,D,am⟩:=hyd5 A cJ d C s;clear s C d cJ A;go_wp2;go_roundw
           case rel=>exact⟨i+1,by omega,by go_num,D⟩
           case measure=>simp[intOf];omega
          | some l=>
           obtain rfl:b=true:=hb;obtain⟨aa,gx,lx,cx,rfl,ip⟩:=cJ rfl;replace aa:Ints U (.slice (some ⟨gx,0,none⟩) lx cx) l:=aa;obtain rfl:lx=l.length:=aa.len;have aP:=dC.out l rfl
           have gV:P2<gx:=by
            have h8:=ad.out.size;have h9:P2<wr0.heap.size:=gsl aM.out;omega
           have aE:IntsN P2 U (.slice (some ⟨gx,0,none⟩) l.length cx) l:=⟨aa,λg hg=>(by
            have im:gx=g:=by simpa[Value.ownBlock]using hg
            omega)⟩
           have az:BestV P2 U (.slice (some ⟨gx,0,none⟩) l.length cx) (some l):=⟨gx,cx,rfl,aE⟩
           cases Bo with
           | none=>
            have cI:u19= .slice none 0 0:=aI.out;subst cI;have ee:=λW=>Lib.run_eql_slice_nil (P:=Tryz.prog) W 56 3 none 0 0 0 0 Tryz.underlying56;have C:Below wr0.heap.size wr0 U/\BestV P2 U (.slice (some ⟨gx,0,none⟩) l.length cx) (qCP L p.steps (n+1) (first:Int) (i+1)):=⟨d,by rw[S.out];exact az⟩;have⟨aH,ae,D,am,ca,cd,bV,bY⟩:=hyd8 A d C s aa aE az aP;clear aP az aE aa s C d A;go_wp2;go_roundw
            case rel=>exact⟨i+1,by omega,by go_num,D⟩
            case measure=>simp[intOf];omega
           | some bb=>
            obtain⟨gb,aY,rfl,G⟩:=aI.out.le A;have bG:=dl.out bb rfl;have ee:=λW=>Lib.run_eql_slice_nil (P:=Tryz.prog) W 56 3 (some ⟨gb,0,none⟩) bb.length aY 0 0 Tryz.underlying56;have kc:=qMF _ _ l bb U aa G.1 (by omega);obtain⟨F,hF⟩:∃F,qCZ l bb=F:=⟨_,rfl⟩;rw[hF]at kc
            cases F with
            | true=>
             have C:Below wr0.heap.size wr0 U/\BestV P2 U (.slice (some ⟨gx,0,none⟩) l.length cx) (qCP L p.steps (n+1) (first:Int) (i+1)):=⟨d,by rw[S.out];show BestV _ _ _ (if qCZ l bb then some l else some bb);rw[hF];exact az⟩;have⟨aH,ae,D,am,ca,cd,bV,bY⟩:=hyd8 A d C s aa aE az aP;have⟨dW,aB,cR,fN⟩:=hyd4 bG G kc hF;clear hF kc G bG aP az aE aa s C d A;go_wp2_with (fail);go_at_call 71;refine cR.out.mono ?_;rintro e w' ⟨cc,rfl,bk,rfl⟩;have dK:cc<0:=by simpa using bk
             clear bk;go_wp2;go_roundw
             case rel=>exact⟨i+1,by omega,by go_num,D⟩
             case measure=>simp[intOf];omega
            | false=>
             have C:Below wr0.heap.size wr0 U/\BestV P2 U (.slice (some ⟨gb,0,none⟩) bb.length aY) (qCP L p.steps (n+1) (first:Int) (i+1)):=⟨d,by rw[S.out];show BestV _ _ _ (if qCZ l bb then some l else some bb);rw[hF];exact⟨gb,aY,rfl,G⟩⟩;have⟨aH,ae,D,am,ca,cd,bV,bY⟩:=hyd8 A d C s aa aE az aP;have⟨dW,aB,cR,fN⟩:=hyd4 bG G kc hF;clear hF kc G bG aP az aE aa s C d A;go_wp2_with (fail);go_at_call 71;refine cR.out.mono ?_;rintro e w' ⟨cc,rfl,bk,rfl⟩;have dK:¬cc<0:=by simpa using bk
             clear bk;go_wp2;go_roundw
             case rel=>exact⟨i+1,by omega,by go_num,D⟩
             case measure=>simp[intOf];omega
         ·obtain rfl:i=p.steps:=by omega
          obtain⟨Bo,s⟩:∃B,qCP L p.steps (n+1) (first:Int) p.steps=B:=⟨_,rfl⟩;rw[s]at ay
          cases Bo with
          | none=>
           have cI:u19= .slice none 0 0:=ay;subst cI
           have C:∀j,j<first+1->qEJ L p.steps (n+1) (j:Int)=none:=λj hj=>by
            by_cases e:j=first
            ·subst e;rw[qKl];exact s
            ·exact af.out j (by omega)
           have⟨bC,ad,aI,am,D⟩:=hyd5 hJ Z ay s C;clear C s ay Z hJ;go_wp2;go_roundw
           case rel=>exact⟨first+1,by omega,by go_num,ad.out,D.out⟩
           case measure=>simp[intOf];omega
          | some bb=>
           obtain⟨gb,aY,rfl,G⟩:=ay;have ai:=qLy (L:=L) (steps:=p.steps) (n:=n+1) (first:=first) (l:=bb) (by omega) (by omega) cy (by rw[qKl];exact s) (λk h1 h2 j hj=>(by have h:=aD.out (k - 1) (by omega) j hj;rwa[show k - 1+1=k by omega]at h)) af.out;have c7:p.hs.getD ((m:Int)).toNat default=p.hs[m]:=by simp[hm]
           have an:qFQ p ⟨(m:Int),M,J,fl,fi⟩ start=0:=by rw[bP.out _ ai];rfl
           have a2:qDc p ⟨(m:Int),M,J,fl,fi⟩ start=⟨qB4 p.hs[m].ros (first:Int),p.hs[m].rub,start,M,J,bb⟩:=by unfold qDc;rw[if_pos a9.out,aZ.out,ai];show(⟨qB4 (p.hs.getD ((m:Int)).toNat default).ros (first:Int),(p.hs.getD ((m:Int)).toNat default).rub,start,M,J,bb⟩:Prog)=_;rw[c7]
           have cO:=blk Z eW.out;obtain⟨x0,x1⟩:=pc2 cO;have aF:=qLA _ p.hs[m].ros first wr (ey.out.below Z) aK.out.2.1 (by rw[aK.out.1];exact cy);rw[aK.out.1]at aF;have dG:=Z.size;have iM:P2<wr.heap.size:=Nat.lt_of_lt_of_le (gsl aM.out) dG;have⟨bC,ad,am,aB,ei,gT,ao,a3⟩:=hyd8 hJ Z s G ai c7 an a2;have⟨eU,bL⟩:=hyd2 cO aF;clear aF cO a2 an c7 ai G s Z hJ;go_wp2_with (fail);go_at_call 72;refine bL.out.mono ?_;rintro e U ⟨vt,rfl,A,bp⟩;have d:=qAA ad.out A;have bs:=qFf bp;obtain⟨TA,tc,rfl⟩:=qAH bp;have ek:IntsN P2 U (.slice TA p.steps tc) (qB4 p.hs[m].ros (first:Int)):=⟨bs,λg hg=>(by have h:=(bp.lt g hg).1;omega)⟩;have bR:=aB.out.later A;have eS:=blk A eU.out;have eK:=blk d eM.out;have cN:=blk d aM.out;have aJ:=qAA bj.out d;have eh:p.hs[m].rub.length <=1000:=by obtain⟨q1,q2,q3,-⟩:=rubOk_iff.1 aK.out.2.2;omega
           have bN:P2<U.heap.size:=gsl cN;have es:w.heap.size<=P2:=by omega
           have er:=aJ.size;have e8:=eD.out.below d;have fb:∀W,(offRel P2).r U W->Calls Tryz.prog 73 #[.slice Ab BL cb] W λe w'=>∃v',e= .returned v'/\Below W.heap.size W w'/\w'.ownsRow U.heap.size 3 1 v' p.hs[m].rub.length (p.hs[m].rub.map vint):=λW h=>(qP2 _ _ W (eB.out.below (offRel.below h aJ es er)) (by omega)).mono λe w' ⟨v',h1,h2,h3,_⟩=>⟨v',h1,h2,qBq h3 h.2.1⟩;have iN:P1<P2:=by omega
           clear x0 x1 t0 t1;have⟨aH,hd,gp,ae,el,cs,eT,ce⟩:=hyd8 A bp bs d ek bR eS eK;have⟨eQ,cw,hw,fc,ht⟩:=hyd5 cN aJ e8 fb eh;clear eh fb e8 aJ cN eK eS bR ek d bs bp A;go_wp2_with (fail);refine qE2 (R:=leRel) (T:=offRel P2) offRel.of_le 13 12 (by decide) [some 116,some 117,some 118,some 119,some 120,some 121,some 122,some 123,some 124,some 125,some 126,some 127,none,some 7] [[],[],[1],[2],[],[],[5],[],[7],[],[0,3,4,6,8,9],[],[10],[11]]
            [.eq (.slice TA p.steps tc),.eq (.pointer (some ⟨P4,1,none⟩)),.eq (.slice Ab BL cb),TPred.ownI P2 U.heap.size bN p.hs[m].rub,.eq (.int .i64 start),.eq (.pointer (some ⟨P1,1,none⟩)),.eq (.int .i64 M),.eq (.pointer (some ⟨P1,2,none⟩)),.eq (.int .i64 J),.eq (.slice (some ⟨gb,0,none⟩) bb.length aY),TPred.newP P2 U.heap.size bN ⟨qB4 p.hs[m].ros (first:Int),p.hs[m].rub,start,M,J,bb⟩,.eq (.int .i64 0),.any] [] (MPred.boxP P2 U.heap.size bN ⟨qB4 p.hs[m].ros (first:Int),p.hs[m].rub,start,M,J,bb⟩) (λ_ _=>False) (by kernel_rfl) (by kernel_rfl) (by kernel_rfl) (by kernel_rfl) ?_ (λ_ _ _ _ h=>h.elim) ?_
           ·simp only[List.take_succ_cons,List.take_zero];refine qAN (by decide) ⟨rfl,λxv W Y hf Q hK _=>?_⟩ (qAN (by decide) ⟨rfl,λxv W Y hf Q hK _=>?_⟩ (qAN (by decide) ⟨rfl,λxv W Y hf Q hK _=>?_⟩ (qAN (by decide) ⟨rfl,λxv W Y hf Q hK _=>?_⟩ (qAN (by decide) ⟨rfl,λxv W Y hf Q hK _=>?_⟩ (qAN (by decide) ⟨rfl,λxv W Y hf Q hK _=>?_⟩ (qAN (by decide) ⟨rfl,λxv W Y hf Q hK _=>?_⟩ (qAN (by decide) ⟨rfl,λxv W Y hf Q hK _=>?_⟩ (qAN (by decide) ⟨rfl,λxv W Y hf Q hK _=>?_⟩ (qAN (by decide) ⟨rfl,λxv W Y hf Q hK _=>?_⟩ (qAN (by decide) ⟨rfl,λxv W Y hf Q hK _=>?_⟩ (qAN (by decide) ⟨rfl,λxv W Y hf Q hK _=>?_⟩ (qFj (by decide) ⟨rfl,λxv W Y hf hg Q hK _=>?_⟩ qEv))))))))))))
            ·simp only[fA]at hK ⊢;go_wp2;exact hK _ _ lrR rfl trivial
            ·simp only[fA]at hK ⊢;go_wp2;exact hK _ _ lrR rfl trivial
            ·obtain⟨e0,-⟩:=hf;change _=_ at e0;have cc:=(pc2 (offRel.blk Y eT.out (by omega))).2;simp only[fA,e0]at hK ⊢;go_wp2;exact hK _ _ lrR rfl trivial
            ·obtain⟨e0,-⟩:=hf;change _=_ at e0;simp only[fA,e0]at hK ⊢;go_wp2_with (fail);go_at_call 73;refine(fc.out W Y).mono ?_;rintro e w' ⟨v',rfl,y1,y2⟩;have⟨g5,g6⟩:=hyd2 y1 y2;clear y2 y1;go_wp2;exact hK _ _ g5.out g6.out trivial
            ·simp only[fA]at hK ⊢;go_wp2;exact hK _ _ lrR rfl trivial
            ·simp only[fA]at hK ⊢;go_wp2;exact hK _ _ lrR rfl trivial
            ·obtain⟨e0,-⟩:=hf;change _=_ at e0;have cc:=(pc5 (offRel.blk Y ce.out (by omega))).2.1;simp only[fA,e0]at hK ⊢;go_wp2;exact hK _ _ lrR rfl trivial
            ·simp only[fA]at hK ⊢;go_wp2;exact hK _ _ lrR rfl trivial
            ·obtain⟨e0,-⟩:=hf;change _=_ at e0;have cc:=(pc5 (offRel.blk Y ce.out (by omega))).2.2.1;simp only[fA,e0]at hK ⊢;go_wp2;exact hK _ _ lrR rfl trivial
            ·simp only[fA]at hK ⊢;go_wp2;exact hK _ _ lrR rfl trivial
            ·obtain⟨e0,e1,e2,e3,e4,e5,-⟩:=hf;change _=_ at e0 e2 e3 e4 e5;replace e1:W.ownsRow U.heap.size 3 1 (xv 3) p.hs[m].rub.length (p.hs[m].rub.map vint):=e1;obtain⟨a1,c1,q1⟩:=qAH e1;generalize hqn:p.hs[m].rub.length =n1 at q1 e1;rw[q1]at e1;simp only[fA,e0,e2,e3,e4,e5,q1]at hK ⊢;clear q1;go_wp2;exact hK _ _ lrR ⟨_,_,_,rfl,IntsN.off el.out Y,by rw[hqn];exact e1,IntsN.off cs.out Y⟩ trivial
            ·simp only[fA]at hK ⊢;go_wp2;exact hK _ _ lrR rfl trivial
            ·obtain⟨e0,-⟩:=hf;replace e0:NewP P2 U.heap.size W (xv 10) ⟨qB4 p.hs[m].ros (first:Int),p.hs[m].rub,start,M,J,bb⟩:=e0;obtain⟨v0,v1,v5,b9,y0,y1,y5⟩:=e0;obtain⟨a0,c0,q0,-⟩:=id y0.1;obtain⟨a1,c1,q1⟩:=qAH y1;obtain⟨a5,c5,q5,-⟩:=id y5.1;have bJ:NewP P2 U.heap.size W (xv 10) ⟨qB4 p.hs[m].ros (first:Int),p.hs[m].rub,start,M,J,bb⟩:=⟨v0,v1,v5,b9,y0,y1,y5⟩;dsimp only at q0 q1 q5;obtain⟨n0,ea⟩:∃n,(qB4 p.hs[m].ros (first:Int)).length =n:=⟨_,rfl⟩;obtain⟨n1,eb⟩:∃n,p.hs[m].rub.length =n:=⟨_,rfl⟩;obtain⟨n5,ed⟩:∃n,bb.length=n:=⟨_,rfl⟩;rw[ea]at q0;rw[eb]at q1;rw[ed]at q5;clear ea eb ed;subst q0 q1 q5;rw[b9]at bJ;have o:=blk Y eQ.out;have db:=pfrz o 0;have dc:=pfrz o 1;have dd:=pfrz o 2;have de:=pfrz o 3;have df:=pfrz o 4;have dh:=pfrz o 5;obtain⟨x0,x1,x2,x3,x4,x5⟩:=pc6 o;have cH:=qPn W P2 (.slice a0 n0 c0) (.slice a1 n1 c1) (.int .i64 start) (.int .i64 M) (.int .i64 J) (.slice a5 n5 c5);have ef:=NewP.off bJ cH bN;have fd:=qKP o (.slice a0 n0 c0) (.slice a1 n1 c1) (.int .i64 start) (.int .i64 M) (.int .i64 J) (.slice a5 n5 c5);simp only[fA,b9]at hK ⊢;clear b9 y0 y1 y5;have⟨ho,dV,eo,eg,fe⟩:=hyd5 bJ o cH ef fd;clear fd ef cH o bJ;go_wp2;exact hK undef _ eo.out trivial ⟨_,_,_,fe.out,eg.out⟩
           ·intro xv W3 Y hf hO Q' d7 _;have da:xv 11= .int .i64 0:=hf 11 (by decide);obtain⟨v0,v1,v5,k9,bo⟩:=hO;dsimp only at k9;simp only[List.drop_succ_cons,List.drop_zero];rw[show List.range 13=[0,1,2,3,4,5,6,7,8,9,10,11,12]from rfl];simp only[fA,da];clear da hf;have av:=offRel.below Y cw.out es er
            have dO:qGs w.heap.size W3 (.agg #[v0,v1,.int .i64 start,.int .i64 M,.int .i64 J,v5]) ⟨qB4 p.hs[m].ros (first:Int),p.hs[m].rub,start,M,J,bb⟩:=by
             obtain⟨u0,u1,u5,e,a,b,c⟩:=bo;exact⟨u0,u1,u5,e,a.1,qBq b (by omega),c.1⟩
            obtain⟨a0,c0,q0,-⟩:∃a0 c0,v0= .slice a0 (qB4 p.hs[m].ros (first:Int)).length c0/\True:=by
             obtain⟨u0,u1,u5,e,a,b,c⟩:=bo;injection e with e;injection e with e;injection e with e1 e;obtain⟨x,y,z,-⟩:=a.1;exact⟨x,y,e1.trans z,trivial⟩
            have bZ:=bo;obtain⟨d0,d1,d2,d3,d4,d5⟩:=pc6 k9;have⟨ia,eX,aw,dP,gY,gj⟩:=hyd6 Y k9 av dO bo bZ;clear bZ bo dO av k9 Y;go_wp2;refine d7 _ _ ?_;clear d7;go_wp2;exact bodyPost_ret (v:= .tuple #[.agg #[v0,v1,.int .i64 start,.int .i64 M,.int .i64 J,v5],.int .i64 0]) (by simp[results,Tryz.results35,go_sem,d0,d1,d2,d3,d4,d5]) rfl ⟨_,by rw[ao.out],aw.out,by rw[a3.out];exact dP.out⟩
       ·obtain rfl:first=p.steps:=by omega
        have C:∀k,k<n+1->∀j,j<p.steps->qEJ L p.steps (k+1) (j:Int)=none:=λk h2 j hj=>by
         by_cases e:k=n
         ·subst e;exact af.out j hj
         ·exact aD.out k (by omega) j hj
        have D:=hyd1 C;clear C;go_wp2;go_roundw
        case rel=>exact⟨n+1,by omega,by go_num,cq,D⟩
        case measure=>simp[intOf];omega
     ·obtain rfl:n=12:=by omega
      have ai:=qLz (L:=L) (steps:=p.steps) (λk h1 h2 j hj=>by have h:=aD.out (k - 1) (by omega) j hj;rwa[show k - 1+1=k by omega]at h);have an:qFQ p ⟨(m:Int),M,J,fl,fi⟩ start=6:=by rw[bP.out none ai];rfl
      have a2:qDc p ⟨(m:Int),M,J,fl,fi⟩ start=⟨[],[],0,0,0,[]⟩:=by unfold qDc;rw[if_pos a9.out,aZ.out,ai]
      have o:=blk bE.out aM.out;have bi:=qAA bj.out bE.out;obtain⟨y0,y1,y2,y3,y4,y5⟩:=pc6 o;have db:=pfrz o 0;have dc:=pfrz o 1;have dd:=pfrz o 2;have de:=pfrz o 3;have df:=pfrz o 4;have dh:=pfrz o 5;obtain⟨W9,fT,av,k9⟩:∃V,((((((wr.setCell ⟨P2,0,none⟩ (.slice none 0 0)).setCell ⟨P2,1,none⟩ (.slice none 0 0)).setCell ⟨P2,2,none⟩ (.int .i64 0)).setCell ⟨P2,3,none⟩ (.int .i64 0)).setCell ⟨P2,4,none⟩ (.int .i64 0)).setCell ⟨P2,5,none⟩ (.slice none 0 0))=V/\Below w.heap.size w V/\V.heap[P2]? =some (.cells #[.slice none 0 0,.slice none 0 0,.int .i64 0,.int .i64 0,.int .i64 0,.slice none 0 0] 69):=⟨_,rfl,qKm bi (by omega) _ _ _ _ _ _,qKP o _ _ _ _ _ _⟩;obtain⟨d0,d1,d2,d3,d4,d5⟩:=pc6 k9;have⟨aw,eX,ei,ao,a3,dV,fZ⟩:=hyd7 av k9 ai an a2 o bi;clear bi o a2 an ai k9 av;go_wp2;exact bodyPost_ret (v:= .tuple #[.agg #[.slice none 0 0,.slice none 0 0,.int .i64 0,.int .i64 0,.int .i64 0,.slice none 0 0],.int .i64 6]) (by simp[results,Tryz.results35,go_sem,d0,d1,d2,d3,d4,d5]) rfl ⟨_,by rw[ao.out],aw.out,by rw[a3.out];exact qJ5 _ _⟩
 ·have an:qFQ p ⟨fh,M,J,fl,fi⟩ start=E:=by unfold qFQ;rw[a9.out,if_neg ck]
  have a2:qDc p ⟨fh,M,J,fl,fi⟩ start=⟨[],[],0,0,0,[]⟩:=by unfold qDc;rw[if_neg (by rw[a9.out];exact ck)]
  obtain⟨y0,y1,y2,y3,y4,y5⟩:=pc6 I;have db:=pfrz I 0;have dc:=pfrz I 1;have dd:=pfrz I 2;have de:=pfrz I 3;have df:=pfrz I 4;have dh:=pfrz I 5;obtain⟨W9,fT,av,k9⟩:∃V,((((((W3.setCell ⟨P2,0,none⟩ (.slice none 0 0)).setCell ⟨P2,1,none⟩ (.slice none 0 0)).setCell ⟨P2,2,none⟩ (.int .i64 0)).setCell ⟨P2,3,none⟩ (.int .i64 0)).setCell ⟨P2,4,none⟩ (.int .i64 0)).setCell ⟨P2,5,none⟩ (.slice none 0 0))=V/\Below w.heap.size w V/\V.heap[P2]? =some (.cells #[.slice none 0 0,.slice none 0 0,.int .i64 0,.int .i64 0,.int .i64 0,.slice none 0 0] 69):=⟨_,rfl,qKm O (by omega) _ _ _ _ _ _,qKP I _ _ _ _ _ _⟩;obtain⟨d0,d1,d2,d3,d4,d5⟩:=pc6 k9;have⟨aw,eX,ao,a3,dF,dQ,ct,eF⟩:=hyd8 av k9 an a2 aq aO O bv;have⟨eH,eN⟩:=hyd2 aR I;clear I aR bv O aO aq a2 an k9 av;go_wp2;exact bodyPost_ret (v:= .tuple #[.agg #[.slice none 0 0,.slice none 0 0,.int .i64 0,.int .i64 0,.int .i64 0,.slice none 0 0],.int .i64 E]) (by simp[results,Tryz.results35,go_sem,d0,d1,d2,d3,d4,d5]) rfl ⟨_,by rw[ao.out],aw.out,by rw[a3.out];exact qJ5 _ _⟩
end Go.Proofs.YtabfaobakmjiaaaGreat

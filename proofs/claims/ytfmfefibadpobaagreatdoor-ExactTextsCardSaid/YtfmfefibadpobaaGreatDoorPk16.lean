/- exact: fractions: opposite, minus, number. exact: fractions: number. exact: whole numbers that are arguments: isWhole. slices.IndexFunc, slices.ContainsFunc .. -/
import Derived.Test.YtfmfefibadpobaaGreatDoorPk15
import Derived.Defers
import Derived.Recover
namespace Go.Proofs.YtfmfefibadpobaaGreatDoor
set_option maxRecDepth 100000
set_option maxHeartbeats 1000000
open Go.RowKit Go.Shelf
set_option linter.unusedVariables false
set_option linter.unusedSimpArgs false
theorem qE2 (L:Nat->Prop) (p:Nat->Bool) (g:FuncId) (cap:Array Value) (v:Value) (zs:List Nat) (w:World) (hv:ArrL L (gv .u32) w v zs)
  (hg:qAh Tryz.prog g)
  (hf:∀x,x∈zs->Calls Tryz.prog g (#[gv .u32 x]++cap) w (λe w2=>e= .returned (.bool (p x))/\w=w2)):
  Calls Tryz.prog 84 #[v,.func (.func g) #[] cap] w λe w'=>e= .returned (.int .i64 (idx p zs))/\w=w':=by
 obtain⟨A,c,rfl,C,s,_,B⟩:=hv;unfold qAh at hg;unfold maxLen at s;go_enter Tryz.func84,Tryz.ntmps84;go_wp2
 go_loop [8,4] (λi r=>∃k:Nat,k<=zs.length/\i= .int .i64 k/\r= .int .i64 0/\∀j (h:j<zs.length),j<k->p zs[j]=false) (λi _=>zs.length - (intOf i).toNat)
 case atStart=>exact⟨0,Nat.zero_le _,rfl,rfl,λj _ h=>absurd h (by omega)⟩
 case round=>
  obtain⟨k,G,rfl,rfl,z⟩:=hrel;have l:=hyd1 z;clear z
  by_cases f:k<zs.length
  ·obtain⟨b,D,rfl,_,E,y⟩:=B (by omega);have q:=y k f;have d:=List.getElem_mem f;generalize hx:zs[k]=x at q d;have o:=hyd1 hx;clear y B hx
   by_cases m:p x=true
   ·go_wp2_with (first | (refine(hf x d).mono ?_;rintro e w' ⟨rfl,rfl⟩));go_ret;exact⟨qBj (qH1 p zs k f (by rw[o.out];exact m) l.out),rfl⟩
   ·have n:p x=false:=by simpa using m
    go_wp2_with (first | (refine(hf x d).mono ?_;rintro e w' ⟨rfl,rfl⟩))
    go_round
    case rel=>exact⟨k+1,by omega,by go_num,rfl,λj h F=>by
     by_cases t:j=k
     ·subst t;rw[o.out];exact n
     ·exact l.out j h (by omega)⟩
    case measure=>simp[intOf];omega
  ·go_wp2;go_ret;exact⟨qBj (qGs p zs λj h=>l.out j h (by omega)),rfl⟩
theorem qD0 (L:Nat->Prop) (p:Nat->Bool) (g:FuncId) (cap:Array Value) (v:Value) (zs:List Nat) (w:World) (hv:ArrL L (gv .u32) w v zs)
  (hg:qAh Tryz.prog g)
  (hf:∀x,x∈zs->Calls Tryz.prog g (#[gv .u32 x]++cap) w (λe w2=>e= .returned (.bool (p x))/\w=w2)):
  Calls Tryz.prog 58 #[v,.func (.func g) #[] cap] w λe w'=>e= .returned (.bool (zs.any p))/\w=w':=by
 go_enter Tryz.func58,Tryz.ntmps58;go_wp2_with (first | (go_at_call 84;refine(qE2 L p g cap _ zs _ hv hg hf).mono ?_;rintro e w' ⟨rfl,rfl⟩));go_ret;exact⟨qBE (qH2 p zs),rfl⟩
theorem qF9 (g:Nat) (w:World):Calls Tryz.prog 59 #[gv .u32 g] w λe w'=>e= .returned (.bool (decide (1000000000<=g)))/\w=w':=by
 unfold gv;go_enter Tryz.func59,Tryz.ntmps59;go_wp2;go_ret;exact⟨qBE (decide_eq_decide.2 (by omega)),rfl⟩
def isW (neg:Bool) (gs:List Nat):Bool:=decide (gs.length<=40)&& !(gs.any λg=>decide (1000000000<=g))&&(if gs.length=0 then !neg else decide (0<gs.getD (gs.length - 1) 0))
theorem qE3:qAh Tryz.prog 59:=λ_ _=>by kernel_rfl
theorem qH3 {neg:Bool} {gs:List Nat} (h:(gs.any λg=>decide (1000000000<=g))=true):isW neg gs=false:=by
 unfold isW;rw[h,Bool.not_true,Bool.and_false,Bool.false_and]
theorem qFi {neg:Bool} {gs:List Nat} (hl:¬40<gs.length) (h:(gs.any λg=>decide (1000000000<=g))=false) (h0:gs.length=0):isW neg gs= !neg:=by
 unfold isW;rw[h,decide_eq_true (by omega),if_pos h0,Bool.not_false,Bool.and_self,Bool.true_and]
theorem qFP {neg:Bool} {gs:List Nat} {x:Nat} (hl:¬40<gs.length) (h:(gs.any λg=>decide (1000000000<=g))=false) (h0:¬gs.length=0) (hx:gs.getD (gs.length - 1) 0=x):isW neg gs=decide (0<x):=by
 unfold isW;rw[h,decide_eq_true (by omega),if_neg h0,Bool.not_false,Bool.and_self,Bool.true_and,hx]
theorem qH4 {neg:Bool} {gs:List Nat} (h:40<gs.length):isW neg gs=false:=by
 unfold isW;rw[decide_eq_false (by omega),Bool.false_and,Bool.false_and]
theorem qA7 (L:Nat->Prop) (neg:Bool) (gs:List Nat) (v:Value) (w:World) (hL:Up w L) (hv:ArrL L (gv .u32) w v gs):
  Calls Tryz.prog 33 #[.agg #[.bool neg,v]] w λe w'=>e= .returned (.bool (isW neg gs))/\Le w w':=by
 have k:=hv;obtain⟨A,c,rfl,P,J,B,C⟩:=hv;unfold maxLen at J;have m:=λo=>k.le (qAA w o);have l:=qAA w (.cells #[.bool neg,.slice A gs.length c] 24)
 by_cases t:40<gs.length
 ·have s:decide (40<gs.length)=true:=decide_eq_true t;have f:=qH4 (neg:=neg) t;have⟨D,z,p,y,E,i,h⟩:=hyd7 hL k m C B l f;clear f l B C m k hL;go_enter Tryz.func33,Tryz.ntmps33;go_wp2;go_ret;exact⟨qBE h.out.symm,i.out⟩
 ·have s:decide (40<gs.length)=false:=decide_eq_false t;have⟨D,z,p,y,E,i⟩:=hyd6 hL k m C B l;clear l B C m k hL;go_enter Tryz.func33,Tryz.ntmps33;have S:¬40<(gs.length:Int):=by omega
  go_wp2_with (fail);go_at_call 58;refine(qD0 L (λg=>decide (1000000000<=g)) 59 #[] _ gs _ (p.out _) qE3 (λx _=>qF9 x _)).mono ?_;rintro e W ⟨rfl,rfl⟩
  by_cases d:(gs.any λg=>decide (1000000000<=g))=true
  ·have f:=qH3 (neg:=neg) d;rw[d];have⟨h,j⟩:=hyd2 f d;clear d f;go_wp2;go_ret;exact⟨qBE h.out.symm,i.out⟩
  ·have d:(gs.any λg=>decide (1000000000<=g))=false:=by simpa using d
   rw[d]
   by_cases M:gs.length=0
   ·have f:=qFi (neg:=neg) t d M;have q:(gs.length:Int)=0:=by omega
    have F:((gs.length:Int)==0)=true:=beq_iff_eq.2 q;have G:¬0<(gs.length:Int):=by omega
    have H:¬0<gs.length:=by omega
    have⟨h,j⟩:=hyd2 f d;clear d f
    cases neg
    ·go_wp2;go_ret;exact⟨qBE h.out.symm,qAA _ _⟩
    ·go_wp2;go_ret;exact⟨qBE h.out.symm,qAA _ _⟩
   ·obtain⟨b,Q,rfl,-,R,I⟩:=y.out (by omega);have r:=I (gs.length - 1) (by omega);have n:gs.getD (gs.length - 1) 0=gs[gs.length - 1]'(by omega):=by rw[List.getD_eq_getElem?_getD,List.getElem?_eq_getElem (by omega)];rfl
    generalize gs[gs.length - 1]'(by omega)=x at r n;have f:=qFP (neg:=neg) t d M n;have q:¬(gs.length:Int)=0:=by omega
    have F:((gs.length:Int)==0)=false:=beq_eq_false_iff_ne.2 q;have G:0<(gs.length:Int):=by omega
    have H:0<gs.length:=by omega
    unfold gv at r;have⟨h,j,O,N⟩:=hyd4 f d I n;clear n I d f;go_wp2;go_ret;exact⟨qBE (by rw[h.out]),i.out⟩
theorem qAe (e:Int) (w:World):Calls Tryz.prog 23 #[.bool true,.int .i64 e] w λE w'=>E= .returned (.tuple #[])/\w=w':=by
 go_enter Tryz.func23,Tryz.ntmps23;go_wp2;go_end0;exact⟨rfl,rfl⟩
theorem qAY (e:Int) (w:World):Calls Tryz.prog 23 #[.bool false,.int .i64 e] w λE w'=>E= .panicked [{v:= .iface 69 (.agg #[.int .i64 e]),recovered:=false}]/\w=w':=by
 go_enter Tryz.func23,Tryz.ntmps23;go_wp2;exact⟨rfl,rfl,rfl⟩
theorem qA9 {w w':World} {o0 o1:Obj} (h:Le ((w.alloc o0).alloc o1) w'):Le w w'/\w'.heap[w.heap.size]? =some o0/\w'.heap[w.heap.size+1]? =some o1:=by
 obtain⟨c,b⟩:=qAl h;obtain⟨d,f⟩:=qAl c;have g:(w.alloc o0).heap.size =w.heap.size+1:=by unfold World.alloc;show(w.heap.push _).size =_;rw[Array.size_push]
 rw[g]at b;exact⟨d,f,b⟩
theorem qAC {W:World} {X:Nat} {v0 v1 v2 v3:Value} {t:TypeId} (h:W.heap[X]? =some (Obj.cells #[v0,v1,v2,v3] t)):W.cell? ⟨X,0,none⟩=some v0/\W.cell? ⟨X,1,none⟩=some v1/\W.cell? ⟨X,2,none⟩=some v2/\W.cell? ⟨X,3,none⟩=some v3:=
 ⟨cell_of_row W X 0 _ _ _ h,cell_of_row W X 1 _ _ _ h,cell_of_row W X 2 _ _ _ h,cell_of_row W X 3 _ _ _ h⟩
theorem qGy (L:Nat->Prop) (r:Rat) (vn vd:Value) (w:World) (hL:Up w L) (hn:NumL L .u32 w vn (rnum r)) (hd:NumL L .u32 w vd r.den) (hsn:isW (rneg r) (dg (rnum r))=true) (hsd:isW false (dg r.den)=true) (hs:Rsz r 40):
  Calls Tryz.prog 14 #[.agg #[.bool (rneg r),vn,.bool false,vd]] w λe w'=>∃v',e= .returned v'/\Le w w'/\RatL L .u32 w' v' r:=by
 have T:=hn;have P:=hd;obtain⟨A1,c1,rfl⟩:=hn.slice;obtain⟨A2,c2,rfl⟩:=hd.slice;obtain⟨a4,a5⟩:=hs;have ak:0<(dg r.den).length :=dg_length_pos.2 (Nat.ne_of_gt (qGr r));have aa:0<((dg r.den).length :Int):=by omega
 obtain⟨Y,J⟩:∃Y,rneg r=Y:=⟨_,rfl⟩;rw[J]at hsn ⊢;have⟨B,az,ay,o,l,V,U,X⟩:=hyd8 hL hn hd T P hsn hsd J;clear J hsd hsn P T hd hn hL;go_enter Tryz.func14,Tryz.ntmps14;go_wp2_with (fail);go_at_call 33;refine(qA7 L Y (dg (rnum r)) _ _ (B.out.le ((qAA _ _).trans (qAA _ _))) (o.out.le ((qAA _ _).trans (qAA _ _)))).mono ?_;rintro e W ⟨rfl,F⟩;rw[V.out];obtain⟨g,D,O⟩:=qA9 F;obtain⟨a0,a1,a2,a3⟩:=qAC D;have p:=B.out.le g;have Q:=l.out.le g;have⟨ar,H,q,s,C,R⟩:=hyd6 F g D O p Q;clear Q p O D g F;go_wp2_with (fail);go_at_call 33;refine(qA7 L false (dg r.den) _ _ C.out R.out).mono ?_;rintro e W2 ⟨rfl,b⟩;rw[U.out];clear a0 a1 a2 a3;have al:=(gsl q.out);have S:=(gsl s.out);have i:=(Below.block b _ al).trans q.out;have t:=(Below.block b _ S).trans s.out;obtain⟨a0,a1,a2,a3⟩:=qAC i;have y:=Le.trans H.out b;have a6:=Below.size b;have⟨ah,af,j,c⟩:=hyd4 b i t y;clear y t i b;go_wp2_with (fail);go_at_call 23;refine(qAe _ _).mono ?_;rintro e W3 ⟨rfl,rfl⟩;go_wp2_with (fail);go_at_call 34;refine(qDO L (rnum r) r.den _ _ _ (B.out.le (c.out.trans (qAA _ _))) (o.out.le (c.out.trans (qAA _ _))) (l.out.le (c.out.trans (qAA _ _))) (by omega) (by omega)).mono ?_;rintro e W4 ⟨vg,rfl,n,Z⟩;rw[qHg r]at Z
 obtain⟨G,c3,rfl⟩:=Z.slice;obtain⟨h,E⟩:=qAl n;have z:=Le.trans c.out h;have k:=(Below.block h _ (gsl j.out)).trans j.out;obtain⟨z0,z1,z2,g0,g1,g2⟩:=qAF E;obtain⟨y0,y1,y2,k0,k1,k2⟩:=qAF k;have⟨ai,ag,aj,aq,f,d⟩:=hyd6 n Z h E z k;clear k z E h Z n;clear a0 a1 a2 a3;go_wp2_with (fail);go_at_call 32;refine(qDy L 1 _ W4 ag.out).mono ?_;rintro e W5 ⟨rfl,rfl⟩;go_wp2_with (fail);go_at_call 23;refine(qAe _ _).mono ?_;rintro e W6 ⟨rfl,rfl⟩;have A:=λu0 u1 u2=>qBX (u0:=u0) (u1:=u1) (u2:=u2) f.out (show w.heap.size<=w.heap.size+1 by omega);have M:=λu0 u1 u2=>qAF (qAu (u0:=u0) (u1:=u1) (u2:=u2) d.out);have x:=λu0 u1 u2=>And.intro (NumL.box3 (u0:=u0) (u1:=u1) (u2:=u2) (o.out.le f.out) d.out) (NumL.box3 (u0:=u0) (u1:=u1) (u2:=u2) (l.out.le f.out) d.out);have⟨I,N,m⟩:=hyd3 A M x;clear x M A;go_wp2;obtain⟨d0,d1,d2,-⟩:=N.out (.bool Y) (.slice A1 (dg (rnum r)).length c1) (.slice A2 (dg r.den).length c2);refine bodyPost_ret (v:= .agg #[.bool Y,.slice A1 (dg (rnum r)).length c1,.slice A2 (dg r.den).length c2]) (by simp[results,Tryz.results14,go_sem,d0,d1,d2]) rfl ⟨_,rfl,I.out _ _ _,?_⟩;exact⟨_,_,by rw[X.out],(m.out _ _ _).1,(m.out _ _ _).2⟩
set_option maxRecDepth 10000
theorem qGz (L:Nat->Prop) (sn sd:Bool) (gn gd:List Nat) (vn vd:Value) (w:World) (hL:Up w L) (hn:ArrL L (gv .u32) w vn gn) (hd:ArrL L (gv .u32) w vd gd)
  (h:(isW sn gn&&isW sd gd&& !sd&&decide (0<gd.length))=false):
  Calls Tryz.prog 14 #[.agg #[.bool sn,vn,.bool sd,vd]] w λe w'=>e= .panicked [{v:= .iface 69 (.agg #[.int .i64 10]),recovered:=false}]/\Le w w':=by
 have I:=hn;have H:=hd;obtain⟨S,U,rfl,-,-,-,-⟩:=hn;obtain⟨T,V,rfl,-,-,-,-⟩:=hd;have⟨s,t,z⟩:=hyd3 hL I H;clear H I hL
 cases hwn:isW sn gn with
 | false=>
  have⟨r,M⟩:=hyd2 hwn h;clear h hwn;go_enter Tryz.func14,Tryz.ntmps14;go_wp2_with (fail);go_at_call 33;refine(qA7 L sn gn _ _ (s.out.le ((qAA _ _).trans (qAA _ _))) (t.out.le ((qAA _ _).trans (qAA _ _)))).mono ?_;rintro e W ⟨rfl,d⟩;rw[r.out];obtain⟨b,g,n⟩:=qA9 d
  have⟨A,f,l,y⟩:=hyd4 d b g n
  clear n g b d;go_wp2_with (fail);go_at_call 23;refine(qAY _ _).mono ?_;rintro e J ⟨rfl,rfl⟩;go_wp2_with (fail);exact⟨rfl,rfl,f.out⟩
 | true=>
  rw[hwn,Bool.true_and]at h;have r:=hyd1 hwn;clear hwn
  cases hwd:isW sd gd with
  | false=>
   have⟨x,M⟩:=hyd2 hwd h;clear h hwd;go_enter Tryz.func14,Tryz.ntmps14;go_wp2_with (fail);go_at_call 33;refine(qA7 L sn gn _ _ (s.out.le ((qAA _ _).trans (qAA _ _))) (t.out.le ((qAA _ _).trans (qAA _ _)))).mono ?_;rintro e W ⟨rfl,d⟩;rw[r.out];obtain⟨b,g,n⟩:=qA9 d;obtain⟨C,D,E,F⟩:=qAC g;have i:=s.out.le b;have p:=z.out.le b;have⟨A,f,l,y,k,q⟩:=hyd6 d b g n i p;clear p i n g b d;go_wp2_with (fail);go_at_call 33;refine(qA7 L sd gd _ _ k.out q.out).mono ?_;rintro e N ⟨rfl,c⟩;rw[x.out];clear C D E F;have j:=Le.trans f.out c;have⟨B,o⟩:=hyd2 c j;clear j c;go_wp2_with (fail);go_at_call 23;refine(qAY _ _).mono ?_;rintro e J ⟨rfl,rfl⟩;go_wp2_with (fail);exact⟨rfl,rfl,o.out⟩
  | true=>
   rw[hwd,Bool.true_and]at h;have x:=hyd1 hwd;clear hwd
   cases sd with
   | true=>
    have M:=hyd1 h;clear h;go_enter Tryz.func14,Tryz.ntmps14;go_wp2_with (fail);go_at_call 33;refine(qA7 L sn gn _ _ (s.out.le ((qAA _ _).trans (qAA _ _))) (t.out.le ((qAA _ _).trans (qAA _ _)))).mono ?_;rintro e W ⟨rfl,d⟩;rw[r.out];obtain⟨b,g,n⟩:=qA9 d;obtain⟨C,D,E,F⟩:=qAC g;have i:=s.out.le b;have p:=z.out.le b;have⟨A,f,l,y,k,q⟩:=hyd6 d b g n i p;clear p i n g b d;go_wp2_with (fail);go_at_call 33;refine(qA7 L true gd _ _ k.out q.out).mono ?_;rintro e N ⟨rfl,c⟩;rw[x.out];clear C D E F;have m:=(Below.block c _ (gsl l.out)).trans l.out;obtain⟨C,D,E,F⟩:=qAC m;have j:=Le.trans f.out c;have⟨B,o,G⟩:=hyd3 c j m;clear m j c;go_wp2_with (fail);go_at_call 23;refine(qAY _ _).mono ?_;rintro e J ⟨rfl,rfl⟩;go_wp2_with (fail);exact⟨rfl,rfl,o.out⟩
   | false=>
    have O:gd.length=0:=by simpa using h
    have Q:¬0<(gd.length:Int):=by omega
    have R:¬0<gd.length:=by omega
    have⟨M,P⟩:=hyd2 h O;clear O h;go_enter Tryz.func14,Tryz.ntmps14;go_wp2_with (fail);go_at_call 33;refine(qA7 L sn gn _ _ (s.out.le ((qAA _ _).trans (qAA _ _))) (t.out.le ((qAA _ _).trans (qAA _ _)))).mono ?_;rintro e W ⟨rfl,d⟩;rw[r.out];obtain⟨b,g,n⟩:=qA9 d;obtain⟨C,D,E,F⟩:=qAC g;have i:=s.out.le b;have p:=z.out.le b;have⟨A,f,l,y,k,q⟩:=hyd6 d b g n i p;clear p i n g b d;go_wp2_with (fail);go_at_call 33;refine(qA7 L false gd _ _ k.out q.out).mono ?_;rintro e N ⟨rfl,c⟩;rw[x.out];clear C D E F;have m:=(Below.block c _ (gsl l.out)).trans l.out;obtain⟨C,D,E,F⟩:=qAC m;have j:=Le.trans f.out c;have⟨B,o,G⟩:=hyd3 c j m;clear m j c;go_wp2_with (fail);go_at_call 23;refine(qAY _ _).mono ?_;rintro e J ⟨rfl,rfl⟩;go_wp2_with (fail);exact⟨rfl,rfl,o.out⟩
theorem qG6 (L:Nat->Prop) (sr:Bool) (n d:Nat) (vn vd:Value) (w:World) (hL:Up w L) (hn:NumL L .u32 w vn n) (hd:NumL L .u32 w vd d) (hd0:d≠0) (hsn:isW sr (dg n)=true) (hsd:isW false (dg d)=true) (hs1:(dg n).length <=40) (hs2:(dg d).length <=40) (hgcd:Nat.gcd n d≠1):
  Calls Tryz.prog 14 #[.agg #[.bool sr,vn,.bool false,vd]] w λe w'=>e= .panicked [{v:= .iface 69 (.agg #[.int .i64 10]),recovered:=false}]/\Le w w':=by
 have P:=hn;have N:=hd;obtain⟨A1,c1,rfl⟩:=hn.slice;obtain⟨A2,c2,rfl⟩:=hd.slice;have af:0<(dg d).length :=dg_length_pos.2 hd0;have T:0<((dg d).length :Int):=by omega
 have⟨z,an,am,y,s,R,Q,D⟩:=hyd8 hL hn hd P N hsn hsd hgcd;clear hgcd hsd hsn N P hd hn hL;go_enter Tryz.func14,Tryz.ntmps14;go_wp2_with (fail);go_at_call 33;refine(qA7 L sr (dg n) _ _ (z.out.le ((qAA _ _).trans (qAA _ _))) (y.out.le ((qAA _ _).trans (qAA _ _)))).mono ?_;rintro e W ⟨rfl,E⟩;rw[R.out];obtain⟨f,B,I⟩:=qA9 E;obtain⟨U,V,X,Y⟩:=qAC B;have o:=z.out.le f;have J:=s.out.le f;have⟨ak,F,p,q,A,M⟩:=hyd6 E f B I o J;clear J o I B f E;go_wp2_with (fail);go_at_call 33;refine(qA7 L false (dg d) _ _ A.out M.out).mono ?_;rintro e W2 ⟨rfl,b⟩;rw[Q.out];clear U V X Y;have ag:=(gsl p.out);have O:=(gsl q.out);have i:=(Below.block b _ ag).trans p.out;have r:=(Below.block b _ O).trans q.out;obtain⟨U,V,X,Y⟩:=qAC i;have t:=Le.trans F.out b;have ao:=Below.size b;have⟨ac,Z,j,c⟩:=hyd4 b i r t;clear t r i b;go_wp2_with (fail);go_at_call 23;refine(qAe _ _).mono ?_;rintro e W3 ⟨rfl,rfl⟩;go_wp2_with (fail);go_at_call 34;refine(qDO L n d _ _ _ (z.out.le (c.out.trans (qAA _ _))) (y.out.le (c.out.trans (qAA _ _))) (s.out.le (c.out.trans (qAA _ _))) (by omega) (by omega)).mono ?_;rintro e W4 ⟨vg,rfl,l,S⟩;obtain⟨g,m⟩:∃g,Nat.gcd n d=g:=⟨_,rfl⟩;rw[m]at S;have ai:decide (g=1)=false:=decide_eq_false (by rw[<-m];exact D.out)
 obtain⟨G,c3,rfl⟩:=S.slice;obtain⟨h,C⟩:=qAl l;have x:=Le.trans c.out h;have k:=(Below.block h _ (gsl j.out)).trans j.out;obtain⟨z0,z1,z2,g0,g1,g2⟩:=qAF C;obtain⟨y0,y1,y2,k0,k1,k2⟩:=qAF k;have⟨ad,ab,aj,ae,ah,H,aa⟩:=hyd7 l S m h C x k;clear k x C h m S l;clear U V X Y;go_wp2_with (fail);go_at_call 32;refine(qDy L g _ W4 ab.out).mono ?_;rintro e W5 ⟨rfl,rfl⟩;go_wp2_with (fail);go_at_call 23;refine(qAY _ _).mono ?_;rintro e W6 ⟨rfl,rfl⟩;go_wp2_with (fail);exact⟨rfl,rfl,H.out⟩
end Go.Proofs.YtfmfefibadpobaaGreatDoor

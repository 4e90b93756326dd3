/- exact: fractions that are arguments: what they are; in. The reference: groups. reference 1: In. reference 1: fractions: Order. reference 1: fractions: written. .. -/
import Derived.Test.YtabfaobakmjiaaaGreatPy33
import Derived.Test.YtabfaobakmjiaaaGreatPy32
namespace Go.Proofs.YtabfaobakmjiaaaGreat
set_option maxRecDepth 100000
set_option maxHeartbeats 4000000
open Go.RowKit Go.Shelf
set_option linter.unusedVariables false
set_option linter.unusedSimpArgs false
structure FracA where
 sn:Bool
 gn:List Nat
 sd:Bool
 gd:List Nat
def FracA.ok (x:FracA):Bool:=isW x.sn x.gn&&isW x.sd x.gd&& !x.sd&&decide (0<x.gd.length)
open Classical in
noncomputable def FracA.rat? (x:FracA):Option Rat:=if x.ok=true/\Nat.gcd (nv x.gn) (nv x.gd)=1 then some (mkR x.sn (nv x.gn) (nv x.gd))else none
def IsFracA (L:Nat->Prop) (w:World) (v:Value) (x:FracA):Prop:=∃A c B d,v= .agg #[.bool x.sn,.slice A x.gn.length c,.bool x.sd,.slice B x.gd.length d]/\ArrL L (gv .u32) w (.slice A x.gn.length c) x.gn/\ArrL L (gv .u32) w (.slice B x.gd.length d) x.gd
theorem IsFracA.le {L:Nat->Prop} {w W:World} {v:Value} {x:FracA} (h:IsFracA L w v x) (hb:Le w W):IsFracA L W v x:=by
 obtain⟨A,c,B,d,e,b,f⟩:=h;exact⟨A,c,B,d,e,b.le hb,f.le hb⟩
theorem IsFracA.mono {L L2:Nat->Prop} {w:World} {v:Value} {x:FracA} (h:IsFracA L w v x) (hL:∀b,L b->L2 b):IsFracA L2 w v x:=by
 obtain⟨A,c,B,d,e,f,g⟩:=h;exact⟨A,c,B,d,e,f.mono hL,g.mono hL⟩
theorem qEC {s:Bool} {g:List Nat} (h:isW s g=true):Norm g/\g.length<=40/\(nv g=0->s=false):=by
 unfold isW at h;simp only[Bool.and_eq_true,decide_eq_true_eq,Bool.not_eq_true']at h;obtain⟨⟨i,j⟩,d⟩:=h;have k:=qA3
 have f:Low g:=λx l=>by
  rw[k];have:=List.any_eq_false.1 j x l;simpa using this
 have b:g.getLast?≠some 0:=by
  by_cases c:g.length=0
  ·have:g=[]:=List.eq_nil_of_length_eq_zero c;subst this;simp
  ·rw[if_neg c]at d;rw[List.getLast?_eq_getElem?];intro e;rw[List.getD_eq_getElem?_getD,e]at d;simp at d
 refine⟨⟨f,b⟩,i,λm=>?_⟩
 by_cases c:g.length=0
 ·rw[if_pos c]at d;simpa using d
 ·have:=qII b (λe=>c (by rw[e];rfl));omega
theorem qPG {s:Bool} {g:List Nat} (h:isW s g=true):dg (nv g)=g:=qGu (qEC h).1
structure FracA.Val (x:FracA) (r:Rat):Prop where
 neg:rneg r=x.sn
 num:dg (rnum r)=x.gn
 den:dg r.den=x.gd
 pos:x.sd=false
 wn:isW x.sn x.gn=true
 wd:isW false x.gd=true
 sz:Rsz r 40
theorem FracA.val {x:FracA} {r:Rat} (h:x.rat?=some r):x.Val r:=by
 unfold FracA.rat? at h
 split at h
 ·rename_i hc;injection h with h;subst h;obtain⟨b,m⟩:=hc;unfold FracA.ok at b;simp only[Bool.and_eq_true,decide_eq_true_eq,Bool.not_eq_true']at b;obtain⟨⟨⟨j,d⟩,k⟩,l⟩:=b;obtain⟨n,s,t⟩:=qEC j;obtain⟨c,o,v⟩:=qEC d;have f:nv x.gd≠0:=Nat.ne_of_gt (qII c.2 (λe=>by rw[e]at l;simp at l))
  have p:rneg (mkR x.sn (nv x.gn) (nv x.gd))=x.sn:=by
   rw[qIv _ _ _ f]
   by_cases q:nv x.gn=0
   ·rw[t q];rfl
   ·rw[show decide (0<nv x.gn)=true by simp;omega,Bool.and_true]
  have g:rnum (mkR x.sn (nv x.gn) (nv x.gd))=nv x.gn:=by rw[qFd _ _ _ f,m,Nat.div_one]
  have i:(mkR x.sn (nv x.gn) (nv x.gd)).den =nv x.gd:=by rw[qGy _ _ _ f,m,Nat.div_one]
  refine⟨p,by rw[g,qGu n],by rw[i,qGu c],k,j,by rw[k]at d;exact d,?_,?_⟩
  ·rw[g,qGu n];exact s
  ·rw[i,qGu c];exact o
 ·cases h
theorem FracA.bad {x:FracA} (h:x.rat?=none):x.ok=false∨(isW x.sn x.gn=true/\isW false x.gd=true/\x.sd=false/\nv x.gd≠0/\Nat.gcd (nv x.gn) (nv x.gd)≠1):=by
 unfold FracA.rat? at h
 split at h
 ·cases h
 ·rename_i hc
  cases hok:x.ok with
  | false=>exact .inl rfl
  | true=>
   have c:=hok;unfold FracA.ok at c;simp only[Bool.and_eq_true,decide_eq_true_eq,Bool.not_eq_true']at c;obtain⟨⟨⟨i,b⟩,d⟩,f⟩:=c;obtain⟨g,k,l⟩:=qEC b;refine .inr ⟨i,by rw[d]at b;exact b,d,Nat.ne_of_gt (qII g.2 (λe=>by rw[e]at f;simp at f)),λj=>hc ⟨hok,j⟩⟩
theorem qCC (L:Nat->Prop) (x:FracA) (r:Rat) (v:Value) (w:World) (hL:Up w L) (h:IsFracA L w v x) (hr:x.rat?=some r):
  Calls Tryz.prog 137 #[v] w λe w'=>∃v',e= .returned v'/\Le w w'/\RatL L .u32 w' v' r:=by
 obtain⟨A,c,B,d,rfl,b,f⟩:=h;have V:=FracA.val hr;have k:=qQI L r (.slice A x.gn.length c) (.slice B x.gd.length d) w hL (by unfold NumL;rw[V.num];exact b) (by unfold NumL;rw[V.den];exact f) (by rw[V.neg,V.num];exact V.wn) (by rw[V.den];exact V.wd) V.sz;rw[V.neg]at k;rw[V.pos];exact k
theorem qFs (L:Nat->Prop) (x:FracA) (v:Value) (w:World) (hL:Up w L) (h:IsFracA L w v x) (hr:x.rat?=none):
  Calls Tryz.prog 137 #[v] w λe w'=>e= .panicked [{v:= .iface 223 (.agg #[.int .i64 10]),recovered:=false}]/\Le w w':=by
 obtain⟨A,c,B,d,rfl,g,i⟩:=h
 rcases FracA.bad hr with hb| ⟨b1,b2,b3,b4,b5⟩
 ·exact qQJ L x.sn x.sd x.gn x.gd _ _ w hL g i hb
 ·rw[b3];have b:=qPG b1;have f:=qPG b2;exact qPD L x.sn (nv x.gn) (nv x.gd) _ _ w hL (by unfold NumL;rw[b];exact g) (by unfold NumL;rw[f];exact i) b4 (by rw[b];exact b1) (by rw[f];exact b2) (by rw[b];exact(qEC b1).2.1) (by rw[f];exact(qEC b2).2.1) b5
end Go.Proofs.YtabfaobakmjiaaaGreat
namespace Go.Proofs.YtabfaobakmjiaaaGreat
set_option maxRecDepth 100000
set_option maxHeartbeats 4000000
open Go.RowKit Go.Shelf
set_option linter.unusedVariables false
set_option linter.unusedSimpArgs false
theorem qBX (w:World) (o0 o1:Obj):∃W0,(w.alloc o0).alloc o1=W0/\W0.heap.size=w.heap.size+2/\Le w W0/\W0.heap[w.heap.size]? =some o0/\W0.heap[w.heap.size+1]? =some o1:=by
 obtain⟨b,c,d⟩:=qBJ (Le.refl ((w.alloc o0).alloc o1));exact⟨_,rfl,by simp,b,c,d⟩
theorem qDj {W:World} {X:Nat} {v0 v1:Value} {t:TypeId} (h:W.heap[X]? =some (Obj.cells #[v0,v1] t)):W.cell? ⟨X,0,none⟩=some v0/\W.cell? ⟨X,1,none⟩=some v1:=
 ⟨cell_of_row W X 0 _ _ _ h,cell_of_row W X 1 _ _ _ h⟩
theorem qB8 {W:World} {X:Nat} {v0 v1 u0 u1:Value} {t:TypeId} (h:W.heap[X]? =some (Obj.cells #[v0,v1] t)):((W.setCell ⟨X,0,none⟩ u0).setCell ⟨X,1,none⟩ u1).heap[X]? =some (.cells #[u0,u1] t):=by
 simp only[World.setCell,Array.getElem?_modify,h];simp
theorem FracL.le {L:Nat->Prop} {w W:World} {v:Value} {r:Rat} (h:FracL L w v r) (hb:Le w W):FracL L W v r:=by
 obtain⟨A,c,B,d,e,b,f⟩:=h;exact⟨A,c,B,d,e,b.le hb,f.le hb⟩
def bigB (n m:Nat):Bool:=(decide (m<n)&&decide (n<=40))||decide (42<n)
theorem qLW (n m:Nat) (w:World) (hn:(n:Int)<=9223372036854775807) (hm:(m:Int)<=1000):
  Calls Tryz.prog 112 #[.int .i64 n,.int .i64 m] w λe w'=>e= .returned (.bool (bigB n m))/\w=w':=by
 unfold bigB
 by_cases g:m<n
 ·by_cases h:n<=40
  ·have b:(decide (m<n)&&decide (n<=40)||decide (42<n))=true:=by simp[g,h]
   rw[b];clear b;have d:(m:Int)<(n:Int):=by omega
   have i:(n:Int)<=40:=by omega
   go_enter Tryz.func112,Tryz.ntmps112;go_wp2;go_ret;exact⟨rfl,rfl⟩
  ·by_cases c:42<n
   ·have b:(decide (m<n)&&decide (n<=40)||decide (42<n))=true:=by simp[c]
    rw[b];clear b;have d:(m:Int)<(n:Int):=by omega
    have i:¬(n:Int)<=40:=by omega
    have f:42<(n:Int):=by omega
    go_enter Tryz.func112,Tryz.ntmps112;go_wp2;go_ret;exact⟨rfl,rfl⟩
   ·have b:(decide (m<n)&&decide (n<=40)||decide (42<n))=false:=by simp[h,c]
    rw[b];clear b;have d:(m:Int)<(n:Int):=by omega
    have i:¬(n:Int)<=40:=by omega
    have f:¬42<(n:Int):=by omega
    go_enter Tryz.func112,Tryz.ntmps112;go_wp2;go_ret;exact⟨rfl,rfl⟩
 ·by_cases c:42<n
  ·have b:(decide (m<n)&&decide (n<=40)||decide (42<n))=true:=by simp[c]
   rw[b];clear b;have d:¬(m:Int)<(n:Int):=by omega
   have f:42<(n:Int):=by omega
   go_enter Tryz.func112,Tryz.ntmps112;go_wp2;go_ret;exact⟨rfl,rfl⟩
  ·have b:(decide (m<n)&&decide (n<=40)||decide (42<n))=false:=by simp[g,c]
   rw[b];clear b;have d:¬(m:Int)<(n:Int):=by omega
   have f:¬42<(n:Int):=by omega
   go_enter Tryz.func112,Tryz.ntmps112;go_wp2;go_ret;exact⟨rfl,rfl⟩
def qED (x:FracA) (m:Nat):Bool:=bigB x.gn.length m||bigB x.gd.length m
theorem ArrL.lenB {α:Type} {L:Nat->Prop} {f:α->Value} {w:World} {v:Value} {xs:List α} (h:ArrL L f w v xs):(xs.length:Int)<=9223372036854775807:=by
 obtain⟨A,c,g,d,b,-⟩:=h;unfold maxLen at b;omega
theorem qIP (L:Nat->Prop) (x:FracA) (m:Nat) (v:Value) (w:World) (hm:(m:Int)<=1000) (h:IsFracA L w v x):
  Calls Tryz.prog 58 #[v,.int .i64 m] w λe w'=>e= .returned (.bool (qED x m))/\Le w w':=by
 obtain⟨A,c,B,d,rfl,n,o⟩:=h;have E:=n.lenB;have F:=o.lenB;have q:=λW=>qLW x.gn.length m W E hm;have r:=λW=>qLW x.gd.length m W F hm;obtain⟨k,b⟩:∃k,bigB x.gn.length m=k:=⟨_,rfl⟩;obtain⟨l,f⟩:∃l,bigB x.gd.length m=l:=⟨_,rfl⟩;have p:qED x m=(k||l):=by unfold qED;rw[b,f]
 rw[b]at q;rw[f]at r;rw[p];have i:=qAB w (.cells #[.bool x.sn,.slice A x.gn.length c,.bool x.sd,.slice B x.gd.length d] 76);have⟨z,C,j,s,t,y,D,g⟩:=hyd8 n o q r b f p i;clear i p f b r q o n
 cases k
 ·go_enter Tryz.func58,Tryz.ntmps58;go_wp2_with (fail);go_at_call 112;refine(j.out _).mono ?_;rintro e w' ⟨rfl,rfl⟩;go_wp2_with (fail);go_at_call 112;refine(s.out _).mono ?_;rintro e w' ⟨rfl,rfl⟩;go_wp2;go_ret;exact⟨by simp,g.out⟩
 ·go_enter Tryz.func58,Tryz.ntmps58;go_wp2_with (fail);go_at_call 112;refine(j.out _).mono ?_;rintro e w' ⟨rfl,rfl⟩;go_wp2;go_ret;exact⟨by simp,g.out⟩
theorem qRR (w:World) (o0 o1 o2 o3:Obj):∃W0,(((w.alloc o0).alloc o1).alloc o2).alloc o3=W0/\W0.heap.size=w.heap.size+4/\Le w W0/\W0.heap[w.heap.size]? =some o0/\W0.heap[w.heap.size+1]? =some o1/\W0.heap[w.heap.size+1+1]? =some o2/\W0.heap[w.heap.size+1+1+1]? =some o3:=by
 obtain⟨c,d,f,b,g,h,i⟩:=qBy w o0 o1 o2;rw[d];refine⟨_,rfl,by rw[World.size_alloc];omega,b.trans (qAB _ _),?_,?_,?_,?_⟩
 ·exact((qAB c o3).block _ (by omega)).trans g
 ·exact((qAB c o3).block _ (by omega)).trans h
 ·exact((qAB c o3).block _ (by omega)).trans i
 ·have:w.heap.size+1+1+1=c.heap.size:=by omega
  rw[this];unfold World.alloc;exact Array.getElem?_push_size
def qSO (v:Value):Prop:=∃s A n c B m d,v= .agg #[.bool s,.slice A n c,.slice B m d]
theorem RatL.qform {L:Nat->Prop} {k:IntKind} {w:World} {v:Value} {r:Rat} (h:RatL L k w v r):qSO v:=by
 obtain⟨b,d,c,f,rfl,-,-⟩:=h.form;exact⟨_,_,_,_,_,_,_,rfl⟩
open Classical in
noncomputable def okE (b:Bool):Int:=if b then 0 else 10
def qSP (v:Value):Prop:=∃s A n c s' B m d,v= .agg #[.bool s,.slice A n c,.bool s',.slice B m d]
theorem FracL.box4 {L:Nat->Prop} {W:World} {v u0 u1 u2 u3:Value} {b0 b1:Bool} {A1 A2:Option Addr} {n1 c1 n2 c2 B:Nat} {r:Rat} {t:TypeId} (h:FracL L W v r) (hk:W.heap[B]? =some (Obj.cells #[.bool b0,.slice A1 n1 c1,.bool b1,.slice A2 n2 c2] t)):
  FracL L ((((W.setCell ⟨B,0,none⟩ u0).setCell ⟨B,1,none⟩ u1).setCell ⟨B,2,none⟩ u2).setCell ⟨B,3,none⟩ u3) v r:=by
 obtain⟨A,c,b,d,e,f,g⟩:=h;exact⟨A,c,b,d,e,f.box4 hk,g.box4 hk⟩
theorem FracA.sz {x:FracA} {r:Rat} (h:x.rat?=some r):Rsz r 40:=(FracA.val h).sz
theorem Rsz.up {r:Rat} {m n:Nat} (h:Rsz r m) (hmn:m<=n):Rsz r n:=⟨Nat.le_trans h.1 hmn,Nat.le_trans h.2 hmn⟩
end Go.Proofs.YtabfaobakmjiaaaGreat
namespace Go.Proofs.YtabfaobakmjiaaaGreat
set_option maxRecDepth 100000
set_option maxHeartbeats 4000000
open Go.RowKit Go.Shelf
set_option linter.unusedVariables false
set_option linter.unusedSimpArgs false
noncomputable def qIQ (r:Rat):FracA:=⟨rneg r,dg (rnum r),false,dg r.den⟩
def qNj:FracA:=⟨false,[],false,[]⟩
theorem FracL.isA {L:Nat->Prop} {w:World} {v:Value} {r:Rat} (h:FracL L w v r):IsFracA L w v (qIQ r):=by
 obtain⟨A,c,B,d,rfl,b,f⟩:=h;exact⟨A,c,B,d,rfl,b.1,f.1⟩
theorem qJc (L:Nat->Prop) (w:World):IsFracA L w (.agg #[.bool false,.slice none 0 0,.bool false,.slice none 0 0]) qNj:=
 ⟨none,0,none,0,rfl,⟨none,0,rfl,Nat.le_refl _,by decide,by decide,λh=>absurd h (Nat.lt_irrefl 0)⟩,⟨none,0,rfl,Nat.le_refl _,by decide,by decide,λh=>absurd h (Nat.lt_irrefl 0)⟩⟩
theorem qJd {neg:Bool} {n:Nat} (h:(dg n).length <=40) (hz:n=0->neg=false):isW neg (dg n)=true:=by
 unfold isW
 have b:((dg n).any λg=>decide (1000000000<=g))=false:=by
  rw[List.any_eq_false];intro x f;have:=qAj n x f;rw[qA3]at this
  simp;omega
 rw[b,decide_eq_true h]
 by_cases c:(dg n).length =0
 ·have d:n=0:=by rw[<-qAf n,List.eq_nil_of_length_eq_zero c];rfl
  rw[if_pos c,hz d]
  rfl
 ·rw[if_neg c];have:=qF2 (n:=n) (by omega);rw[qBY (by omega)]
  simp;omega
theorem qJe {r:Rat} (h:Rsz r 40):(qIQ r).rat? =some r:=by
 have c:isW (rneg r) (dg (rnum r))=true:=qJd h.1 qNd;have d:isW false (dg r.den)=true:=qJd h.2 λ_=>rfl
 have f:(dg r.den).length ≠0:=λb=>by
  have:r.den=0:=by rw[<-qAf r.den,List.eq_nil_of_length_eq_zero b];rfl
  exact r.den_nz this
 unfold FracA.rat? FracA.ok qIQ;simp only;rw[c,d,qAf,qAf];rw[if_pos ⟨by simp;omega,r.reduced⟩,qLI]
theorem qDG {a b:Rat} {n:Nat} (ha:Rsz a n) (hb:Rsz b n):Rsz (a+b) (n+n+1):=by
 have g:=ha.1;have i:=ha.2;have j:=hb.1;have k:=hb.2;have l:=qAb (rnum a) b.den;have m:=qAb (rnum b) a.den;have o:=qAb a.den b.den;have c:a.den*b.den≠0:=Nat.ne_of_gt (Nat.mul_pos (qAs a) (qAs b))
 by_cases h:rneg a=rneg b
 ·rw[<-qLJ h];obtain⟨f,q2⟩:=qGz (rneg a) (rnum a*b.den+rnum b*a.den) (a.den*b.den) c;have d:=qDP (rnum a*b.den) (rnum b*a.den);exact⟨by omega,by omega⟩
 ·rw[<-qOy h]
  split
  ·obtain⟨f,q2⟩:=qGz (rneg b) (rnum b*a.den - rnum a*b.den) (a.den*b.den) c;have d:(dg (rnum b*a.den - rnum a*b.den)).length <=(dg (rnum b*a.den)).length :=qAU (Nat.sub_le _ _);exact⟨by omega,by omega⟩
  ·obtain⟨f,q2⟩:=qGz (rneg a) (rnum a*b.den - rnum b*a.den) (a.den*b.den) c;have d:(dg (rnum a*b.den - rnum b*a.den)).length <=(dg (rnum a*b.den)).length :=qAU (Nat.sub_le _ _);exact⟨by omega,by omega⟩
theorem qMh {a:Rat} {n:Nat} (ha:Rsz a n):Rsz (-a) n:=by obtain⟨c,q2,b⟩:=qIw a;unfold Rsz;rw[q2,b];exact ha
theorem qRS {a b:Rat} {n:Nat} (ha:Rsz a n) (hb:Rsz b n):Rsz (a - b) (n+n+1):=by rw[Rat.sub_eq_add_neg];exact qDG ha (qMh hb)
theorem qEE {a b:Rat} {n:Nat} (ha:Rsz a n) (hb:Rsz b n):Rsz (a*b) (n+n):=by
 have c:=ha.1;have d:=ha.2;have f:=hb.1;have g:=hb.2;rw[<-qMf];obtain⟨j,q2⟩:=qGz (rneg a != rneg b) (rnum a*rnum b) (a.den*b.den) (Nat.ne_of_gt (Nat.mul_pos (qAs a) (qAs b)));have h:=qAb (rnum a) (rnum b);have i:=qAb a.den b.den;exact⟨by omega,by omega⟩
theorem qJf {r:Rat}:rsgn r=0↔r=0:=by unfold rsgn;rw[Int.sign_eq_zero_iff_zero,Rat.num_eq_zero]
noncomputable def halfR:Rat:=((1:Int):Rat) / ((2:Int):Rat)
theorem qQN:mkR false 1 2=halfR:=by
 have h:=qQM 1 2 (by decide);unfold halfR;rw[<-h]
 rfl
theorem qHQ:rneg halfR=false/\rnum halfR=1/\halfR.den=2:=by
 rw[<-qQN];refine⟨?_,?_,?_⟩
 ·rw[qIv _ _ _ (by decide)];rfl
 ·rw[qFd _ _ _ (by decide)];decide
 ·rw[qGy _ _ _ (by decide)];decide
theorem halfR_sz:Rsz halfR 3:=by
 obtain⟨-,b,c⟩:=qHQ;exact⟨by rw[b];exact qDK (by omega),by rw[c];exact qDK (by omega)⟩
noncomputable def qCM (r:Rat):Nat:=rnum (r+halfR) / (r+halfR).den +(if rneg (r+halfR)=true/\rnum (r+halfR)%(r+halfR).den ≠0 then 1 else 0)
noncomputable def qKR (r:Rat):Int:=if qCM r<=4611686018427387904 then sg (rneg (r+halfR)) (qCM r)else 0
noncomputable def qDX (r:Rat):Bool:=decide (qCM r<=4611686018427387904)
noncomputable def qAV (x:FracA):Int×Int:=
 match x.rat? with
 | some r=>if qDX r then(qKR r,0)else(0,12)
 | none=>(0,10)
def MPred.box (B:Nat) (o:Obj):MPred:=⟨λv w=>∃k,v= .pointer (some ⟨k,0,none⟩)/\B<=k/\w.heap[k]? =some o,λ_ _ _ hb ⟨k,e,h1,h2⟩=>⟨k,e,h1,(hb.block k (gsl h2)).trans h2⟩⟩
set_option maxRecDepth 10000
abbrev flt (c:Int):List PanicEntry:=[{v:= .iface 223 (.agg #[.int .i64 c]),recovered:=false}]
structure TwoG (i j:Nat) (D:Nat->Bool) (x:Nat->Value) (W:World):Prop where
 a:D i=true->∃k,x i= .pointer (some ⟨k,0,none⟩)/\k<W.heap.size
 b:D j=true->∃k,x j= .pointer (some ⟨k,0,none⟩)/\k<W.heap.size
 ne:D i=true->D j=true->x i≠x j
theorem TwoG.quiet {i j n:Nat} {D:Nat->Bool} {x:Nat->Value} {W W':World} {v:Value} (h:TwoG i j D x W) (hs:Le W W') (hi:n≠i) (hj:n≠j):TwoG i j (updB D n) (updV x n v) W':=by
 have c:∀q,q≠n->updB D n q=D q:=λq hq=>by simp[updB,hq]
 have d:∀q,q≠n->updV x n v q=x q:=λq hq=>by simp[updV,hq]
 refine⟨?_,?_,?_⟩
 ·rw[c i (Ne.symm hi),d i (Ne.symm hi)];exact λl=>by obtain⟨k,f,g⟩:=h.a l;exact⟨k,f,Nat.lt_of_lt_of_le g hs.size⟩
 ·rw[c j (Ne.symm hj),d j (Ne.symm hj)];exact λl=>by obtain⟨k,f,g⟩:=h.b l;exact⟨k,f,Nat.lt_of_lt_of_le g hs.size⟩
 ·rw[c i (Ne.symm hi),d i (Ne.symm hi),c j (Ne.symm hj),d j (Ne.symm hj)];exact h.ne
theorem TwoG.left {i j:Nat} {D:Nat->Bool} {x:Nat->Value} {W:World} {o:Obj} (h:TwoG i j D x W) (hij:i≠j):TwoG i j (updB D i) (updV x i (.pointer (some ⟨W.heap.size,0,none⟩))) (W.alloc o):=by
 have g:∀q,q≠i->updB D i q=D q:=λq hq=>by simp[updB,hq]
 have l:∀v q,q≠i->updV x i v q=x q:=λv q hq=>by simp[updV,hq]
 refine⟨λ_=>⟨W.heap.size,by simp[updV],by simp⟩,?_,λ_=>?_⟩
 ·rw[g j (Ne.symm hij),l _ j (Ne.symm hij)];exact λf=>by obtain⟨k,d,m⟩:=h.b f;exact⟨k,d,by rw[World.size_alloc];omega⟩
 ·rw[g j (Ne.symm hij),l _ j (Ne.symm hij)];intro f c;obtain⟨k,d,m⟩:=h.b f;rw[d]at c;simp only[updV,if_true]at c;injection c with c;injection c with c;injection c with c;omega
theorem TwoG.right {i j:Nat} {D:Nat->Bool} {x:Nat->Value} {W:World} {o:Obj} (h:TwoG i j D x W) (hij:i≠j):TwoG i j (updB D j) (updV x j (.pointer (some ⟨W.heap.size,0,none⟩))) (W.alloc o):=by
 have f:∀q,q≠j->updB D j q=D q:=λq hq=>by simp[updB,hq]
 have g:∀v q,q≠j->updV x j v q=x q:=λv q hq=>by simp[updV,hq]
 refine⟨?_,λ_=>⟨W.heap.size,by simp[updV],by simp⟩,?_⟩
 ·rw[f i hij,g _ i hij];exact λd=>by obtain⟨k,c,l⟩:=h.a d;exact⟨k,c,by rw[World.size_alloc];omega⟩
 ·rw[f i hij,g _ i hij];intro d _ b;obtain⟨k,c,l⟩:=h.a d;rw[c]at b;simp only[updV,if_true]at b;injection b with b;injection b with b;injection b with b;omega
theorem TwoG.start {i j:Nat} {D:Nat->Bool} {x:Nat->Value} {W:World} (hi:D i=false) (hj:D j=false):TwoG i j D x W:=
 ⟨λh=>absurd h (by rw[hi];simp),λh=>absurd h (by rw[hj];simp),λh=>absurd h (by rw[hi];simp)⟩
def MPred.ratO (x:FracA):MPred:=⟨λv w=>∃r,x.rat?=some r/\RatL (λ_=>True) .u32 w v r,λ_ _ _ hb ⟨r,e,h⟩=>⟨r,e,h.le hb⟩⟩
def FBox (W:World) (B:Nat) (v:Value) (x:FracA):Prop:=∃A c A' c',v= .agg #[.bool x.sn,.slice A x.gn.length c,.bool x.sd,.slice A' x.gd.length c']/\W.heap[B]? =some (.cells #[.bool x.sn,.slice A x.gn.length c,.bool x.sd,.slice A' x.gd.length c'] 76)/\IsFracA (λ_=>True) W v x
end Go.Proofs.YtabfaobakmjiaaaGreat

/- exact: fractions that are arguments: what they are; in. The reference: groups. reference 1: In. -/
import Derived.Test.YtfmfefibadpobaaGreatDoorPk18
import Derived.Test.YtfmfefibadpobaaGreatDoorPk17
namespace Go.Proofs.YtfmfefibadpobaaGreatDoor
set_option maxRecDepth 100000
set_option maxHeartbeats 4000000
open Go.RowKit Go.Shelf
set_option linter.unusedVariables false
set_option linter.unusedSimpArgs false
structure FracA where
 sn:Bool
 gn:List Nat
 sd:Bool
 gd:List Nat
def FracA.ok (x:FracA):Bool:=isW x.sn x.gn&&isW x.sd x.gd&& !x.sd&&decide (0<x.gd.length)
open Classical in
noncomputable def FracA.rat? (x:FracA):Option Rat:=if x.ok=true/\Nat.gcd (nv x.gn) (nv x.gd)=1 then some (mkR x.sn (nv x.gn) (nv x.gd))else none
def IsFracA (L:Nat->Prop) (w:World) (v:Value) (x:FracA):Prop:=∃A c B d,v= .agg #[.bool x.sn,.slice A x.gn.length c,.bool x.sd,.slice B x.gd.length d]/\ArrL L (gv .u32) w (.slice A x.gn.length c) x.gn/\ArrL L (gv .u32) w (.slice B x.gd.length d) x.gd
theorem IsFracA.le {L:Nat->Prop} {w W:World} {v:Value} {x:FracA} (h:IsFracA L w v x) (hb:Le w W):IsFracA L W v x:=by
 obtain⟨A,c,B,d,e,b,f⟩:=h;exact⟨A,c,B,d,e,b.le hb,f.le hb⟩
theorem IsFracA.mono {L L2:Nat->Prop} {w:World} {v:Value} {x:FracA} (h:IsFracA L w v x) (hL:∀b,L b->L2 b):IsFracA L2 w v x:=by
 obtain⟨A,c,B,d,e,f,g⟩:=h;exact⟨A,c,B,d,e,f.mono hL,g.mono hL⟩
theorem qBU {s:Bool} {g:List Nat} (h:isW s g=true):Norm g/\g.length<=40/\(nv g=0->s=false):=by
 unfold isW at h;simp only[Bool.and_eq_true,decide_eq_true_eq,Bool.not_eq_true']at h;obtain⟨⟨i,j⟩,d⟩:=h;have k:=qAD
 have f:Low g:=λx l=>by
  rw[k];have:=List.any_eq_false.1 j x l;simpa using this
 have b:g.getLast?≠some 0:=by
  by_cases c:g.length=0
  ·have:g=[]:=List.eq_nil_of_length_eq_zero c;subst this;simp
  ·rw[if_neg c]at d;rw[List.getLast?_eq_getElem?];intro e;rw[List.getD_eq_getElem?_getD,e]at d;simp at d
 refine⟨⟨f,b⟩,i,λm=>?_⟩
 by_cases c:g.length=0
 ·rw[if_pos c]at d;simpa using d
 ·have:=qDn b (λe=>c (by rw[e];rfl));omega
theorem qCc {s:Bool} {g:List Nat} (h:isW s g=true):dg (nv g)=g:=qCh (qBU h).1
structure FracA.Val (x:FracA) (r:Rat):Prop where
 neg:rneg r=x.sn
 num:dg (rnum r)=x.gn
 den:dg r.den=x.gd
 pos:x.sd=false
 wn:isW x.sn x.gn=true
 wd:isW false x.gd=true
 sz:Rsz r 40
theorem FracA.val {x:FracA} {r:Rat} (h:x.rat?=some r):x.Val r:=by
 unfold FracA.rat? at h
 split at h
 ·rename_i hc;injection h with h;subst h;obtain⟨b,m⟩:=hc;unfold FracA.ok at b;simp only[Bool.and_eq_true,decide_eq_true_eq,Bool.not_eq_true']at b;obtain⟨⟨⟨j,d⟩,k⟩,l⟩:=b;obtain⟨n,s,t⟩:=qBU j;obtain⟨c,o,v⟩:=qBU d;have f:nv x.gd≠0:=Nat.ne_of_gt (qDn c.2 (λe=>by rw[e]at l;simp at l))
  have p:rneg (mkR x.sn (nv x.gn) (nv x.gd))=x.sn:=by
   rw[qEV _ _ _ f]
   by_cases q:nv x.gn=0
   ·rw[t q];rfl
   ·rw[show decide (0<nv x.gn)=true by simp;omega,Bool.and_true]
  have g:rnum (mkR x.sn (nv x.gn) (nv x.gd))=nv x.gn:=by rw[qC8 _ _ _ f,m,Nat.div_one]
  have i:(mkR x.sn (nv x.gn) (nv x.gd)).den =nv x.gd:=by rw[qDU _ _ _ f,m,Nat.div_one]
  refine⟨p,by rw[g,qCh n],by rw[i,qCh c],k,j,by rw[k]at d;exact d,?_,?_⟩
  ·rw[g,qCh n];exact s
  ·rw[i,qCh c];exact o
 ·cases h
theorem FracA.bad {x:FracA} (h:x.rat?=none):x.ok=false∨(isW x.sn x.gn=true/\isW false x.gd=true/\x.sd=false/\nv x.gd≠0/\Nat.gcd (nv x.gn) (nv x.gd)≠1):=by
 unfold FracA.rat? at h
 split at h
 ·cases h
 ·rename_i hc
  cases hok:x.ok with
  | false=>exact .inl rfl
  | true=>
   have c:=hok;unfold FracA.ok at c;simp only[Bool.and_eq_true,decide_eq_true_eq,Bool.not_eq_true']at c;obtain⟨⟨⟨i,b⟩,d⟩,f⟩:=c;obtain⟨g,k,l⟩:=qBU b;refine .inr ⟨i,by rw[d]at b;exact b,d,Nat.ne_of_gt (qDn g.2 (λe=>by rw[e]at f;simp at f)),λj=>hc ⟨hok,j⟩⟩
theorem qGI (L:Nat->Prop) (x:FracA) (r:Rat) (v:Value) (w:World) (hL:Up w L) (h:IsFracA L w v x) (hr:x.rat?=some r):
  Calls Tryz.prog 14 #[v] w λe w'=>∃v',e= .returned v'/\Le w w'/\RatL L .u32 w' v' r:=by
 obtain⟨A,c,B,d,rfl,b,f⟩:=h;have V:=FracA.val hr;have k:=qGy L r (.slice A x.gn.length c) (.slice B x.gd.length d) w hL (by unfold NumL;rw[V.num];exact b) (by unfold NumL;rw[V.den];exact f) (by rw[V.neg,V.num];exact V.wn) (by rw[V.den];exact V.wd) V.sz;rw[V.neg]at k;rw[V.pos];exact k
theorem qGJ (L:Nat->Prop) (x:FracA) (v:Value) (w:World) (hL:Up w L) (h:IsFracA L w v x) (hr:x.rat?=none):
  Calls Tryz.prog 14 #[v] w λe w'=>e= .panicked [{v:= .iface 69 (.agg #[.int .i64 10]),recovered:=false}]/\Le w w':=by
 obtain⟨A,c,B,d,rfl,g,i⟩:=h
 rcases FracA.bad hr with hb| ⟨b1,b2,b3,b4,b5⟩
 ·exact qGz L x.sn x.sd x.gn x.gd _ _ w hL g i hb
 ·rw[b3];have b:=qCc b1;have f:=qCc b2;exact qG6 L x.sn (nv x.gn) (nv x.gd) _ _ w hL (by unfold NumL;rw[b];exact g) (by unfold NumL;rw[f];exact i) b4 (by rw[b];exact b1) (by rw[f];exact b2) (by rw[b];exact(qBU b1).2.1) (by rw[f];exact(qBU b2).2.1) b5
def qE4 (g:List Nat) (k:Nat):Prop:=∀j,j<k->g.getD j 0<1000000000
def qGK (L:Nat->Prop) (s:Bool) (g:List Nat) (w:World) (e:Ending) (w':World):Prop:=Le w w'/\((isW s g=true/\∃v',e= .returned (.tuple #[v',.bool true])/\NumL L .i64 w' v' (nv g))∨(isW s g=false/\e= .returned (.tuple #[.slice none 0 0,.bool false])))
theorem qFa {g:List Nat} (h:qE4 g g.length):(g.any λx=>decide (1000000000<=x))=false:=by
 rw[List.any_eq_false];intro x c;obtain⟨i,b,rfl⟩:=List.getElem_of_mem c;have:=h i b;rw[qAR b]at this;simpa using this
theorem qD6 (L L2:Nat->Prop) (s:Bool) (g:List Nat) (A:Option Addr) (c:Nat) (w:World) (hL:Up w L) (hg:ArrL L2 (gv .u32) w (.slice A g.length c) g):
  Calls Tryz.prog 35 #[.agg #[.bool s,.slice A g.length c]] w (qGK L s g w):=by
 obtain⟨A,c,hv,g1,g2,gN,g3⟩:=hg;injection hv with q1 q2 q3;subst q1 q3;unfold maxLen at g2
 by_cases hl:40<g.length
 ·have ar:40<(g.length:Int):=by omega
  have q:isW s g=false:=by unfold isW;rw[decide_eq_false (by omega),Bool.false_and,Bool.false_and]
  have H:Le w (w.alloc (.cells #[.bool s,.slice A g.length c] 24)):=qAA _ _;have⟨h,U,al,R,V⟩:=hyd5 q g3 gN H hL;clear hL H gN g3 q;go_enter Tryz.func35,Tryz.ntmps35;go_wp2;go_ret2;exact⟨R.out,.inr ⟨h.out,rfl⟩⟩
 ·have ar:¬40<(g.length:Int):=by omega
  have⟨V,U,al⟩:=hyd3 hL g3 gN;clear gN g3 hL;go_enter Tryz.func35,Tryz.ntmps35;go_wp2;obtain⟨J,M,aa,Z⟩:=al1 w (.cells #[.bool s,.slice A g.length c] 24);rw[M];have⟨a2,v,E⟩:=hyd3 M aa Z;clear Z aa M;go_loopw [4,5] (λo i wr=>∃(k:Nat) (f:List Nat),k<=g.length/\i= .int .i64 k/\f.length=k/\Hid (f=g.take k)/\Hid (qE4 g k)/\Hid (Below J.heap.size J wr)/\Hid (wr.ownsRow J.heap.size 3 1 o f.length (f.map (gv .i64)))) (λ_ i _=>g.length - (intOf i).toNat)
  case atStart=>exact⟨0,[],Nat.zero_le _,rfl,rfl,Lib.hid (by simp),Lib.hid (λj hj=>by omega),Lib.hid (Below.refl _ _),Lib.hid (World.ownsRow_nil _ _ _ _)⟩
  case round=>
   obtain⟨k,f,hk,rfl,a4,P,S,l,d⟩:=hrel;have t:=(Below.block l.out w.heap.size (gsl E.out)).trans E.out;have a0:=cell_of_row _ _ 0 _ _ (0,0) t;have a1:=cell_of_row _ _ 1 _ _ (0,0) t;replace a0:wr.cell? ⟨w.heap.size,0,none⟩=some (.bool s):=a0;replace a1:wr.cell? ⟨w.heap.size,1,none⟩=some (.slice A g.length c):=a1;have hz:J.heap.size<=wr.heap.size:=l.out.size;have ap:=hyd1 t;clear t
   by_cases N:k<g.length
   ·obtain⟨b,av,rfl,-,ao,hc⟩:=U.out (by omega);have B:=(Below.cell (v.out.trans l.out) (p:=⟨b,av+k,none⟩) ao).trans (hc k N);obtain⟨x,r⟩:∃x,g[k]=x:=⟨_,rfl⟩;have z:g.getD k 0=x:=by rw[qAR N,r]
    rw[r]at B;unfold gv at B;clear hc
    by_cases X:1000000000<=x
    ·have q:isW s g=false:=by
      unfold isW
      have:(g.any λx=>decide (1000000000<=x))=true:=by
       rw[List.any_eq_true];exact⟨x,by rw[<-r];exact List.getElem_mem _,by simpa using X⟩
      rw[this,Bool.not_true,Bool.and_false,Bool.false_and]
     have am:(1000000000:Int)<=(x:Int):=by omega
     have⟨h,T,ag⟩:=hyd3 q r z;clear z r q;go_wp2;go_ret2;exact⟨v.out.trans l.out,.inr ⟨h.out,rfl⟩⟩
    ·have am:¬(1000000000:Int)<=(x:Int):=by omega
     have ab:Hid (f++[x]=g.take (k+1)):=Lib.hid (by rw[P.out,List.take_succ_eq_append_getElem N,r])
     have ad:Hid (qE4 g (k+1)):=Lib.hid (λj hj=>by
      by_cases aq:j=k
      ·subst aq;rw[z];omega
      ·exact S.out j (by omega))
     have aG:(x:Int)<=999999999:=by omega
     have⟨T,ag⟩:=hyd2 r z;clear z r;go_wp2_with (at_builtin;go_must (refine qAV rfl (.tmp 24) (.tmp 31) 47 rfl J.heap.size 3 .i64 8 qBL (by decide) _ f rfl (d.out.alloc _) _ [x] rfl (qBP _ _ _ _) (by simp;omega) (by simp;omega) ?_);intro v' w' r1 r2 r3 r4);have an:Hid (Below J.heap.size J w'):=Lib.hid ((l.out.alloc (by omega) _).trans r2);have⟨aw,aH,aI,aJ⟩:=hyd4 r1 r2 r3 r4;clear r4 r3 r2 r1;go_wp2;go_roundw
     case rel=>exact⟨k+1,f++[x],by omega,by go_num,by simp;omega,ab,ad,an,aw⟩
     case measure=>simp[intOf];omega
   ·obtain rfl:k=g.length:=by omega
    have ac:f=g:=by rw[P.out,List.take_length]
    have D:=qFa S.out;have F:=v.out.trans l.out;subst ac;have hn:ArrL L (gv .i64) wr _ f:=ArrL.of_own d.out (λb hb=>V.out b (Nat.le_trans v.out.size hb));clear P S;have⟨O,n,y⟩:=hyd3 hn F D;clear D F hn
    by_cases h0:f.length=0
    ·have q:isW s f= !s:=qFi (by omega) y.out h0;obtain⟨Ao,co,eo,-⟩:=O.out;subst eo;obtain rfl:f=[]:=List.eq_nil_of_length_eq_zero h0;clear h0
     cases s
     ·have h:=hyd1 q;clear q;go_wp2;go_ret2;exact⟨n.out,.inl ⟨h.out,_,rfl,by unfold NumL;rw[qCc h.out];exact O.out⟩⟩
     ·have h:=hyd1 q;clear q;go_wp2;go_ret2;exact⟨n.out,.inr ⟨h.out,rfl⟩⟩
    ·obtain⟨m,hm⟩:∃m,f.length=m+1:=⟨f.length - 1,by omega⟩;obtain⟨x,r⟩:∃x,f.getD m 0=x:=⟨_,rfl⟩;have q:isW s f=decide (0<x):=qFP (by omega) y.out h0 (by rw[show f.length - 1=m by omega];exact r);obtain⟨G,C,eG,-,-,-,-⟩:=qB3 d.out (by omega);subst eG;have B:=qA8 d.out rfl (k:=m) (x:=x) (by rw[List.getElem?_eq_getElem (by omega),<-r,qAR (by omega)]);unfold gv at B;have aE:(f.length:Int) - 1=(m:Int):=by omega
     have h2:0<(f.length:Int):=by omega
     have h3:¬(f.length:Int)=0:=by omega
     have h4:m<f.length:=by omega
     have h5:((f.length:Int)==0)=false:=beq_eq_false_iff_ne.2 (by omega)
     by_cases af:x=0
     ·subst af;have⟨h,T,au,Q,Y⟩:=hyd5 q r hm d l;clear l d hm r q;go_wp2;go_ret2;exact⟨n.out,.inr ⟨h.out,rfl⟩⟩
     ·have h6:((x:Int)==0)=false:=beq_eq_false_iff_ne.2 (by omega);have h7:¬(x:Int)=0:=by omega
      have ae:isW s f=true:=by rw[q];simpa using Nat.pos_of_ne_zero af
      have⟨h,I,T,au,Q,Y⟩:=hyd6 q ae r hm d l;clear l d hm r ae q;go_wp2;go_ret2;exact⟨n.out,.inl ⟨I.out,_,rfl,by unfold NumL;rw[qCc I.out];exact O.out⟩⟩
end Go.Proofs.YtfmfefibadpobaaGreatDoor
namespace Go.Proofs.YtfmfefibadpobaaGreatDoor
set_option maxRecDepth 100000
set_option maxHeartbeats 4000000
open Go.RowKit Go.Shelf
set_option linter.unusedVariables false
set_option linter.unusedSimpArgs false
def qBY:Value:= .agg #[.bool false,.slice none 0 0,.slice none 0 0]
def qG7 (L:Nat->Prop) (x:FracA) (w:World) (e:Ending) (w':World):Prop:=Le w w'/\((∃r,x.rat?=some r/\∃v,e= .returned (.tuple #[v,.bool true])/\RatL L .i64 w' v r)∨(x.rat?=none/\e= .returned (.tuple #[qBY,.bool false])))
theorem FracA.not_ok {x:FracA} (h:x.ok=false):x.rat?=none:=by
 unfold FracA.rat?;rw[if_neg (by rw[h];simp)]
theorem FracA.not_gcd {x:FracA} (h:Nat.gcd (nv x.gn) (nv x.gd)≠1):x.rat?=none:=by
 unfold FracA.rat?;rw[if_neg λb=>h b.2]
theorem FracA.is_rat {x:FracA} (h1:isW x.sn x.gn=true) (h2:isW x.sd x.gd=true) (h3:x.sd=false) (h4:x.gd.length≠0) (hg:Nat.gcd (nv x.gn) (nv x.gd)=1):∃r,x.rat?=some r:=by
 refine⟨mkR x.sn (nv x.gn) (nv x.gd),?_⟩;unfold FracA.rat?;rw[if_pos ⟨by unfold FracA.ok;rw[h1,h2,h3];simp;omega,hg⟩]
theorem qH5 (L L2:Nat->Prop) (x:FracA) (v:Value) (w:World) (hL:Up w L) (h:IsFracA L2 w v x):
  Calls Tryz.prog 15 #[v] w (qG7 L x w):=by
 obtain⟨A,c,B,d,rfl,h1,h2⟩:=h;have⟨aU,aV,aB⟩:=hyd3 h1 h2 hL;clear hL h2 h1;go_enter Tryz.func15,Tryz.ntmps15;go_wp2_with (fail);go_at_call 35;refine(qD6 L L2 x.sn x.gn A c _ (aB.out.le ((qAA _ _).trans (qAA _ _))) (aU.out.le ((qAA _ _).trans (qAA _ _)))).mono ?_;rintro e W ⟨aG,bd⟩;obtain⟨H,ak,aD⟩:=qA9 aG;have bg:=(gsl ak);have bh:=(gsl aD);obtain⟨a0,a1,a2,a3⟩:=qAC ak
 have aI:∃v1 b1,e= .returned (.tuple #[v1,.bool b1])/\isW x.sn x.gn=b1/\(b1=true->NumL L .i64 W v1 (nv x.gn))/\∃A c m,v1= .slice A m c:=by
  rcases bd with⟨k1,v1,rfl,k2⟩| ⟨k1,rfl⟩
  ·obtain⟨A9,c9,e9⟩:=k2.slice;exact⟨v1,true,rfl,k1,λ_=>k2,A9,c9,_,e9⟩
  ·exact⟨_,false,rfl,k1,⟨nofun,none,0,0,rfl⟩⟩
 obtain⟨v1,b1,rfl,bl,k,A1,c1,m1,rfl⟩:=aI;clear bd;have aW:=aV.out.le H;have bc:=aB.out.le H;have⟨bf,ad,aw,av,M,p,ap,aq⟩:=hyd8 aG H ak aD bl k aW bc;clear bc aW k bl aD ak H aG;go_wp2_with (fail);go_at_call 35;refine(qD6 L L2 x.sd x.gd B d _ aq.out ap.out).mono ?_;rintro e W2 ⟨s,be⟩
 have aJ:∃v2 b2,e= .returned (.tuple #[v2,.bool b2])/\isW x.sd x.gd=b2/\(b2=true->NumL L .i64 W2 v2 (nv x.gd))/\∃A c m,v2= .slice A m c:=by
  rcases be with⟨k1,v1,rfl,k2⟩| ⟨k1,rfl⟩
  ·obtain⟨A9,c9,e9⟩:=k2.slice;exact⟨v1,true,rfl,k1,λ_=>k2,A9,c9,_,e9⟩
  ·exact⟨_,false,rfl,k1,⟨nofun,none,0,0,rfl⟩⟩
 obtain⟨v2,b2,rfl,bm,y,A2,c2,m2,rfl⟩:=aJ;have Y:=(Below.block s _ bg).trans aw.out;have X:=(Below.block s _ bh).trans av.out;have I:=ad.out.trans s;have ar:=aB.out.le I;have az:b1=true->NumL L .i64 W2 (.slice A1 m1 c1) (nv x.gn):=λh=>(p.out h).le s;clear a0 a1 a2 a3 be p aq ap ad aw av bf aU aV;obtain⟨a0,a1,a2,a3⟩:=qAC Y;obtain⟨z0,z1,z2,g0,g1,g2⟩:=qAF X;have bP:=Below.size s;have au:x.rat?=none->qG7 L x w (.returned (.tuple #[qBY,.bool false])) W2:=λh=>⟨I,.inr ⟨h,rfl⟩⟩;have⟨bA,Z,F,ae,T,N,J,ag⟩:=hyd8 s Y X I ar bm y az;have aC:=hyd1 au;clear au az y bm ar I X Y s;have U:=λu0 u1 u2=>qAF (qAu (u0:=u0) (u1:=u1) (u2:=u2) F.out);have E:=λu0 u1 u2=>qBX (u0:=u0) (u1:=u1) (u2:=u2) ae.out (show w.heap.size<=w.heap.size+1 by omega);have⟨n,b⟩:=hyd2 U E;clear E U;clear aC
 cases b1 with
 | false=>
  have f:x.rat?=none:=FracA.not_ok (by unfold FracA.ok;rw[M.out];simp);have i:=hyd1 f;clear f
  cases b2
  all_goals
   go_wp2;obtain⟨Q,R,S,-⟩:=n.out (.bool false) (.slice none 0 0) (.slice none 0 0);exact bodyPost_ret (v:= .tuple #[qBY,.bool false]) (by simp[results,Tryz.results15,go_sem,Q,R,S,qBY]) rfl ⟨b.out _ _ _,.inr ⟨i.out,rfl⟩⟩
 | true=>
  have k:=ag.out rfl;have em:m1=(dg (nv x.gn)).length :=ArrL.len k
  cases b2 with
  | false=>
   have f:x.rat?=none:=FracA.not_ok (by unfold FracA.ok;rw[N.out];simp);have⟨i,p,a9⟩:=hyd3 f k em;clear em k f;go_wp2;obtain⟨Q,R,S,-⟩:=n.out (.bool false) (.slice none 0 0) (.slice none 0 0);exact bodyPost_ret (v:= .tuple #[qBY,.bool false]) (by simp[results,Tryz.results15,go_sem,Q,R,S,qBY]) rfl ⟨b.out _ _ _,.inr ⟨i.out,rfl⟩⟩
  | true=>
   have y:=J.out rfl;have aA:m2=(dg (nv x.gd)).length :=ArrL.len y;have eg:(dg (nv x.gn))=x.gn:=qCc M.out;have q:(dg (nv x.gd))=x.gd:=qCc N.out;have l1:(dg (nv x.gn)).length <=40:=by rw[eg];exact(qBU M.out).2.1
   have l2:(dg (nv x.gd)).length <=40:=by rw[q];exact(qBU N.out).2.1
   have O:∀r,x.rat?=some r->rneg r=x.sn/\rnum r=nv x.gn/\r.den=nv x.gd:=λr hr=>by
    have V:=FracA.val hr;exact⟨V.neg,dg_inj.1 (by rw[V.num,eg]),dg_inj.1 (by rw[V.den,q])⟩
   have P:x.sd=false->x.gd.length≠0->Nat.gcd (nv x.gn) (nv x.gd)=1->∃r,x.rat?=some r:=λh3 h4 h5=>FracA.is_rat M.out N.out h3 h4 h5;have l:x.sd=true->x.rat?=none:=λh=>FracA.not_ok (by unfold FracA.ok;rw[h];simp);have j:x.gd.length=0->x.rat?=none:=λh=>FracA.not_ok (by unfold FracA.ok;rw[h];simp);have b0:m2=x.gd.length:=by rw[aA,q]
   rw[em]at k ⊢;rw[aA]at y;clear aA ag J;subst b0;obtain⟨sd,D⟩:∃sd,x.sd=sd:=⟨_,rfl⟩;rw[D]at a2 ⊢
   cases sd with
   | true=>
    have f:x.rat?=none:=l D;have⟨i,p,a9,J,aT,ao,ac,bj⟩:=hyd8 f k em y eg q O P;have⟨am,al,a6⟩:=hyd3 l j D;clear D j l P O q eg y em k f;go_wp2;obtain⟨Q,R,S,-⟩:=n.out (.bool false) (.slice none 0 0) (.slice none 0 0);exact bodyPost_ret (v:= .tuple #[qBY,.bool false]) (by simp[results,Tryz.results15,go_sem,Q,R,S,qBY]) rfl ⟨b.out _ _ _,.inr ⟨i.out,rfl⟩⟩
   | false=>
    by_cases h0:x.gd.length=0
    ·have f:x.rat?=none:=j h0;have h1:(x.gd.length:Int)=0:=by omega
     have h2:((x.gd.length:Int)==0)=true:=by rw[h1];rfl
     have⟨i,p,a9,J,aT,ao,ac,bj⟩:=hyd8 f k em y eg q O P;have⟨am,al,a6⟩:=hyd3 l j D;clear D j l P O q eg y em k f;rw[h0]at a3 h2 ⊢;clear h0 h1 h2;go_wp2;obtain⟨Q,R,S,-⟩:=n.out (.bool false) (.slice none 0 0) (.slice none 0 0);exact bodyPost_ret (v:= .tuple #[qBY,.bool false]) (by simp[results,Tryz.results15,go_sem,Q,R,S,qBY]) rfl ⟨b.out _ _ _,.inr ⟨i.out,rfl⟩⟩
    ·have h1:¬(x.gd.length:Int)=0:=by omega
     have h2:((x.gd.length:Int)==0)=false:=beq_eq_false_iff_ne.2 (by omega);obtain⟨G,hG⟩:∃G,Nat.gcd (nv x.gn) (nv x.gd)=G:=⟨_,rfl⟩;have aE:nv x.gd≠0:=λe=>h0 (by rw[<-q,e,qAI];rfl);have aZ:0<G:=by rw[<-hG];exact Nat.gcd_pos_of_pos_right _ (Nat.pos_of_ne_zero aE)
     have ay:G≠1->x.rat?=none:=λh=>FracA.not_gcd (by rw[hG];exact h);have a7:G=1->∃r,x.rat?=some r:=λh=>P D h0 (by rw[hG];exact h);have a4:NumL L .i64 W2 (.slice A2 x.gd.length c2) (nv x.gd):=by have h:=y;rw[q]at h;exact h
     clear P l j h0 y;have⟨p,a9,ah,aT,ao,ac,a6,b6⟩:=hyd8 k em a4 eg q O D hG;have⟨bO,bM,aF,aK⟩:=hyd4 aE aZ ay a7;clear a7 ay aZ aE hG D O q eg a4 em k;go_wp2_with (fail);go_at_call 37;refine(qD4 L (nv x.gn) (nv x.gd) _ _ W2 T.out p.out ah.out (by omega) (by omega)).mono ?_;rintro e W3 ⟨v3,rfl,af,hg⟩;rw[b6.out]at hg;obtain⟨A3,c3,rfl⟩:=hg.slice;have ba:=T.out.le af;have⟨aH,b9,bb⟩:=hyd3 af hg ba;clear ba hg af;go_wp2_with (fail);go_at_call 36;refine(qCC L L G 1 _ _ _ (b9.out.le (qAA _ _)) (qAt (g:=1) bb.out (by omega) qCX _)).mono ?_;rintro e w4 ⟨rfl,nd,rfl⟩;obtain⟨W5,aj⟩:∃W5,(W3.alloc (.cells #[.int .i64 ((1:Nat):Int)] 3)).drewN nd=W5:=⟨_,rfl⟩;have t:Le W2 W5:=by rw[<-aj];exact aH.out.trans ((qAA _ _).trans (Le.quiet nd))
     rw[aj];clear a0 a1 a2 a3 z0 z1 z2 g0 g1 g2 n b;have aa:=(Below.block t _ (gsl Z.out)).trans Z.out;have z:=(Below.block t _ (gsl F.out)).trans F.out;obtain⟨a0,a1,a2,a3⟩:=qAC aa;obtain⟨z0,z1,z2,g0,g1,g2⟩:=qAF z;have U:=λu0 u1 u2=>qAF (qAu (u0:=u0) (u1:=u1) (u2:=u2) z);have E:=λu0 u1 u2=>qBX (u0:=u0) (u1:=u1) (u2:=u2) (ae.out.trans t) (show w.heap.size<=w.heap.size+1 by omega);have ax:=λu0 u1 u2=>And.intro (NumL.box3 (u0:=u0) (u1:=u1) (u2:=u2) (p.out.le t) z) (NumL.box3 (u0:=u0) (u1:=u1) (u2:=u2) (ah.out.le t) z);obtain⟨o,ho⟩:∃o,ordI G 1=o:=⟨_,rfl⟩;rw[ho];have⟨bN,bB,b8,b7,n,b,ab⟩:=hyd7 aj t aa z U E ax;clear ax E U z aa t aj
     by_cases C:G=1
     ·obtain⟨r,hr⟩:=aK.out C;obtain⟨f1,f2,f3⟩:=ac.out r hr;have bi:o=0:=by rw[<-ho];exact ordI_zero.2 C
      subst bi;have⟨bE,b3,b4,b5,aY,bC⟩:=hyd6 hr f1 f2 f3 C ho;clear ho C f3 f2 f1 hr;go_wp2;obtain⟨Q,R,S,-⟩:=n.out (.bool x.sn) (.slice A1 (dg (nv x.gn)).length c1) (.slice A2 x.gd.length c2);refine bodyPost_ret (v:= .tuple #[.agg #[.bool x.sn,.slice A1 (dg (nv x.gn)).length c1,.slice A2 x.gd.length c2],.bool true]) (by simp[results,Tryz.results15,go_sem,Q,R,S]) rfl ⟨b.out _ _ _,.inl ⟨r,bE.out,_,rfl,_,_,by rw[b3.out],?_,?_⟩⟩
      ·rw[b4.out];exact(ab.out _ _ _).1
      ·rw[b5.out];exact(ab.out _ _ _).2
     ·have f:=aF.out C;have bi:(o==0)=false:=beq_eq_false_iff_ne.2 (λh=>C (ordI_zero.1 (ho.trans h)));have bD:¬o=0:=λh=>C (ordI_zero.1 (ho.trans h));have ca:(o != 0)=true:=by simpa using bD
      have⟨i,bC,aY⟩:=hyd3 f ho C;clear C ho f;go_wp2;obtain⟨Q,R,S,-⟩:=n.out (.bool false) (.slice none 0 0) (.slice none 0 0);exact bodyPost_ret (v:= .tuple #[qBY,.bool false]) (by simp[results,Tryz.results15,go_sem,Q,R,S,qBY]) rfl ⟨b.out _ _ _,.inr ⟨i.out,rfl⟩⟩
end Go.Proofs.YtfmfefibadpobaaGreatDoor

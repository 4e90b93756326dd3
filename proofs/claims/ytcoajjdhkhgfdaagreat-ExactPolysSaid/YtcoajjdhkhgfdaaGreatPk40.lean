/- Polynomials, the reference: InPoly, OutPoly. -/
import Derived.Test.YtcoajjdhkhgfdaaGreatPk39
namespace Go.Proofs.YtcoajjdhkhgfdaaGreat
set_option maxRecDepth 100000
set_option maxHeartbeats 1000000
open Go.RowKit Go.Shelf
set_option linter.unusedVariables false
set_option linter.unusedSimpArgs false
def IsQ (B:Nat) (w:World) (v:Value) (c:Int):Except Int (List Rat)->Prop
 | .ok ys=>RowE (ratK .i64) 93 B w v ys/\c=0
 | .error z=>v= .slice none 0 0/\c=z
def qMS (res:Except Int (List Rat)) (w:World) (e:Ending) (w':World):Prop:=Le w w'/\∃v c,e= .returned (.tuple #[v,.int .i64 c])/\IsQ w.heap.size w' v c res
def topE:Except Int (List Rat)->Except Int (List Rat)
 | .error z=> .error z
 | .ok rs=>if qAT rs then .ok rs else .error 10
theorem qFE {l:List FracA} (h:¬65<l.length):qAC l=topE (mapE inE l):=by
 unfold qAC topE;rw[if_neg h]
 cases mapE inE l<;>rfl
theorem qLf {x:FracA} {z:Int} (h:inE x= .error z):z=10:=by
 unfold inE at h
 cases hx:x.rat? with
 | some r=>rw[hx]at h;cases h
 | none=>rw[hx]at h;injection h with h;exact h.symm
theorem qFF:∀{l:List FracA} {z:Int},mapE inE l= .error z->z=10
 | [],z,h=>by simp[mapE]at h
 | x::l,z,h=>by
  cases hx:inE x with
  | error z1=>simp[mapE,hx]at h;rw[<-h];exact qLf hx
  | ok y=>
   cases hl:mapE inE l with
   | error z1=>simp[mapE,hx,hl]at h;rw[<-h];exact qFF hl
   | ok ys=>simp[mapE,hx,hl]at h
theorem qDS {W4:World} {s2:Bool} {A2 B2:Option Addr} {n2 c2 m2 d2:Nat} {t:TypeId} {x:Nat} (k4:W4.heap[x]? =some (.cells #[.bool s2,.slice A2 n2 c2,.slice B2 m2 d2] t)):∀(i:Nat) (u:Value),([.bool s2,.slice A2 n2 c2,.slice B2 m2 d2]:List Value)[i]? =some u->W4.cell? ⟨x,i,none⟩=some u:=λi u hu=>by
 have hi4:i<3:=(List.getElem?_eq_some_iff.1 hu).1
 match i,hi4 with
 | 0,_=>have z:=cell_of_row W4 x 0 _ _ _ k4;rw[z];simpa using hu
 | 1,_=>have z:=cell_of_row W4 x 1 _ _ _ k4;rw[z];simpa using hu
 | 2,_=>have z:=cell_of_row W4 x 2 _ _ _ k4;rw[z];simpa using hu
theorem qCu (v:Value) (l:List FracA) (w:World) (hv:SeqE inK w v l):
  Calls Tryz.prog 44 #[v] w (qMS (qAC l) w):=by
 have G:=qEF;obtain⟨A,c,rfl,aY,bv,-⟩:=hv.slice;unfold maxLen at bv;obtain⟨n,hn⟩:∃n,l.length=n:=⟨_,rfl⟩
 by_cases h:65<l.length
 ·have e1:qAC l= .error 4:=by unfold qAC;rw[if_pos h]
  rw[e1];rw[hn]at h aY hv ⊢;have h2:(65:Int)<(n:Int):=by omega
  have⟨bh,ax,aj,H⟩:=hyd4 hv e1 hn G;clear G hn e1 hv;go_enter Tryz.func44,Tryz.ntmps44;go_wp2;go_ret2;exact⟨Le.refl _,_,_,rfl,rfl,rfl⟩
 ·have e1:=qFE h;obtain⟨res,al⟩:∃r,qAC l=r:=⟨_,rfl⟩;rw[al]at e1 ⊢;rw[hn]at h aY hv ⊢;have h2:¬(65:Int)<(n:Int):=by omega
  have h3:n<=65:=by omega
  have⟨bh,ax,aj,H,bz⟩:=hyd5 hv e1 hn G al;clear al G hn e1 hv;go_enter Tryz.func44,Tryz.ntmps44;go_wp2_with (fail);go_loopw [4,5] (λs i wr=>∃(k:Nat) (Z:List Rat),i= .int .i64 (k:Int)/\k<=n/\Hid (mapE inE (l.take k)= .ok Z)/\Hid (Z.length=k)/\Hid (k=n->qAT Z=true)/\Hid (Below w.heap.size w wr)/\Hid (RowE (ratK .i64) 93 w.heap.size wr s Z)) (λ_ i _=>n - (intOf i).toNat)
  case atStart=>exact⟨0,[],rfl,Nat.zero_le _,Lib.hid rfl,Lib.hid rfl,Lib.hid (λ_=>rfl),Lib.hid (Below.refl _ _),Lib.hid (RowE.nil _ _ _ _)⟩
  case round=>
   obtain⟨k,Z,rfl,hk,hm,bi,aI,hb,am⟩:=hrel
   by_cases bw:k<n
   ·have aB:k<l.length:=by rw[aj.out];exact bw
    obtain⟨b,a4,c9,e2,bJ,cs,bc,hc⟩:=(bh.out.le hb.out).at aB;rw[aj.out]at e2;injection e2 with e2 e3 e4;subst e2 e4;clear e3;have aH:l.take (k+1)=l.take k++[l[k]]:=by rw[List.take_succ_eq_append_getElem aB]
    have aG:l=l.take k++l[k]::l.drop (k+1):=by rw[<-List.drop_eq_getElem_cons aB,List.take_append_drop]
    generalize l[k]=x at bc aH aG;obtain⟨A1,c1,B1,d1,rfl,aK⟩:=bc;have q0:wr.cell? ⟨b,a4+k*4,none⟩=some (.bool x.sn):=hc 0 _ rfl;have q1:wr.cell? ⟨b,a4+k*4+1,none⟩=some (.slice A1 x.gn.length c1):=hc 1 _ rfl;have q2:wr.cell? ⟨b,a4+k*4+2,none⟩=some (.bool x.sd):=hc 2 _ rfl;have q3:wr.cell? ⟨b,a4+k*4+3,none⟩=some (.slice B1 x.gd.length d1):=hc 3 _ rfl;have kc:=qIo (λ_=>True) (λ_=>True) x _ wr (Up.any _) aK;have j1:(k:Int)<(n:Int):=by omega
    have j2:(0:Int)<=(k:Int):=by omega
    have⟨aZ,R,b9,ay,aE,bg,be,bA⟩:=hyd8 hm bi aI hb am aH aG aK;have⟨bK,b3⟩:=hyd2 hc kc;clear kc hc aK aG aH am hb aI bi hm;go_wp2_with (fail);go_at_call 54;refine b3.out.mono ?_;rintro e W1 ⟨j,⟨r,hr,v1,rfl,Q⟩| ⟨hr,rfl⟩⟩
    ·obtain⟨s2,A2,n2,c2,B2,m2,d2,rfl⟩:=Q.frm;obtain⟨W2,aW,M,k2⟩:=enew W1 (.cells #[.bool s2,.slice A2 n2 c2,.slice B2 m2 d2] 93);obtain⟨x1,b0⟩:∃x,W1.heap.size=x:=⟨_,rfl⟩;rw[b0]at k2;have t:Le wr W2:=j.trans M;have E:=Q.le M;have F:Below w.heap.size w W2:=ay.out.out.trans (t.mono ay.out.out.size);have q:=aE.out.out.le t;have t0:W2.cell? ⟨x1,0,none⟩=some (.bool s2):=cell_of_row W2 x1 0 _ _ _ k2;have t1:W2.cell? ⟨x1,1,none⟩=some (.slice A2 n2 c2):=cell_of_row W2 x1 1 _ _ _ k2;have t2:W2.cell? ⟨x1,2,none⟩=some (.slice B2 m2 d2):=cell_of_row W2 x1 2 _ _ _ k2;have C:inE x= .ok r:=by unfold inE;rw[hr]
     have L:=qBk aZ.out.out C;rw[<-bg.out]at L;have r2:(Z++[r]).length =k+1:=by rw[List.length_append,R.out.out];rfl
     have m:(Z++[r]).getD k 0=r:=by
      rw[List.getD_eq_getElem?_getD,List.getElem?_append_right (by rw[R.out.out];exact Nat.le_refl _),R.out.out,Nat.sub_self]
      rfl
     have y:qAT (Z++[r])= !decide (r=0):=by unfold qAT;rw[r2,show k+1 - 1=k by omega,m];simp
     by_cases a8:k+1=n
     ·have ks:=qGz (λ_=>True) r _ W2 E;obtain⟨sg,ac⟩:∃sg,rsgn r=sg:=⟨_,rfl⟩;have ad:(sg=0)↔r=0:=by rw[<-ac];unfold rsgn;simp
      rw[ac]at ks;have j3:(k:Int)+1=(n:Int):=by omega
      have j4:((k:Int)+1==(n:Int))=true:=by simpa using j3
      by_cases az:r=0
      ·have aF:=ad.2 az;subst aF;have d:=ax.out;have aO:mapE inE l= .ok (Z++[r]):=by rw[<-L,a8,<-aj.out,List.take_length]
       rw[aO]at d;change res=if qAT (Z++[r])=true then .ok (Z++[r])else .error 10 at d;rw[y,decide_eq_true az]at d;change res= .error 10 at d;have⟨V,a9,a7,a0,ah,J,f,z⟩:=hyd8 j Q M k2 t E F q;have⟨ag,ae,a5⟩:=hyd3 C L r2;clear r2 L C q F E t k2 M Q j;have⟨aa,an,aM,bd,bf,p,bC,aD⟩:=hyd8 m y ks ac ad d aO hr;clear hr aO d ad ac ks y m;go_wp2_with (fail);clear aW;go_at_call 79;refine aM.out.mono ?_;rintro e W3 ⟨rfl,D⟩;have N:Below w.heap.size w W3:=f.out.trans (D.mono f.out.size);have⟨ai,O⟩:=hyd2 D N;clear N D;go_wp2;go_ret2;rw[p.out];exact⟨O.out,_,_,rfl,rfl,rfl⟩
      ·have aF:¬sg=0:=λh=>az (ad.1 h);have bL:(sg==0)=false:=by simpa using aF
       have r4:k+1=n->qAT (Z++[r])=true:=λ_=>by rw[y,decide_eq_false az];rfl
       have⟨V,a9,a7,a0,ah,J,f,z⟩:=hyd8 j Q M k2 t E F q;have⟨ag,ae,a5⟩:=hyd3 C L r2;clear r2 L C q F E t k2 M Q j;have⟨aa,an,aM,bd,bf,aD,aR⟩:=hyd7 m y ks ac ad hr r4;clear r4 hr ad ac ks y m;go_wp2_with (fail);clear aW;go_at_call 79;refine aM.out.mono ?_;rintro e W3 ⟨rfl,D⟩;have k3:=(D.block _ (gsl a0.out)).trans a0.out;have t0:W3.cell? ⟨x1,0,none⟩=some (.bool s2):=cell_of_row W3 x1 0 _ _ _ k3;have t1:W3.cell? ⟨x1,1,none⟩=some (.slice A2 n2 c2):=cell_of_row W3 x1 1 _ _ _ k3;have t2:W3.cell? ⟨x1,2,none⟩=some (.slice B2 m2 d2):=cell_of_row W3 x1 2 _ _ _ k3;have⟨ai,bO⟩:=hyd2 D k3;clear k3 D;obtain⟨W4,bu,U,k4⟩:=enew W3 (.cells #[.bool s2,.slice A2 n2 c2,.slice B2 m2 d2] 93);obtain⟨x4,aJ⟩:∃x,W3.heap.size=x:=⟨_,rfl⟩;rw[aJ]at k4;have g:Le W2 W4:=ai.out.trans U;have B:Below w.heap.size w W4:=f.out.trans (g.mono f.out.size);have o:=z.out.le g;have S:(ratK .i64).rd W4 [.bool s2,.slice A2 n2 c2,.slice B2 m2 d2] r:=⟨s2,A2,n2,c2,B2,m2,d2,rfl,J.out.le g⟩;have P:=qDS k4;obtain⟨SA,sc,rfl⟩:=o.slice;have aL:=B.size;have⟨aX,b2,aC,T,I,Y,X⟩:=hyd7 U k4 g B o S P;clear P S o B g k4 U;go_wp2_with (first | (at_builtin;go_must (refine RowE.append I.out rfl _ _ 63 rfl 56 (.agg #[.bool false,.slice none 0 0,.slice none 0 0]) (by decide) Tryz.underlying63 H.out rfl qDP rfl x4 rfl Y.out X.out (by rw[R.out.out];omega) aL ?_)))
       intro v7 W7 q1 q2 q3 q4 q5;have r3:Below w.heap.size w W7:=(show Below w.heap.size w W4 from T.out).trans q2;have⟨aN,b4,b5,b6,b7,aQ⟩:=hyd6 q1 q2 q3 q4 q5 r3;clear r3 q5 q4 q3 q2 q1;go_wp2;go_roundw
       case rel=>exact⟨k+1,_,by go_num,by omega,ae,a5,aR,aQ,aN⟩
       case measure=>simp[intOf];omega
     ·have j3:¬(k:Int)+1=(n:Int):=by omega
      have j4:((k:Int)+1==(n:Int))=false:=by simpa using j3
      have r4:k+1=n->qAT (Z++[r])=true:=λh=>absurd h a8;have⟨V,a9,a7,a0,ah,J,f,z⟩:=hyd8 j Q M k2 t E F q;have⟨ag,ae,a5⟩:=hyd3 C L r2;clear r2 L C q F E t k2 M Q j;have⟨aa,an,aD,aR⟩:=hyd4 m y hr r4;clear r4 hr y m;obtain⟨W4,bu,U,k4⟩:=enew W2 (.cells #[.bool s2,.slice A2 n2 c2,.slice B2 m2 d2] 93);obtain⟨x4,aJ⟩:∃x,W2.heap.size=x:=⟨_,rfl⟩;rw[aJ]at k4;have g:Le W2 W4:=U;have B:Below w.heap.size w W4:=f.out.trans (g.mono f.out.size);have o:=z.out.le g;have S:(ratK .i64).rd W4 [.bool s2,.slice A2 n2 c2,.slice B2 m2 d2] r:=⟨s2,A2,n2,c2,B2,m2,d2,rfl,J.out.le g⟩;have P:=qDS k4;obtain⟨SA,sc,rfl⟩:=o.slice;have aL:=B.size;have⟨aX,b2,aC,T,I,Y,X⟩:=hyd7 U k4 g B o S P;clear P S o B g k4 U;go_wp2_with (first | (at_builtin;go_must (refine RowE.append I.out rfl _ _ 63 rfl 56 (.agg #[.bool false,.slice none 0 0,.slice none 0 0]) (by decide) Tryz.underlying63 H.out rfl qDP rfl x4 rfl Y.out X.out (by rw[R.out.out];omega) aL ?_)));intro v7 W7 q1 q2 q3 q4 q5;have r3:Below w.heap.size w W7:=(show Below w.heap.size w W4 from T.out).trans q2;have⟨aN,b4,b5,b6,b7,aQ⟩:=hyd6 q1 q2 q3 q4 q5 r3;clear r3 q5 q4 q3 q2 q1;go_wp2;go_roundw
      case rel=>exact⟨k+1,_,by go_num,by omega,ae,a5,aR,aQ,aN⟩
      case measure=>simp[intOf];omega
    ·have C:inE x= .error 10:=by unfold inE;rw[hr]
     have L:=qCL (r:=l.drop (k+1)) aZ.out.out C;rw[<-be.out]at L;have d:=ax.out;rw[L]at d;change res= .error 10 at d;have N:Below w.heap.size w W1:=ay.out.out.trans (j.mono ay.out.out.size);have⟨V,aD,ag,ae,p,O⟩:=hyd6 j hr C L d N;clear N d L C hr j;unfold qCC;go_wp2;go_ret2;rw[p.out];exact⟨Le.trans O.out (qAA _ _),_,_,rfl,rfl,rfl⟩
   ·obtain rfl:k=n:=by omega
    have L:=hm.out;rw[<-aj.out,List.take_length]at L;have d:=ax.out;rw[L]at d;change res=if qAT Z=true then .ok Z else .error 10 at d;rw[if_pos (aI.out rfl)]at d;have N:=hb.out;have ba:=am.out;have j1:¬(k:Int)<(k:Int):=by omega
    have⟨ae,O,bb,p⟩:=hyd4 L N ba d;clear d ba N L;go_wp2;go_ret2;rw[p.out];exact⟨O.out,_,_,rfl,bb.out,rfl⟩
theorem qLg:(Tryz.prog.info? 27).map (λi=>(i.zero,i.size,i.bytes))=some (some (.agg #[.bool false,.slice none 0 0,.bool false,.slice none 0 0]),4,64):=by kernel_rfl
theorem qGX {W4:World} {s2 t2:Bool} {A2 B2:Option Addr} {n2 c2 m2 d2:Nat} {t:TypeId} {x:Nat} (k4:W4.heap[x]? =some (.cells #[.bool s2,.slice A2 n2 c2,.bool t2,.slice B2 m2 d2] t)):∀(i:Nat) (u:Value),([.bool s2,.slice A2 n2 c2,.bool t2,.slice B2 m2 d2]:List Value)[i]? =some u->W4.cell? ⟨x,i,none⟩=some u:=λi u hu=>by
 have hi4:i<4:=(List.getElem?_eq_some_iff.1 hu).1
 match i,hi4 with
 | 0,_=>have z:=cell_of_row W4 x 0 _ _ _ k4;rw[z];simpa using hu
 | 1,_=>have z:=cell_of_row W4 x 1 _ _ _ k4;rw[z];simpa using hu
 | 2,_=>have z:=cell_of_row W4 x 2 _ _ _ k4;rw[z];simpa using hu
 | 3,_=>have z:=cell_of_row W4 x 3 _ _ _ k4;rw[z];simpa using hu
theorem qCN (L:Nat->Prop) (base:Nat) (v:Value) (l:List Rat) (w:World) (hL:Up w L) (hv:RowE (ratK .i64) 93 base w v l):
  Calls Tryz.prog 31 #[v] w (qBU L (qAR l) w):=by
 have g:=qLg;have F:=hv.seq;obtain⟨A,c,rfl,aq,aD,-⟩:=F.slice;unfold maxLen at aD;obtain⟨n,hn⟩:∃n,l.length=n:=⟨_,rfl⟩
 by_cases h:65<l.length
 ·have R:qAR l= .error 12:=by unfold qAR;rw[if_pos h]
  rw[R];rw[hn]at h aq hv ⊢;have h2:(65:Int)<(n:Int):=by omega
  have⟨a1,S,I,q,az⟩:=hyd5 hv R hn g F;clear F g hn R hv;go_enter Tryz.func31,Tryz.ntmps31;go_wp2;go_ret2;exact⟨Le.refl _,_,_,rfl,rfl,rfl⟩
 ·have R:qAR l=mapE outR l:=by unfold qAR;rw[if_neg h]
  obtain⟨res,D⟩:∃r,qAR l=r:=⟨_,rfl⟩;rw[D]at R ⊢;rw[hn]at h aq hv ⊢;have h2:¬(65:Int)<(n:Int):=by omega
  have h3:n<=65:=by omega
  have⟨a1,S,I,q,aH,az,aC⟩:=hyd7 hv R hn g D F hL;clear hL F D g hn R hv;go_enter Tryz.func31,Tryz.ntmps31;go_wp2_with (fail);go_loopw [4,5] (λs i wr=>∃(k:Nat) (ys:List Rat),i= .int .i64 (k:Int)/\k<=n/\Hid (mapE outR (l.take k)= .ok ys)/\Hid (ys.length=k)/\Hid (Below w.heap.size w wr)/\Hid (RowE (frK L) 27 w.heap.size wr s ys)) (λ_ i _=>n - (intOf i).toNat)
  case atStart=>exact⟨0,[],rfl,Nat.zero_le _,Lib.hid rfl,Lib.hid rfl,Lib.hid (Below.refl _ _),Lib.hid (RowE.nil _ _ _ _)⟩
  case round=>
   obtain⟨k,ys,rfl,hk,hm,a2,hb,E⟩:=hrel
   by_cases aF:k<n
   ·have X:k<l.length:=by rw[I.out];exact aF
    obtain⟨b,c9,e2,-,bi,-,-,cs,ax,hc⟩:=(a1.out.le hb.out).at X;rw[I.out]at e2;injection e2 with e2 e3 e4;subst e2 e4;clear e3;have ac:l.take (k+1)=l.take k++[l[k]]:=by rw[List.take_succ_eq_append_getElem X]
    have ab:l=l.take k++l[k]::l.drop (k+1):=by rw[<-List.drop_eq_getElem_cons X,List.take_append_drop]
    generalize l[k]=x at ax ac ab;obtain⟨s1,A1,n1,c1,B1,m1,d1,rfl,ad⟩:=ax;have q0:wr.cell? ⟨b,k*3,none⟩=some (.bool s1):=hc 0 _ rfl;have q1:wr.cell? ⟨b,k*3+1,none⟩=some (.slice A1 n1 c1):=hc 1 _ rfl;have q2:wr.cell? ⟨b,k*3+2,none⟩=some (.slice B1 m1 d1):=hc 2 _ rfl;have kc:=qHr L (λ_=>True) x _ wr (aC.out.le hb.out) ad;have j1:(k:Int)<(n:Int):=by omega
    have j2:(0:Int)<=(k:Int):=by omega
    have⟨ar,O,H,aa,a0,ay,aT,bj⟩:=hyd8 hm a2 hb E ac ab ad hc;have aL:=hyd1 kc;clear kc hc ad ab ac E hb a2 hm;go_wp2_with (fail);go_at_call 55;refine aL.out.mono ?_;rintro e W1 ⟨f,⟨hr,v1,rfl,M⟩| ⟨hr,rfl⟩⟩
    ·obtain⟨s2,A2,n2,c2,t2,B2,m2,d2,rfl⟩:=M.fform';obtain⟨G,bg,U,k2⟩:=enew W1 (.cells #[.bool s2,.slice A2 n2 c2,.bool t2,.slice B2 m2 d2] 27);obtain⟨Q,aI⟩:∃x,W1.heap.size=x:=⟨_,rfl⟩;rw[aI]at k2;have y0:G.cell? ⟨Q,0,none⟩=some (.bool s2):=cell_of_row G Q 0 _ _ _ k2;have y1:G.cell? ⟨Q,1,none⟩=some (.slice A2 n2 c2):=cell_of_row G Q 1 _ _ _ k2;have y2:G.cell? ⟨Q,2,none⟩=some (.bool t2):=cell_of_row G Q 2 _ _ _ k2;have y3:G.cell? ⟨Q,3,none⟩=some (.slice B2 m2 d2):=cell_of_row G Q 3 _ _ _ k2;have o:outR x= .ok x:=qEB hr;have y:=qBk ar.out.out o;rw[<-a0.out]at y;have r2:(ys++[x]).length =k+1:=by rw[List.length_append,O.out.out];rfl
     obtain⟨W4,bh,V,k4⟩:=enew G (.cells #[.bool s2,.slice A2 n2 c2,.bool t2,.slice B2 m2 d2] 27);obtain⟨x4,aJ⟩:∃x,G.heap.size=x:=⟨_,rfl⟩;rw[aJ]at k4;have j:Le W1 W4:=Le.trans U V;have t:Le wr W4:=f.trans j;have z:Below w.heap.size w W4:=H.out.out.trans (t.mono H.out.out.size);have p:=aa.out.out.le t;have P:(frK L).rd W4 [.bool s2,.slice A2 n2 c2,.bool t2,.slice B2 m2 d2] x:=⟨s2,A2,n2,c2,t2,B2,m2,d2,rfl,M.kp (Kp.of_le j)⟩;have N:=qGX k4;obtain⟨SA,sc,rfl⟩:=p.slice;have aK:=z.size;have⟨aR,bo,aE,T,J,ae,Z,aA⟩:=hyd8 V k4 t z p P N j;clear j N P p z t k4 V;have⟨Y,aS,aQ,bm,ap,ag,aO⟩:=hyd7 f M U k2 o y r2;clear r2 y o k2 U M f;go_wp2_with (first | (at_builtin;go_must (refine RowE.append J.out rfl _ _ 22 rfl 64 (.agg #[.bool false,.slice none 0 0,.bool false,.slice none 0 0]) (by decide) Tryz.underlying22 q.out rfl qJO rfl x4 rfl ae.out Z.out (by rw[O.out.out];omega) aK ?_)));intro v7 W7 q1 q2 q3 q4 q5;have r3:Below w.heap.size w W7:=(show Below w.heap.size w W4 from T.out).trans q2;have⟨aN,br,bs,bt,bu,aP⟩:=hyd6 q1 q2 q3 q4 q5 r3;clear r3 q5 q4 q3 q2 q1;go_wp2;go_roundw
     case rel=>exact⟨k+1,_,by go_num,by omega,ag,aO,aP,aN⟩
     case measure=>simp[intOf];omega
    ·have o:outR x= .error 12:=qEC hr;have y:=qCL (r:=l.drop (k+1)) ar.out.out o;rw[<-ay.out]at y;have d:=S.out;rw[y]at d;have B:Below w.heap.size w W1:=H.out.out.trans (f.mono H.out.out.size);have⟨Y,bk,ap,ag,m,C⟩:=hyd6 f hr o y d B;clear B d y o hr f;unfold qCD;go_wp2;go_ret2;rw[m.out];exact⟨Le.trans C.out (qAA _ _),_,_,rfl,rfl,rfl⟩
   ·obtain rfl:k=n:=by omega
    have y:=hm.out;rw[<-I.out,List.take_length]at y;have d:=S.out;rw[y]at d;have B:=hb.out;have av:=E.out;have j1:¬(k:Int)<(k:Int):=by omega
    have⟨ag,C,aw,m⟩:=hyd4 y B av d;clear d av B y;go_wp2;go_ret2;rw[m.out];exact⟨C.out,_,_,rfl,aw.out,rfl⟩
end Go.Proofs.YtcoajjdhkhgfdaaGreat

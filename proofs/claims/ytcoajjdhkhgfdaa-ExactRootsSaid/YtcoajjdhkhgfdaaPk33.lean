/- Polynomials, the reference: InPoly, OutPoly. -/
import Derived.Test.YtcoajjdhkhgfdaaPk32
namespace Go.Proofs.Ytcoajjdhkhgfdaa
set_option maxRecDepth 100000
set_option maxHeartbeats 1000000
open Go.RowKit Go.Shelf
set_option linter.unusedVariables false
set_option linter.unusedSimpArgs false
def IsQ (B:Nat) (w:World) (v:Value) (c:Int):Except Int (List Rat)->Prop
 | .ok ys=>RowE (ratK .i64) 63 B w v ys/\c=0
 | .error z=>v= .slice none 0 0/\c=z
def qMR (res:Except Int (List Rat)) (w:World) (e:Ending) (w':World):Prop:=Le w w'/\∃v c,e= .returned (.tuple #[v,.int .i64 c])/\IsQ w.heap.size w' v c res
def topE:Except Int (List Rat)->Except Int (List Rat)
 | .error z=> .error z
 | .ok rs=>if qAD rs then .ok rs else .error 10
theorem qFE {l:List FracA} (h:¬65<l.length):qA7 l=topE (mapE inE l):=by
 unfold qA7 topE;rw[if_neg h]
 cases mapE inE l<;>rfl
theorem qLk {x:FracA} {z:Int} (h:inE x= .error z):z=10:=by
 unfold inE at h
 cases hx:x.rat? with
 | some r=>rw[hx]at h;cases h
 | none=>rw[hx]at h;injection h with h;exact h.symm
theorem qFF:∀{l:List FracA} {z:Int},mapE inE l= .error z->z=10
 | [],z,h=>by simp[mapE]at h
 | x::l,z,h=>by
  cases hx:inE x with
  | error z1=>simp[mapE,hx]at h;rw[<-h];exact qLk hx
  | ok y=>
   cases hl:mapE inE l with
   | error z1=>simp[mapE,hx,hl]at h;rw[<-h];exact qFF hl
   | ok ys=>simp[mapE,hx,hl]at h
theorem qCT {W4:World} {s2:Bool} {A2 B2:Option Addr} {n2 c2 m2 d2:Nat} {t:TypeId} {x:Nat} (k4:W4.heap[x]? =some (.cells #[.bool s2,.slice A2 n2 c2,.slice B2 m2 d2] t)):∀(i:Nat) (u:Value),([.bool s2,.slice A2 n2 c2,.slice B2 m2 d2]:List Value)[i]? =some u->W4.cell? ⟨x,i,none⟩=some u:=λi u hu=>by
 have hi4:i<3:=(List.getElem?_eq_some_iff.1 hu).1
 match i,hi4 with
 | 0,_=>have z:=cell_of_row W4 x 0 _ _ _ k4;rw[z];simpa using hu
 | 1,_=>have z:=cell_of_row W4 x 1 _ _ _ k4;rw[z];simpa using hu
 | 2,_=>have z:=cell_of_row W4 x 2 _ _ _ k4;rw[z];simpa using hu
theorem qF6 (v:Value) (l:List FracA) (w:World) (hv:SeqE inK w v l):
  Calls Try.prog 20 #[v] w (qMR (qA7 l) w):=by
 have G:=qFD;obtain⟨A,c,rfl,aY,bv,-⟩:=hv.slice;unfold maxLen at bv;obtain⟨n,hn⟩:∃n,l.length=n:=⟨_,rfl⟩
 by_cases h:65<l.length
 ·have e1:qA7 l= .error 4:=by unfold qA7;rw[if_pos h]
  rw[e1];rw[hn]at h aY hv ⊢;have h2:(65:Int)<(n:Int):=by omega
  have⟨bh,ax,aj,H⟩:=hyd4 hv e1 hn G;clear G hn e1 hv;go_enter Try.func20,Try.ntmps20;go_wp2;go_ret2;exact⟨Le.refl _,_,_,rfl,rfl,rfl⟩
 ·have e1:=qFE h;obtain⟨res,al⟩:∃r,qA7 l=r:=⟨_,rfl⟩;rw[al]at e1 ⊢;rw[hn]at h aY hv ⊢;have h2:¬(65:Int)<(n:Int):=by omega
  have h3:n<=65:=by omega
  have⟨bh,ax,aj,H,bz⟩:=hyd5 hv e1 hn G al;clear al G hn e1 hv;go_enter Try.func20,Try.ntmps20;go_wp2_with (fail);go_loopw [4,5] (λs i wr=>∃(k:Nat) (Z:List Rat),i= .int .i64 (k:Int)/\k<=n/\Hid (mapE inE (l.take k)= .ok Z)/\Hid (Z.length=k)/\Hid (k=n->qAD Z=true)/\Hid (Below w.heap.size w wr)/\Hid (RowE (ratK .i64) 63 w.heap.size wr s Z)) (λ_ i _=>n - (intOf i).toNat)
  case atStart=>exact⟨0,[],rfl,Nat.zero_le _,Lib.hid rfl,Lib.hid rfl,Lib.hid (λ_=>rfl),Lib.hid (Below.refl _ _),Lib.hid (RowE.nil _ _ _ _)⟩
  case round=>
   obtain⟨k,Z,rfl,hk,hm,bi,aI,hb,am⟩:=hrel
   by_cases bw:k<n
   ·have aB:k<l.length:=by rw[aj.out];exact bw
    obtain⟨b,a4,c9,e2,bJ,cs,bc,hc⟩:=(bh.out.le hb.out).at aB;rw[aj.out]at e2;injection e2 with e2 e3 e4;subst e2 e4;clear e3;have aH:l.take (k+1)=l.take k++[l[k]]:=by rw[List.take_succ_eq_append_getElem aB]
    have aG:l=l.take k++l[k]::l.drop (k+1):=by rw[<-List.drop_eq_getElem_cons aB,List.take_append_drop]
    generalize l[k]=x at bc aH aG;obtain⟨A1,c1,B1,d1,rfl,aK⟩:=bc;have q0:wr.cell? ⟨b,a4+k*4,none⟩=some (.bool x.sn):=hc 0 _ rfl;have q1:wr.cell? ⟨b,a4+k*4+1,none⟩=some (.slice A1 x.gn.length c1):=hc 1 _ rfl;have q2:wr.cell? ⟨b,a4+k*4+2,none⟩=some (.bool x.sd):=hc 2 _ rfl;have q3:wr.cell? ⟨b,a4+k*4+3,none⟩=some (.slice B1 x.gd.length d1):=hc 3 _ rfl;have kc:=qGp (λ_=>True) (λ_=>True) x _ wr (Up.any _) aK;have j1:(k:Int)<(n:Int):=by omega
    have j2:(0:Int)<=(k:Int):=by omega
    have⟨aZ,R,b9,ay,aE,bg,be,bA⟩:=hyd8 hm bi aI hb am aH aG aK;have⟨bK,b3⟩:=hyd2 hc kc;clear kc hc aK aG aH am hb aI bi hm;go_wp2_with (fail);go_at_call 44;refine b3.out.mono ?_;rintro e W1 ⟨j,⟨r,hr,v1,rfl,Q⟩| ⟨hr,rfl⟩⟩
    ·obtain⟨s2,A2,n2,c2,B2,m2,d2,rfl⟩:=Q.frm;obtain⟨W2,aW,M,k2⟩:=enew W1 (.cells #[.bool s2,.slice A2 n2 c2,.slice B2 m2 d2] 63);obtain⟨x1,b0⟩:∃x,W1.heap.size=x:=⟨_,rfl⟩;rw[b0]at k2;have t:Le wr W2:=j.trans M;have E:=Q.le M;have F:Below w.heap.size w W2:=ay.out.out.trans (t.mono ay.out.out.size);have q:=aE.out.out.le t;have t0:W2.cell? ⟨x1,0,none⟩=some (.bool s2):=cell_of_row W2 x1 0 _ _ _ k2;have t1:W2.cell? ⟨x1,1,none⟩=some (.slice A2 n2 c2):=cell_of_row W2 x1 1 _ _ _ k2;have t2:W2.cell? ⟨x1,2,none⟩=some (.slice B2 m2 d2):=cell_of_row W2 x1 2 _ _ _ k2;have C:inE x= .ok r:=by unfold inE;rw[hr]
     have L:=qCd aZ.out.out C;rw[<-bg.out]at L;have r2:(Z++[r]).length =k+1:=by rw[List.length_append,R.out.out];rfl
     have m:(Z++[r]).getD k 0=r:=by
      rw[List.getD_eq_getElem?_getD,List.getElem?_append_right (by rw[R.out.out];exact Nat.le_refl _),R.out.out,Nat.sub_self]
      rfl
     have y:qAD (Z++[r])= !decide (r=0):=by unfold qAD;rw[r2,show k+1 - 1=k by omega,m];simp
     by_cases a8:k+1=n
     ·have ks:=qCc (λ_=>True) r _ W2 E;obtain⟨sg,ac⟩:∃sg,rsgn r=sg:=⟨_,rfl⟩;have ad:(sg=0)↔r=0:=by rw[<-ac];unfold rsgn;simp
      rw[ac]at ks;have j3:(k:Int)+1=(n:Int):=by omega
      have j4:((k:Int)+1==(n:Int))=true:=by simpa using j3
      by_cases az:r=0
      ·have aF:=ad.2 az;subst aF;have d:=ax.out;have aO:mapE inE l= .ok (Z++[r]):=by rw[<-L,a8,<-aj.out,List.take_length]
       rw[aO]at d;change res=if qAD (Z++[r])=true then .ok (Z++[r])else .error 10 at d;rw[y,decide_eq_true az]at d;change res= .error 10 at d;have⟨V,a9,a7,a0,ah,J,f,z⟩:=hyd8 j Q M k2 t E F q;have⟨ag,ae,a5⟩:=hyd3 C L r2;clear r2 L C q F E t k2 M Q j;have⟨aa,an,aM,bd,bf,p,bC,aD⟩:=hyd8 m y ks ac ad d aO hr;clear hr aO d ad ac ks y m;go_wp2_with (fail);clear aW;go_at_call 45;refine aM.out.mono ?_;rintro e W3 ⟨rfl,D⟩;have N:Below w.heap.size w W3:=f.out.trans (D.mono f.out.size);have⟨ai,O⟩:=hyd2 D N;clear N D;go_wp2;go_ret2;rw[p.out];exact⟨O.out,_,_,rfl,rfl,rfl⟩
      ·have aF:¬sg=0:=λh=>az (ad.1 h);have bL:(sg==0)=false:=by simpa using aF
       have r4:k+1=n->qAD (Z++[r])=true:=λ_=>by rw[y,decide_eq_false az];rfl
       have⟨V,a9,a7,a0,ah,J,f,z⟩:=hyd8 j Q M k2 t E F q;have⟨ag,ae,a5⟩:=hyd3 C L r2;clear r2 L C q F E t k2 M Q j;have⟨aa,an,aM,bd,bf,aD,aR⟩:=hyd7 m y ks ac ad hr r4;clear r4 hr ad ac ks y m;go_wp2_with (fail);clear aW;go_at_call 45;refine aM.out.mono ?_;rintro e W3 ⟨rfl,D⟩;have k3:=(D.block _ (gsl a0.out)).trans a0.out;have t0:W3.cell? ⟨x1,0,none⟩=some (.bool s2):=cell_of_row W3 x1 0 _ _ _ k3;have t1:W3.cell? ⟨x1,1,none⟩=some (.slice A2 n2 c2):=cell_of_row W3 x1 1 _ _ _ k3;have t2:W3.cell? ⟨x1,2,none⟩=some (.slice B2 m2 d2):=cell_of_row W3 x1 2 _ _ _ k3;have⟨ai,bO⟩:=hyd2 D k3;clear k3 D;obtain⟨W4,bu,U,k4⟩:=enew W3 (.cells #[.bool s2,.slice A2 n2 c2,.slice B2 m2 d2] 63);obtain⟨x4,aJ⟩:∃x,W3.heap.size=x:=⟨_,rfl⟩;rw[aJ]at k4;have g:Le W2 W4:=ai.out.trans U;have B:Below w.heap.size w W4:=f.out.trans (g.mono f.out.size);have o:=z.out.le g;have S:(ratK .i64).rd W4 [.bool s2,.slice A2 n2 c2,.slice B2 m2 d2] r:=⟨s2,A2,n2,c2,B2,m2,d2,rfl,J.out.le g⟩;have P:=qCT k4;obtain⟨SA,sc,rfl⟩:=o.slice;have aL:=B.size;have⟨aX,b2,aC,T,I,Y,X⟩:=hyd7 U k4 g B o S P;clear P S o B g k4 U;go_wp2_with (first | (at_builtin;go_must (refine RowE.append I.out rfl _ _ 51 rfl 56 (.agg #[.bool false,.slice none 0 0,.slice none 0 0]) (by decide) Try.underlying51 H.out rfl qD1 rfl x4 rfl Y.out X.out (by rw[R.out.out];omega) aL ?_)))
       intro v7 W7 q1 q2 q3 q4 q5;have r3:Below w.heap.size w W7:=(show Below w.heap.size w W4 from T.out).trans q2;have⟨aN,b4,b5,b6,b7,aQ⟩:=hyd6 q1 q2 q3 q4 q5 r3;clear r3 q5 q4 q3 q2 q1;go_wp2;go_roundw
       case rel=>exact⟨k+1,_,by go_num,by omega,ae,a5,aR,aQ,aN⟩
       case measure=>simp[intOf];omega
     ·have j3:¬(k:Int)+1=(n:Int):=by omega
      have j4:((k:Int)+1==(n:Int))=false:=by simpa using j3
      have r4:k+1=n->qAD (Z++[r])=true:=λh=>absurd h a8;have⟨V,a9,a7,a0,ah,J,f,z⟩:=hyd8 j Q M k2 t E F q;have⟨ag,ae,a5⟩:=hyd3 C L r2;clear r2 L C q F E t k2 M Q j;have⟨aa,an,aD,aR⟩:=hyd4 m y hr r4;clear r4 hr y m;obtain⟨W4,bu,U,k4⟩:=enew W2 (.cells #[.bool s2,.slice A2 n2 c2,.slice B2 m2 d2] 63);obtain⟨x4,aJ⟩:∃x,W2.heap.size=x:=⟨_,rfl⟩;rw[aJ]at k4;have g:Le W2 W4:=U;have B:Below w.heap.size w W4:=f.out.trans (g.mono f.out.size);have o:=z.out.le g;have S:(ratK .i64).rd W4 [.bool s2,.slice A2 n2 c2,.slice B2 m2 d2] r:=⟨s2,A2,n2,c2,B2,m2,d2,rfl,J.out.le g⟩;have P:=qCT k4;obtain⟨SA,sc,rfl⟩:=o.slice;have aL:=B.size;have⟨aX,b2,aC,T,I,Y,X⟩:=hyd7 U k4 g B o S P;clear P S o B g k4 U;go_wp2_with (first | (at_builtin;go_must (refine RowE.append I.out rfl _ _ 51 rfl 56 (.agg #[.bool false,.slice none 0 0,.slice none 0 0]) (by decide) Try.underlying51 H.out rfl qD1 rfl x4 rfl Y.out X.out (by rw[R.out.out];omega) aL ?_)));intro v7 W7 q1 q2 q3 q4 q5;have r3:Below w.heap.size w W7:=(show Below w.heap.size w W4 from T.out).trans q2;have⟨aN,b4,b5,b6,b7,aQ⟩:=hyd6 q1 q2 q3 q4 q5 r3;clear r3 q5 q4 q3 q2 q1;go_wp2;go_roundw
      case rel=>exact⟨k+1,_,by go_num,by omega,ae,a5,aR,aQ,aN⟩
      case measure=>simp[intOf];omega
    ·have C:inE x= .error 10:=by unfold inE;rw[hr]
     have L:=qDA (r:=l.drop (k+1)) aZ.out.out C;rw[<-be.out]at L;have d:=ax.out;rw[L]at d;change res= .error 10 at d;have N:Below w.heap.size w W1:=ay.out.out.trans (j.mono ay.out.out.size);have⟨V,aD,ag,ae,p,O⟩:=hyd6 j hr C L d N;clear N d L C hr j;unfold qCD;go_wp2;go_ret2;rw[p.out];exact⟨Le.trans O.out (qAA _ _),_,_,rfl,rfl,rfl⟩
   ·obtain rfl:k=n:=by omega
    have L:=hm.out;rw[<-aj.out,List.take_length]at L;have d:=ax.out;rw[L]at d;change res=if qAD Z=true then .ok Z else .error 10 at d;rw[if_pos (aI.out rfl)]at d;have N:=hb.out;have ba:=am.out;have j1:¬(k:Int)<(k:Int):=by omega
    have⟨ae,O,bb,p⟩:=hyd4 L N ba d;clear d ba N L;go_wp2;go_ret2;rw[p.out];exact⟨O.out,_,_,rfl,bb.out,rfl⟩
end Go.Proofs.Ytcoajjdhkhgfdaa

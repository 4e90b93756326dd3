/- barleycornref01: PlusZ, Square. barleycornref01: TimesZ. barleycornref01: One, Nil. barleycornref01: Inverse. barleycornref01: Raised. barleycornref01: InTurn, .. -/
import Derived.Test.YtabfaobakmjiaaaGreatPy45
namespace Go.Proofs.YtabfaobakmjiaaaGreat
set_option maxRecDepth 100000
set_option maxHeartbeats 4000000
open Go.RowKit Go.Shelf
set_option linter.unusedVariables false
set_option linter.unusedSimpArgs false
theorem qJL (x:FracA×FracA) (m:Nat) (v:Value) (w:World) (hm:(m:Int)<=1000) (h:IsTurnA w v x):Calls Tryz.prog 25 #[v,.int .i64 m] w λe w'=>e= .returned (.bool (qGd x m))/\Le w w':=by
 obtain⟨I,L,J,M,N,P,O,Q,rfl,B,C⟩:=h;obtain⟨R,k,f,z⟩:=al1 w (.cells #[.bool x.1.sn,.slice I x.1.gn.length L,.bool x.1.sd,.slice J x.1.gd.length M,.bool x.2.sn,.slice N x.2.gn.length P,.bool x.2.sd,.slice O x.2.gd.length Q] 79);obtain⟨T,U,V,Y,Z,a5,a6,a7⟩:=qAF z;have E:=qIP (λ_=>True) x.1 m _ R hm (B.le f);have F:=λW (hW:Le R W)=>qIP (λ_=>True) x.2 m _ W hm (C.le (f.trans hW));obtain⟨s1,g⟩:∃s,qED x.1 m=s:=⟨_,rfl⟩;obtain⟨s2,i⟩:∃s,qED x.2 m=s:=⟨_,rfl⟩;have r:qGd x m=(s1||s2):=by unfold qGd;rw[g,i]
 rw[g]at E;rw[i]at F;rw[r];have⟨j,A,aj,ak,q,G,ad,ae⟩:=hyd8 f z B C E F g i;have ah:=hyd1 r;clear r i g F E C B z f
 cases s1
 ·go_enter Tryz.func25,Tryz.ntmps25;go_wp2_with (fail);clear k;go_at_call 58;refine q.out.mono ?_;rintro e S ⟨rfl,b⟩;clear T U V Y Z a5 a6 a7;obtain⟨T,U,V,Y,Z,a5,a6,a7⟩:=qAF (bxl b A.out);have r3:=G.out S b;have⟨c,H⟩:=hyd2 b r3;clear r3 b;go_wp2_with (fail);go_at_call 58;refine H.out.mono ?_;rintro e W2 ⟨rfl,d⟩;have o:=(j.out.trans c.out).trans d;have⟨y,p⟩:=hyd2 d o;clear o d;go_wp2;go_ret;exact⟨by simp,p.out⟩
 ·go_enter Tryz.func25,Tryz.ntmps25;go_wp2_with (fail);clear k;go_at_call 58;refine q.out.mono ?_;rintro e S ⟨rfl,b⟩;have l:=j.out.trans b;have⟨c,n⟩:=hyd2 b l;clear l b;go_wp2;go_ret;exact⟨by simp,n.out⟩
attribute [local go_sem] Oper.semAt_some
attribute [local go_sem ↓] Go.wp_at_zero Go.wp_at_succ
theorem qRs {w:World} {v:Value} {l:List ArmA} {tv:Nat->Array Value} (h:qNq w v l tv) {j:Nat} (hj:j<l.length):∃b off c,v= .slice (some ⟨b,off,none⟩) l.length c/\c<=maxLen/\b<w.heap.size/\ArmC w b (off+j*9) (l.getD j default).k (tv j)/\IsTurnA w (.agg (tv j)) (l.getD j default).c /\ -9223372036854775808<=(l.getD j default).k /\(l.getD j default).k <=9223372036854775807:=by
 obtain⟨A,c,rfl,o,f,m,i,k,p⟩:=h;obtain⟨b,off,rfl,n,d⟩:=p (by omega);have g:l.getD j default=l[j]:=by simp[List.getD_eq_getElem?_getD,List.getElem?_eq_getElem hj]
 rw[g];exact⟨b,off,c,rfl,f,n,d j hj,k j hj,i _ (List.getElem_mem hj)⟩
end Go.Proofs.YtabfaobakmjiaaaGreat
namespace Go.Proofs.YtabfaobakmjiaaaGreat
set_option maxRecDepth 100000
set_option maxHeartbeats 4000000
open Go.RowKit Go.Shelf
set_option linter.unusedVariables false
set_option linter.unusedSimpArgs false
attribute [local go_sem] Oper.semAt_some
attribute [local go_sem ↓] Go.wp_at_zero Go.wp_at_succ
def qCv (l:List ArmA) (g t:Nat) (j:Nat):Bool:=qGd (l.getD j default).c g||(qAE (l.getD j default).k ((t:Int)+1) 64||qAE (l.getD j default).k (-64) (-(t:Int) - 1))
def qFX (l:List ArmA) (m g t:Nat):Bool:=(decide (m<l.length)&&decide (l.length≠25))||qKN (qCv l g t) l.length
theorem qMQ (l:List ArmA) (m g t:Nat) (v:Value) (w:World) (hv:ArmsL w v l) (hm:m<=1000) (hg:g<=1000) (ht:t<=1000):
  Calls Tryz.prog 6 #[v,.int .i64 m,.int .i64 g,.int .i64 t] w λe w'=>e= .returned (.bool (qFX l m g t))/\Le w w':=by
 obtain⟨tv,Y⟩:=hv.vals;have Z:=hyd1 Y;obtain⟨A,c,rfl,aM,ah,-⟩:=Y;unfold maxLen at ah;obtain⟨R,F⟩:∃R,qFX l m g t=R:=⟨_,rfl⟩;rw[F];unfold qFX at F
 by_cases o:m<l.length/\l.length≠25
 ·have af:R=true:=by rw[<-F];simp[o]
  subst af;obtain⟨b1,b2⟩:=o;have e1:(m:Int)<(l.length:Int):=by omega
  have e2:((l.length:Int)==25)=false:=by simp;omega
  have e3:((l.length:Int) != 25)=true:=by simp;omega
  have⟨ae,ao⟩:=hyd2 F hv;clear hv F;go_enter Tryz.func6,Tryz.ntmps6;go_wp2;go_ret;exact⟨rfl,Le.refl _⟩
 ·have z:R=qKN (qCv l g t) l.length:=by
   rw[<-F];have:(decide (m<l.length)&&decide (l.length≠25))=false:=by simp only[Bool.and_eq_false_iff,decide_eq_false_iff_not];omega
   rw[this,Bool.false_or]
  have G:∀j,j<l.length->qCv l g t j=true->R=true:=λj h1 h2=>by rw[z];exact(qJQ _ _).2 ⟨j,h1,h2⟩
  have O:(∀j,j<l.length->qCv l g t j=false)->R=false:=λh=>by
   rw[z,<-Bool.not_eq_true,qJQ];rintro⟨j,h1,h2⟩;rw[h j h1]at h2
   cases h2
  have aa:∀T:Array Value,(∃u:Nat->Value,True)->True:=λ_ _=>trivial;clear aa
  have J:m<l.length->l.length=25:=λh=>by
   rcases Nat.lt_or_ge m l.length with I|I
   ·exact Decidable.byContradiction λhc=>o ⟨I,hc⟩
   ·omega
  have hN:(¬m<l.length)∨(m<l.length/\l.length=25):=by
   by_cases I:m<l.length
   ·exact .inr ⟨I,J I⟩
   ·exact .inl I
  clear J o
  rcases hN with hN| ⟨hN1,hN2⟩
  all_goals
   try
    have e1:(m:Int)<(l.length:Int):=by omega
    have e2:((l.length:Int) != 25)=false:=by simp;omega
    have e3:((l.length:Int)==25)=true:=by simp;omega
    have aw:=hyd1 hN2;clear hN2
   have⟨ae,ao,ax,H,P⟩:=hyd5 F hv z G O;clear O G z hv F;go_enter Tryz.func6,Tryz.ntmps6;go_wp2;go_loopw [9] (λi wr=>∃k:Nat,k<=l.length/\i= .int .i64 k/\Hid (Le w wr)/\Hid (∀j,j<k->qCv l g t j=false)) (λi _=>l.length - (intOf i).toNat)
   case atStart=>exact⟨0,Nat.zero_le _,rfl,Lib.hid (Le.refl _),Lib.hid (λj h=>absurd h (Nat.not_lt_zero j))⟩
   case round=>
    obtain⟨k,hk,rfl,f,U⟩:=hrel
    by_cases N:k<l.length
    ·obtain⟨b,off,c',aj,-,hb,L,V,am,an⟩:=qRs Z.out N;injection aj with q1 q2 q3;subst q1 q3;clear q2;obtain⟨s1,A1,n1,c1,t1,B1,m1,d1,s2,A2,n2,c2,t2,B2,m2,d2,he,a0,a1,a2,a3,a4,a5,a6,a7,a8⟩:=L.same (W:=wr) λi=>f.out.cell (p:=⟨b,i,none⟩) hb;have B:=qJL (l.getD k default).c g _ wr (by omega) (V.le f.out);rw[he]at B;obtain⟨x1,C⟩:∃x,qGd (l.getD k default).c g=x:=⟨_,rfl⟩;obtain⟨x2,y⟩:∃x,qAE (l.getD k default).k ((t:Int)+1) 64=x:=⟨_,rfl⟩;obtain⟨x3,E⟩:∃x,qAE (l.getD k default).k (-64) (-(t:Int) - 1)=x:=⟨_,rfl⟩;have q:qCv l g t k=(x1||(x2||x3)):=by unfold qCv;rw[C,y,E]
     rw[C]at B;generalize (l.getD k default).k =kk at a0 y E am an;have ag:b<wr.heap.size:=Nat.lt_of_lt_of_le hb f.out.size;have r:=H.out k N
     have Q:(x1||(x2||x3))=false->∀j,j<k+1->qCv l g t j=false:=λh j hj=>by
      by_cases ak:j=k
      ·rw[ak,q];exact h
      ·exact U.out j (by omega)
     rw[q]at r;have i1:(k:Int)<(l.length:Int):=by omega
     clear L V;have⟨M,az,ap,aL,n,S⟩:=hyd6 B C q he r Q;clear Q r he q C B;go_wp2_with (fail);go_at_call 25;refine M.out.mono ?_;rintro e w1 ⟨rfl,s⟩;have k0:=(s.cell (p:=⟨b,off+k*9,none⟩) ag).trans a0;clear a0 a1 a2 a3 a4 a5 a6 a7 a8;have d:=hyd1 s;clear s
     cases x1 with
     | true=>
      obtain rfl:=n.out rfl;go_wp2;go_ret;exact⟨rfl,f.out.trans d.out⟩
     | false=>
      cases x2 with
      | true=>
       obtain rfl:=n.out rfl;go_wp2_with (first | (go_at_call 26;((with_reducible refine(qBi _ _ _ _).mono ?_);rintro e w' ⟨rfl,rfl⟩;rw[y])));go_ret;exact⟨rfl,f.out.trans d.out⟩
      | false=>
       cases x3 with
       | true=>
        obtain rfl:=n.out rfl;go_wp2_with (first | (go_at_call 26;((with_reducible refine(qBi _ _ _ _).mono ?_);rintro e w' ⟨rfl,rfl⟩;first |rw[y]|rw[E])));go_ret;exact⟨rfl,f.out.trans d.out⟩
       | false=>
        go_wp2_with (first | (go_at_call 26;((with_reducible refine(qBi _ _ _ _).mono ?_);rintro e w' ⟨rfl,rfl⟩;first |rw[y]|rw[E])));go_roundw
        case rel=>exact⟨k+1,by omega,by go_num,Lib.hid (f.out.trans d.out),Lib.hid (S.out rfl)⟩
        case measure=>simp[intOf];omega
    ·obtain rfl:k=l.length:=by omega
     obtain rfl:=P.out U.out;go_wp2;go_ret;exact⟨rfl,f.out⟩
end Go.Proofs.YtabfaobakmjiaaaGreat
namespace Go.Proofs.YtabfaobakmjiaaaGreat
set_option maxRecDepth 100000
set_option maxHeartbeats 1000000
open Go.RowKit Go.Shelf
set_option linter.unusedVariables false
set_option linter.unusedSimpArgs false
def SpotsV (w:World) (v:Value) (L:List (Int×Int)):Prop:=
 ∃A c,v= .slice A L.length c/\L.length<=1000/\(0<L.length->∃b off,A=some ⟨b,off,none⟩/\b<w.heap.size/\∀j (h:j<L.length),w.cell? ⟨b,off+j*2,none⟩=some (.int .i64 L[j].1)/\w.cell? ⟨b,off+j*2+1,none⟩=some (.int .i64 L[j].2))
theorem SpotsV.le {w W:World} {v:Value} {L:List (Int×Int)} (h:SpotsV w v L) (hb:Le w W):SpotsV W v L:=by
 obtain⟨A,c,n,k,l⟩:=h;refine⟨A,c,n,k,λi=>?_⟩;obtain⟨b,off,m,d,f⟩:=l i;exact⟨b,off,m,Nat.lt_of_lt_of_le d hb.size,λj g=>⟨(Below.cell hb (p:=⟨b,_,none⟩) d).trans (f j g).1,(Below.cell hb (p:=⟨b,_,none⟩) d).trans (f j g).2⟩⟩
def qDo (x:Int×Int):List Value:=[.int .i64 x.1,.int .i64 x.2]
def qCT (L:List (Int×Int)):List Value:=L.flatMap qDo
theorem qLc (L:List (Int×Int)) (x:Int×Int):qCT (L++[x])=qCT L++[.int .i64 x.1,.int .i64 x.2]:=by
 unfold qCT;rw[List.flatMap_append];simp[qDo]
theorem qMR (L:List (Int×Int)):∀j (h:j<L.length),(qCT L)[j*2]? =some (.int .i64 L[j].1)/\(qCT L)[j*2+1]? =some (.int .i64 L[j].2):=by
 induction L with
 | nil=>intro j h;simp at h
 | cons x xs ih=>
  intro j h;have e:qCT (x::xs)=[.int .i64 x.1,.int .i64 x.2]++qCT xs:=by unfold qCT;rw[List.flatMap_cons];rfl
  rw[e]
  cases j with
  | zero=>exact⟨rfl,rfl⟩
  | succ j=>
   obtain⟨b,c⟩:=ih j (by simpa using h);rw[List.getElem?_append_right (by simp;omega),List.getElem?_append_right (by simp;omega)];rw[show(j+1)*2 - [Value.int .i64 x.1,Value.int .i64 x.2].length =j*2 by simp;omega,show(j+1)*2+1 - [Value.int .i64 x.1,Value.int .i64 x.2].length =j*2+1 by simp;omega];exact⟨b,c⟩
theorem SpotsV.of_row {w:World} {base:Nat} {e:TypeId} {v:Value} {L:List (Int×Int)} (h:w.ownsRow base e 2 v L.length (qCT L)) (hl:L.length<=1000):SpotsV w v L:=by
 have b:=h
 rcases h.2 with⟨rfl,hx⟩| ⟨g,cap,cur,rfl,hbg,hg,hnc,hcm,hcs,htake⟩
 ·have i:L=[]:=by
   cases L with
   | nil=>rfl
   | cons x xs=>simp at hx
  subst i;exact⟨none,0,rfl,hl,λh=>absurd h (Nat.lt_irrefl 0)⟩
 ·refine⟨some ⟨g,0,none⟩,cap,rfl,hl,λ_=>⟨g,0,rfl,(gsl hg),λj f=>?_⟩⟩;obtain⟨c,d⟩:=qMR L j f;rw[Nat.zero_add];exact⟨by rw[b.cellAt (j*2) (by omega)];exact c,by rw[b.cellAt (j*2+1) (by omega)];exact d⟩
theorem qSS (W:World) (x:Int×Int) (e:TypeId):∀(j:Nat) (u:Value),[Value.int .i64 x.1,Value.int .i64 x.2][j]? =some u->(W.alloc (.cells #[.int .i64 x.1,.int .i64 x.2] e)).cell? ((⟨W.heap.size,0,none⟩:Addr).add j)=some u:=by
 intro j u c;have d:j<2:=(List.getElem?_eq_some_iff.1 c).1;have b:(⟨W.heap.size,0,none⟩:Addr).add j=⟨W.heap.size,j,none⟩:=by unfold Addr.add;split<;>simp_all
 rw[b,World.cell?_alloc_at _ _ _ _ rfl]
 match j,d with
 | 0,_=>simpa using c
 | 1,_=>simpa using c
theorem qRt:(Tryz.prog.info? 41).map (λi=>(i.zero,i.size,i.bytes))=some (some (.agg #[.int .i64 0,.int .i64 0]),2,16):=by kernel_rfl
def resRel:WRel:=⟨λa b=>a.heap.size<=b.heap.size/\∀v c res,IsResT a v c res->IsResT b v c res,λw=>⟨Nat.le_refl _,λ_ _ _ h=>h⟩,λh k=>⟨Nat.le_trans h.1 k.1,λv c r x=>k.2 v c r (h.2 v c r x)⟩,λw=>⟨Nat.le_refl _,λ_ _ _ h=>h.le Le.drew⟩⟩
theorem qCD {a b:World} (h:Le a b):resRel.r a b:=⟨h.size,λ_ _ _ x=>x.le h⟩
def codeG:Except Int G2->Int
 | .ok _=>0
 | .error z=>z
theorem IsResT.codeG {w:World} {v:Value} {c:Int} {res:Except Int G2} (h:IsResT w v c res):c=codeG res:=by
 cases res with
 | ok g=>exact h.2
 | error z=>exact h.2
def RPred.pair (res:Except Int G2):MPredR resRel:=⟨λv w=>∃v',v= .tuple #[v',.int .i64 (codeG res)]/\IsResT w v' (codeG res) res,λ_ _ _ hb ⟨v',e,h⟩=>⟨v',e,hb.2 _ _ _ h⟩⟩
def RPred.val (res:Except Int G2):MPredR resRel:=⟨λv w=>IsResT w v (codeG res) res,λ_ _ _ hb h=>hb.2 _ _ _ h⟩
def GBox8 (e0 al st:Nat) (V1:World) (t:TypeId):JRel:=λD x W=>Le V1 W/\(D st=true->D e0=true/\D al=true)/\(D al=true->∃k,x al= .pointer (some ⟨k,0,none⟩)/\V1.heap.size<=k∧
 ((D st=false/\W.heap[k]? =some (.cells qEP t))∨(D st=true/\∃fs1 fA1 fn1 fc1 ft1 fB1 fm1 fd1 fs2 fA2 fn2 fc2 ft2 fB2 fm2 fd2,x e0= .agg #[.bool fs1,.slice fA1 fn1 fc1,.bool ft1,.slice fB1 fm1 fd1,.bool fs2,.slice fA2 fn2 fc2,.bool ft2,.slice fB2 fm2 fd2]/\W.heap[k]? =some (.cells #[.bool fs1,.slice fA1 fn1 fc1,.bool ft1,.slice fB1 fm1 fd1,.bool fs2,.slice fA2 fn2 fc2,.bool ft2,.slice fB2 fm2 fd2] t))))
section
variable {e0 al st:Nat} {V1:World} {t:TypeId} {D:Nat->Bool} {x:Nat->Value} {W W':World} {v:Value}
theorem GBox8.keep {i:Nat} (h:GBox8 e0 al st V1 t D x W) (h1:(i==al||i==st||i==e0)=false) (hle:Le W W'):GBox8 e0 al st V1 t (updB D i) (updV x i v) W':=by
 simp only[Bool.or_eq_false_iff,beq_eq_false_iff_ne]at h1;obtain⟨⟨N,Q⟩,O⟩:=h1;obtain⟨a,b,c⟩:=h;have j:updB D i al=D al:=by unfold updB;rw[if_neg (Ne.symm N)]
 have l:updB D i st=D st:=by unfold updB;rw[if_neg (Ne.symm Q)]
 have g:updB D i e0=D e0:=by unfold updB;rw[if_neg (Ne.symm O)]
 have J:updV x i v al=x al:=by unfold updV;rw[if_neg (Ne.symm N)]
 have I:updV x i v e0=x e0:=by unfold updV;rw[if_neg (Ne.symm O)]
 unfold GBox8;rw[j,l,g,J,I];refine⟨a.trans hle,b,λh=>?_⟩;obtain⟨k,L,M,⟨d,f⟩| ⟨d,E,m,B,q,G,o,z,s,F,n,C,r,H,p,A,y,f,P⟩⟩:=c h
 ·exact⟨k,L,M,.inl ⟨d,bxl hle f⟩⟩
 ·exact⟨k,L,M,.inr ⟨d,E,m,B,q,G,o,z,s,F,n,C,r,H,p,A,y,f,bxl hle P⟩⟩
theorem GBox8.take (h:GBox8 e0 al st V1 t D x W) (hD:D e0=false) (n:(al==e0||st==e0)=false):GBox8 e0 al st V1 t (updB D e0) (updV x e0 v) W:=by
 simp only[Bool.or_eq_false_iff,beq_eq_false_iff_ne]at n;obtain⟨a,b,c⟩:=h
 have j:D st=false:=by
  cases e:D st with
  | false=>rfl
  | true=>have:=(b e).1;rw[hD]at this;cases this
 have f:updB D e0 al=D al:=by unfold updB;rw[if_neg n.1]
 have g:updB D e0 st=D st:=by unfold updB;rw[if_neg n.2]
 have i:updV x e0 v al=x al:=by unfold updV;rw[if_neg n.1]
 unfold GBox8;rw[f,g,i];refine⟨a,λh=>(by rw[j]at h;cases h),λh=>?_⟩;obtain⟨k,l,m,⟨d,o⟩| ⟨d,-⟩⟩:=c h
 ·exact⟨k,l,m,.inl ⟨d,o⟩⟩
 ·rw[j]at d;cases d
theorem GBox8.make (h:GBox8 e0 al st V1 t D x W) (hD:D al=false) (n:(st==al)=false):
  GBox8 e0 al st V1 t (updB D al) (updV x al (.pointer (some ⟨W.heap.size,0,none⟩))) (W.alloc (.cells qEP t)):=by
 simp only[beq_eq_false_iff_ne]at n;obtain⟨a,b,c⟩:=h
 have f:D st=false:=by
  cases e:D st with
  | false=>rfl
  | true=>have:=(b e).2;rw[hD]at this;cases this
 have d:updB D al st=D st:=by unfold updB;rw[if_neg n]
 refine⟨a.trans (qAB _ _),λh=>(by rw[d,f]at h;cases h),λ_=>⟨W.heap.size,by unfold updV;rw[if_pos rfl],a.size,.inl ⟨by rw[d];exact f,qCN _ _⟩⟩⟩
theorem GBox8.ready (h:GBox8 e0 al st V1 t D x W) (h1:D al=true) (h2:D st=false):∃k,x al= .pointer (some ⟨k,0,none⟩)/\V1.heap.size<=k/\W.heap[k]? =some (.cells qEP t):=by
 obtain⟨k,c,d,⟨b,f⟩| ⟨b,-⟩⟩:=h.2.2 h1
 ·exact⟨k,c,d,f⟩
 ·rw[h2]at b;cases b
theorem GBox8.put {k:Nat} {fs1 ft1 fs2 ft2:Bool} {fA1 fB1 fA2 fB2:Option Addr} {fn1 fc1 fm1 fd1 fn2 fc2 fm2 fd2:Nat} (h:GBox8 e0 al st V1 t D x W) (h1:D al=true) (h3:D e0=true) (hk:x al= .pointer (some ⟨k,0,none⟩)) (hV:V1.heap.size<=k)
  (hx:W.heap[k]? =some (.cells qEP t)) (hf:x e0= .agg #[.bool fs1,.slice fA1 fn1 fc1,.bool ft1,.slice fB1 fm1 fd1,.bool fs2,.slice fA2 fn2 fc2,.bool ft2,.slice fB2 fm2 fd2]) (n:(al==st||e0==st)=false):
  GBox8 e0 al st V1 t (updB D st) (updV x st v) ((((((((W.setCell ⟨k,0,none⟩ (.bool fs1)).setCell ⟨k,1,none⟩ (.slice fA1 fn1 fc1)).setCell ⟨k,2,none⟩ (.bool ft1)).setCell ⟨k,3,none⟩ (.slice fB1 fm1 fd1)).setCell ⟨k,4,none⟩ (.bool fs2)).setCell ⟨k,5,none⟩ (.slice fA2 fn2 fc2)).setCell ⟨k,6,none⟩ (.bool ft2)).setCell ⟨k,7,none⟩ (.slice fB2 fm2 fd2))/\resRel.r W ((((((((W.setCell ⟨k,0,none⟩ (.bool fs1)).setCell ⟨k,1,none⟩ (.slice fA1 fn1 fc1)).setCell ⟨k,2,none⟩ (.bool ft1)).setCell ⟨k,3,none⟩ (.slice fB1 fm1 fd1)).setCell ⟨k,4,none⟩ (.bool fs2)).setCell ⟨k,5,none⟩ (.slice fA2 fn2 fc2)).setCell ⟨k,6,none⟩ (.bool ft2)).setCell ⟨k,7,none⟩ (.slice fB2 fm2 fd2)):=by
 simp only[Bool.or_eq_false_iff,beq_eq_false_iff_ne]at n;have j:=qAT W k (.bool fs1) (.slice fA1 fn1 fc1) (.bool ft1) (.slice fB1 fm1 fd1) (.bool fs2) (.slice fA2 fn2 fc2) (.bool ft2) (.slice fB2 fm2 fd2);have f:updB D st al=D al:=by unfold updB;rw[if_neg n.1]
 have d:updB D st e0=D e0:=by unfold updB;rw[if_neg n.2]
 have b:updB D st st=true:=by unfold updB;rw[if_pos rfl]
 have i:updV x st v al=x al:=by unfold updV;rw[if_neg n.1]
 have g:updV x st v e0=x e0:=by unfold updV;rw[if_neg n.2]
 refine⟨⟨qBC h.1 hV _ _ _ _ _ _ _ _,λ_=>⟨by rw[d];exact h3,by rw[f];exact h1⟩,λ_=>⟨k,by rw[i];exact hk,hV,.inr ⟨b,fs1,fA1,fn1,fc1,ft1,fB1,fm1,fd1,fs2,fA2,fn2,fc2,ft2,fB2,fm2,fd2,by rw[g];exact hf,qAc hx _ _ _ _ _ _ _ _⟩⟩⟩,Nat.le_of_eq j.1.symm,λv c r l=>l.touch (qAu hx) j⟩
theorem GBox8.full (h:GBox8 e0 al st V1 t D x W) (h1:D al=true) (h2:D st=true):
  ∃k,x al= .pointer (some ⟨k,0,none⟩)/\V1.heap.size<=k/\∃fs1 fA1 fn1 fc1 ft1 fB1 fm1 fd1 fs2 fA2 fn2 fc2 ft2 fB2 fm2 fd2,x e0= .agg #[.bool fs1,.slice fA1 fn1 fc1,.bool ft1,.slice fB1 fm1 fd1,.bool fs2,.slice fA2 fn2 fc2,.bool ft2,.slice fB2 fm2 fd2]/\W.heap[k]? =some (.cells #[.bool fs1,.slice fA1 fn1 fc1,.bool ft1,.slice fB1 fm1 fd1,.bool fs2,.slice fA2 fn2 fc2,.bool ft2,.slice fB2 fm2 fd2] t):=by
 obtain⟨k,c,d,⟨b,-⟩| ⟨b,f⟩⟩:=h.2.2 h1
 ·rw[h2]at b;cases b
 ·exact⟨k,c,d,f⟩
end
theorem GBox8.start (e0 al st:Nat) (V1:World) (t:TypeId) (n:Nat) (hn:(decide (al<n)&&decide (st<n))=true):∀D x,(∀j,j<n->D j=false)->GBox8 e0 al st V1 t D x {V1 with drawn:=V1.drawn+1}:=λD x hD=>by
 simp only[Bool.and_eq_true,decide_eq_true_eq]at hn;exact⟨Le.drew,λh=>(by rw[hD st hn.2]at h;cases h),λh=>(by rw[hD al hn.1]at h;cases h)⟩
section
variable {e0 mv cl ld st:Nat} {V1:World} {X:Nat} {old:Array Value} {t:TypeId} {D:Nat->Bool} {x:Nat->Value} {W W':World} {v:Value}
end
end Go.Proofs.YtabfaobakmjiaaaGreat

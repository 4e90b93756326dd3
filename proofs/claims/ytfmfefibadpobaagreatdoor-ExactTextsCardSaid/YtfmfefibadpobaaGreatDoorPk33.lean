/- Texts: (nat).text. -/
import Derived.Test.YtfmfefibadpobaaGreatDoorPk31
namespace Go.Proofs.YtfmfefibadpobaaGreatDoor
set_option maxRecDepth 100000
set_option maxHeartbeats 2000000
open Go.RowKit Go.Shelf
set_option linter.unusedVariables false
set_option linter.unusedSimpArgs false
attribute [local go_sem] Oper.semAt_some
theorem qBy {l n:Nat} {P:Program} {f:FuncId} {args:Array Value} {w:World} {R:Ending->World->Prop} (h:Calls P f args w R):CallsIn (Fence.wide.inRound l) n P f args w R:=callsIn_wide.2 h
def TxK (H b:Nat) (W W':World):Prop:=Below H W W'/\Lib.OthersKept 5 (some b) W W'
theorem TxK.mk {H b:Nat} {W W':World} (h1:Below H W W') (h2:Lib.OthersKept 5 (some b) W W'):TxK H b W W':=⟨h1,h2⟩
theorem TxK.trans {H b:Nat} {A B C:World} (h:TxK H b A B) (k:TxK H b B C):TxK H b A C:=⟨h.1.trans k.1,h.2.trans k.2⟩
theorem TxK.of_le {H b:Nat} {W W':World} (hH:H<=W.heap.size) (h:Le W W'):TxK H b W W':=⟨Below.mono h hH,λk o hk _ _=>(h.block k (gsl hk)).trans hk⟩
theorem TxK.from {H b:Nat} {W W':World} (h:TxK H b W W') (B:Nat) {cs:Array Value} {t:TypeId} {fz:Nat×Nat} (hb:W.heap[b]? =some (.cells cs t fz)):KeepsFrom B W W':=
 ⟨h.1.size,λk o _ hk ho=>h.2 k o hk (λe=>by cases e;rw[hb]at hk;cases hk;cases ho) (λc f e=>by subst e;cases ho)⟩
theorem TxK.kept {H b:Nat} {W W':World} (h:TxK H b W W') (Bs:List Nat) (hB:∀B∈Bs,B≠b/\∃cs,W.heap[B]? =some (.cells cs 42)):Kept H Bs W W':=
 ⟨h.1,λB hm=>by
  obtain⟨h1,cs,h2⟩:=hB B hm;rw[h2]
  exact h.2 B _ h2 (λe=>h1 (Option.some.inj e)) (λc f e=>by injection e with e1 e2;revert e2;decide)⟩
theorem IsTx.block {B b:Nat} {l:List UInt8} {w:World} (h:IsTx B b l w):∃cs,w.heap[b]? =some (.cells cs 93):=by
 rcases h with⟨-,v,h,-⟩| ⟨-,v,h,-⟩<;>exact⟨_,h⟩
theorem IsTx.grown {B b:Nat} {l:List UInt8} {W W':World} {row:Option Nat} (h:IsTx B b l W) (hg:W.grownBy W' row) (hr:∀r,row=some r->∃o:Obj,W.heap[r]? =some o/\o.isCells=false):IsTx B b l W':=by
 have f:∀p,Lib.BuilderAtF 93 5 B b p (Lib.byteCells l) W->Lib.BuilderAtF 93 5 B b p (Lib.byteCells l) W':=λp ⟨m,v,j,c,k⟩=>by
  have n:some b≠row:=λe=>by
   obtain⟨o,d,i⟩:=hr b e.symm;rw[j]at d
   cases d
   cases i
  refine⟨m,v,(hg.block b (gsl j) n).trans j,c.kept hg ?_,k⟩
  rcases c.2 with⟨rfl,-⟩| ⟨g,cap,cur,fz,rfl,-,hh,-⟩
  ·exact .inl rfl
  ·refine .inr λe=>?_;obtain⟨o,d,i⟩:=hr g e.symm;rw[hh]at d
   cases d
   cases i
 exact h.elim (λx=> .inl (f _ x)) (λx=> .inr (f _ x))
theorem IsTx.le {B b:Nat} {l:List UInt8} {W W':World} (h:IsTx B b l W) (k:Le W W'):IsTx B b l W':=
 have key:∀p,Lib.BuilderAtF 93 5 B b p (Lib.byteCells l) W->Lib.BuilderAtF 93 5 B b p (Lib.byteCells l) W':=λp ⟨hB,v,hb,hown,hne⟩=>by
  refine⟨hB,v,(k.block b (gsl hb)).trans hb,?_,hne⟩;refine⟨hown.1,?_⟩
  rcases hown.2 with h1| ⟨g,cap,cur,fz,h1,h2,hh,h3⟩
  ·exact .inl h1
  ·exact .inr ⟨g,cap,cur,fz,h1,h2,(k.block g (gsl hh)).trans hh,h3⟩
 h.elim (λx=> .inl (key _ x)) (λx=> .inr (key _ x))
structure TxI (W0:World) (n₀ b:Nat) (Bs:List Nat) (a:Nat) (pre:List (Fin (dg a).length)) (W:World):Prop where
 kept:Kept n₀ Bs W0 W
 size:W0.heap.size<=W.heap.size
 ex:∃acc:List UInt8,IsTx n₀ b acc W/\acc.length<=9*pre.length/\(pre<+:List.finRange (dg a).length ->acc=txG ((dg a).drop ((dg a).length - pre.length)))
theorem TxI.from (W0:World) (n₀ b:Nat) (Bs:List Nat) (a N0:Nat) (h:W0.heap.size<=N0) (hn:n₀<=W0.heap.size) (hBs:∀B∈Bs,B<W0.heap.size):OwnFrom N0 (TxI W0 n₀ b Bs a):=by
 rintro s X Y o ⟨i,n,f,j,l,m⟩ d c;exact⟨i.trans ⟨(Below.refl _ _).grown d (by omega) λk e=>by have:=(c k e).1;omega,λB g=>d.block B (by have:=hBs B g;omega) (λe=>by have:=(c _ e.symm).1;have:=hBs B g;omega)⟩,Nat.le_trans n d.size,f,j.grown d (λr e=>(c r e).2),l,m⟩
theorem qHc {l acc:List UInt8} {xs:List Nat} {m k:Nat} (hm:m<xs.length) (hk:xs.length - k=m+1) (ha:acc=txG (xs.drop (xs.length - k))) (hl:if m+1<xs.length then l=padK 9 xs[m]else l=Lib.decDigits xs[m]):acc++l=txG (xs.drop m):=by
 rw[hk]at ha;rw[qDb hm,ha]
 by_cases h:m+1<xs.length
 ·rw[if_pos h]at hl ⊢;rw[hl]
 ·rw[if_neg h]at hl ⊢;rw[hl,List.drop_eq_nil_of_le (by omega)]
  rfl
theorem qFo (L:Nat->Prop) (a:Nat) (va:Value) (w:World) (ha:NumL L .u32 w va a) (hw:TxW w) (hma:(dg a).length <=100000):
  Calls Tryz.prog 31 #[va] w λe w'=>e= .returned (.string (baL (txN a)))/\Le w w':=by
 have aY:=ha.arr;obtain⟨Aa,ca,rfl,a1,a2,aN,a3⟩:=ha;unfold maxLen at a2;have hB:=qAD;have⟨aZ,bT,bU,bv,b8⟩:=hyd5 aY a3 aN hB hw;clear hw hB aN a3 aY;refine(callsIn_wide (n:=5)).1 ?_;refine callsIn_of_wp_marks Tryz.func31 rfl trivial ?_ rfl;simp only[Tryz.ntmps31,List.size_toArray,List.length_cons,List.length_nil,Nat.reduceAdd,Nat.reduceSub,Array.replicate_succ,Array.replicate_zero,List.push_toArray,List.append_toArray,List.nil_append,List.cons_append];refine wpIn_wide.2 ?_;go_wp2_with (go_at_call 53;((with_reducible refine(qBq _ _ _ _).mono ?_);rintro e w' ⟨rfl,rfl⟩));obtain⟨W0,aX,cb,ar,h0,h1,h2⟩:=qCu w (.cells #[.slice Aa (dg a).length ca] 42) (.cells #[.pointer none,.slice none 0 0] 93) (.cells #[.slice Aa (dg a).length ca] 42);rw[aX];clear aX;have ax:IsTx w.heap.size (w.heap.size+1) [] W0:= .inl ⟨by omega,_,h1,World.ownsRowF_nil _ _ _ _,by simp[Value.ownBlock]⟩;have t:=qB4 (dg a) _ w W0 (w.heap.size+1+1) w.heap.size aZ.out (by omega) (by omega) (Nat.le_refl _) ar (qAB h2);refine(wpIn_wide (n:=5)).1 ?_;refine wpIn_rangeFunc_ownG rfl (by omega) (gf:=78) (lb:=#[.pointer (some ⟨w.heap.size+1+1,0,none⟩)]) rfl trivial (enters_of Tryz.func78 (by kernel_rfl) rfl)
  t Kept.trans (Kept.put (by omega) (by simp;omega)) (Below.refl _ _) (λ_=>rfl)
  (TxI W0 w.heap.size (w.heap.size+1) [w.heap.size,w.heap.size+1+1] a) (λ_ _ _=>False) (TxI.from _ _ _ _ _ _ (Nat.le_refl _) (by omega) (by simp;omega)) (λ_ _ _ _ _ hs _ _=>hs)
  ⟨Kept.refl _ _ _,Nat.le_refl _,[],ax,Nat.zero_le _,λ_=>by rw[List.length_nil,Nat.sub_zero,List.drop_eq_nil_of_le (Nat.le_refl _)];rfl⟩ ?_ ?_ ?_ ?_ ?_
 rotate_left
 ·intro l x W K hK;dsimp only[qDN];gi_wp2;exact hK
 ·rintro l aH x W ⟨N,k2,i,P,g2,g3⟩ b4;have hx:=x.2;obtain⟨m,hm⟩:∃m,(dg a).length - 1 - x.1=m:=⟨_,rfl⟩;have bj:m<(dg a).length :=by omega
  have av:=(N.2 w.heap.size (by simp)).trans h0;have aS:=(N.2 (w.heap.size+1+1) (by simp)).trans h2;have hH:=qAB av;have H:w.heap.size<W.heap.size:=by omega
  obtain⟨g,hg⟩:∃g,(dg a)[m]?.getD 0=g:=⟨_,rfl⟩;have a9:(dg a)[m]=g:=by rw[<-hg];simp[bj]
  have M:g<B9:=by rw[<-a9];exact qAS _ _ _
  have bW:g<1000000000:=by rw[<-bv.out];exact M
  have aj:TxW W:=b8.out.le (ar.trans N.1);obtain⟨ln,A⟩:∃ln,(Lib.decDigits g).length =ln:=⟨_,rfl⟩;have bK:ln<=9:=by rw[<-A];exact qFj g 8 (by omega)
  have z:=λ(W:World) (h:TxW W)=>qHb g W M h;obtain⟨O,E⟩:∃O,Lib.decDigits g=O:=⟨_,rfl⟩;rw[E]at A z;have b5:=qAP O;rw[A]at b5;obtain⟨cs,q⟩:=P.block
  have ay:∀B∈[w.heap.size,w.heap.size+1+1],B≠w.heap.size+1/\∃cs,W.heap[B]? =some (.cells cs 42):=λB hB=>by
   rw[List.mem_cons,List.mem_singleton]at hB
   rcases hB with rfl|rfl
   ·exact⟨by omega,_,av⟩
   ·exact⟨by omega,_,aS⟩
  have an:∀B∈[w.heap.size+1+1],B≠w.heap.size+1/\∃cs,W.heap[B]? =some (.cells cs 42):=λB hB=>ay B (List.mem_cons_of_mem _ hB)
  have r:∀(l2:List UInt8) (W2:World) (aa:Act),TxK w.heap.size (w.heap.size+1) W W2->IsTx w.heap.size (w.heap.size+1) (i++l2) W2->l2.length<=9->(if m+1<(dg a).length then l2=padK 9 g else l2=O)->ownPostG W0.heap.size (Kept w.heap.size [w.heap.size+1+1]) (TxI W0 w.heap.size (w.heap.size+1) [w.heap.size,w.heap.size+1+1] a) (λ_ _ _=>False) (aH++[x]) W .normal aa W2:=λl2 W2 aa kk kI kl kv=>by
   refine⟨kk.from _ q,kk.kept _ an,N.trans (kk.kept _ ay),Nat.le_trans k2 kk.1.size,i++l2,kI,by rw[List.length_append,List.length_append,List.length_singleton];omega,λhp=>?_⟩;obtain⟨p1,p2⟩:=qBp hp;rw[List.length_append,List.length_singleton,show(dg a).length - (aH.length+1)=m by omega];refine qHc bj (by omega) (g3 p1) ?_;rw[a9,E];exact kv
  have ak:i.length<=9*100000:=by omega
  rw[hm,hg];clear t N g2 g3 h0 h1 h2 a9 ax ay an q av aS cs
  by_cases hc:m+1<(dg a).length
  ·obtain⟨c,a7⟩:∃c,9 - ln=c:=⟨_,rfl⟩;have bV:(9:Int) - (ln:Int)=(c:Int):=by omega
   have a6:c<=9:=by omega
   have ad:=λW=>qGi c W a6;obtain⟨rp,ae⟩:∃rp,List.replicate c (48:UInt8)=rp:=⟨_,rfl⟩;have bm:rp.length=c:=by rw[<-ae,List.length_replicate]
   have ac:rp++O=padK 9 g:=by
    have h:=qFg 9 g (by decide) (by omega);rw[E,A,a7,ae]at h;exact h
   rw[ae]at ad;have jc:(m:Int)+1<((dg a).length :Int):=by omega
   have bf:i.length+rp.length<=1000000000:=by omega
   have Y:(i++rp).length +O.length<=1000000000:=by rw[List.length_append];omega
   have j:=λW2 aa N k2=>r (rp++O) W2 aa N k2 (by rw[List.length_append];omega) (by rw[if_pos hc];exact ac);have⟨b1,a8,bd,X,bh,bJ,b7,F⟩:=hyd8 hg r M aj A a7 ac z;have⟨aD,bO,bN,bc,bl,bg,Z,b6⟩:=hyd8 ad ae bm E ak bf Y hm;have⟨J,b0,bI,s,d⟩:=hyd5 P hc a6 j H;clear H j a6 hc P hm Y bf ak E bm ae ad z ac a7 A aj M r hg;gi_wp2_with (first | (refine⟨trivial,?_⟩;gi_at_call 54;refine(callsIn_wide.2 (F.out _ X.out)).mono ?_;rintro e w' ⟨rfl,f⟩;have Q:=J.out.le f;have kA:=TxK.of_le (b:=w.heap.size+1) (Nat.le_of_lt d.out) f;have bw:=(Below.cell f (p:=⟨w.heap.size,0,none⟩) d.out).trans hH;have k:=Lib.hid f;have R:=Lib.hid Q;have aF:=Lib.hid kA;clear kA Q f)| (refine⟨trivial,?_⟩;gi_at_call 56;refine(callsIn_wide.2 (aD.out _)).mono ?_;rintro e w' ⟨rfl,I⟩;have aT:=R.out.le I;have kB:=aF.out.trans (TxK.of_le (Nat.le_trans (Nat.le_of_lt d.out) k.out.size) I);have ab:=Lib.hid I;have aU:=Lib.hid aT;have b9:=Lib.hid kB;clear kB aT I)| (refine⟨trivial,?_⟩;gi_at_call 55;have qq:=qDm w.heap.size (w.heap.size+1) i rp _ aU.out bg.out (Nat.le_trans (Nat.le_trans (Nat.le_of_lt d.out) k.out.size) ab.out.size);with_reducible refine(qBy qq).mono ?_;clear qq;rintro e w' ⟨⟨v1,rfl⟩,aV,a5,aC⟩;have kC:=b9.out.trans (TxK.mk a5 aC);have aW:=Lib.hid aV;have ba:=Lib.hid a5;have bM:=Lib.hid aC;have bA:=Lib.hid kC;clear kC aC a5 aV)| (refine⟨trivial,?_⟩;gi_at_call 55;have qq:=qDm w.heap.size (w.heap.size+1) (i++rp) O _ aW.out Z.out (Nat.le_trans (Nat.le_trans (Nat.le_trans (Nat.le_of_lt d.out) k.out.size) ab.out.size) ba.out.size);with_reducible refine(qBy qq).mono ?_;clear qq;rintro e w' ⟨⟨v2,rfl⟩,S,C,G⟩;have kD:=bA.out.trans (TxK.mk C G);have T:=Lib.hid S;have bb:=Lib.hid C;have bk:=Lib.hid G;have aG:=Lib.hid kD;clear kD G C S))
   refine s.out _ _ aG.out ?_;rw[<-List.append_assoc];exact T.out
  ·have jc:¬(m:Int)+1<((dg a).length :Int):=by omega
   have Y:i.length+O.length<=1000000000:=by omega
   have j:=λW2 aa N k2=>r O W2 aa N k2 (by omega) (by rw[if_neg hc]);have⟨b1,a8,bd,X,bh,bl,F,bc⟩:=hyd8 hg r M aj A ak z E;have⟨Z,b6,J,b0,s,d⟩:=hyd6 Y hm P hc j H;clear H j hc P hm Y E z ak A aj M r hg;gi_wp2_with (first | (refine⟨trivial,?_⟩;gi_at_call 54;refine(callsIn_wide.2 (F.out _ X.out)).mono ?_;rintro e w' ⟨rfl,f⟩;have Q:=J.out.le f;have kA:=TxK.of_le (b:=w.heap.size+1) (Nat.le_of_lt d.out) f;have bw:=(Below.cell f (p:=⟨w.heap.size,0,none⟩) d.out).trans hH;have k:=Lib.hid f;have R:=Lib.hid Q;have aF:=Lib.hid kA;clear kA Q f)| (refine⟨trivial,?_⟩;gi_at_call 55;have qq:=qDm w.heap.size (w.heap.size+1) i O _ R.out Z.out (Nat.le_trans (Nat.le_of_lt d.out) k.out.size);with_reducible refine(qBy qq).mono ?_;clear qq;rintro e w' ⟨⟨v2,rfl⟩,S,C,G⟩;have kD:=aF.out.trans (TxK.mk C G);have T:=Lib.hid S;have bb:=Lib.hid C;have bk:=Lib.hid G;have aG:=Lib.hid kD;clear kD G C S));exact s.out _ _ aG.out T.out
 ·rintro D ys W hD rfl ⟨N,k2,i,P,g2,g3⟩ ai;have co:=qAB ((N.2 w.heap.size (by simp)).trans h0);have o:=g3 (qBe _);rw[List.length_finRange,Nat.sub_self,List.drop_zero]at o;have U:Below w.heap.size w W:=ar.trans N.1;have y:w.heap.size<=W.heap.size:=U.size;clear t N h0 h1 h2 g3 ax
  by_cases hz:a=0
  ·have be:(dg a).length =0:=by rw[hz,qAI];rfl
   have b2:(((dg a).length :Int)==0)=true:=by rw[be];rfl
   have b3:((dg a).length :Int)=0:=by omega
   have af:txN a=[48]:=by rw[hz];rfl
   clear hz;have⟨V,v,J,bt,a0,ag,aw⟩:=hyd7 U ai P g2 o af y;clear y af o g2 P ai U;go_wp2;refine qBC w.heap.size [{target:= .collected D,args:=#[]}] _ ⟨⟨D,rfl,by omega,v.out,by simp⟩,trivial⟩ λw9 hb aA=>?_;refine⟨_,results_tmp rfl _ _ _,?_,V.out.trans hb⟩;rw[ag.out]
   rfl
  ·have be:0<(dg a).length :=dg_length_pos.2 hz;have b2:(((dg a).length :Int)==0)=false:=beq_eq_false_iff_ne.2 (by omega);have b3:¬((dg a).length :Int)=0:=by omega
   have bX:¬(dg a).length =0:=by omega
   have af:txN a=i:=by rw[o,qDG,qFD a hz]
   have q1:=qGj w.heap.size (w.heap.size+1) i W P y;have⟨V,v,bt,a0,ag,aw,cd,J⟩:=hyd8 U ai g2 o af y hz P;have bB:=hyd1 q1;clear q1 P hz y af o g2 ai U;go_wp2_with (fail);go_at_call 57;refine bB.out.mono ?_;rintro e W2 ⟨rfl,a4,aB⟩;obtain⟨cs,q⟩:=J.out.block;have am:W2.heap[D]? =some (.deferred (some [])):=aB D _ v.out (λe=>by cases e;rw[q]at v;cases v.out) (λc fz e=>by cases e);have ao:=V.out.trans a4;have⟨bH,bL,bz,au,az⟩:=hyd5 a4 aB q am ao;clear ao am q aB a4;go_wp2;refine qBC w.heap.size [{target:= .collected D,args:=#[]}] _ ⟨⟨D,rfl,by omega,au.out,by simp⟩,trivial⟩ λw9 hb aA=>?_;refine⟨_,results_tmp rfl _ _ _,?_,az.out.trans hb⟩;rw[ag.out]
   rfl
 ·rintro D cc aH W _ _ h _;exact h.elim
end Go.Proofs.YtfmfefibadpobaaGreatDoor

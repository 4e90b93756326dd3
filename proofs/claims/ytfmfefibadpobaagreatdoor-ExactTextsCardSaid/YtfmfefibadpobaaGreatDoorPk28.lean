/- Texts, the reference: number. -/
import Derived.Test.YtfmfefibadpobaaGreatDoorPk27
namespace Go.Proofs.YtfmfefibadpobaaGreatDoor
set_option maxRecDepth 100000
set_option maxHeartbeats 2000000
open Go.RowKit Go.Shelf
set_option linter.unusedVariables false
set_option linter.unusedSimpArgs false
theorem qGe {l:List UInt8} {k:Nat} (hk:k<l.length):l.take (k+1)=l.take k++[l[k]]:=by rw[List.take_succ_eq_append_getElem hk]
theorem qGf (l:List UInt8) (b:UInt8):decV 0 (l++[b])=decV 0 l*10+dvB b:=by rw[qC3];rfl
theorem qGg {l:List UInt8} (h:l.all digB=true):(dg (decV 0 l)).length <=l.length:=by
 refine qAf (Nat.lt_of_lt_of_le (qEX l h) ?_);exact Nat.pow_le_pow_left (by rw[qAD];decide) _
theorem qHI (d:Nat) (h:d<B9):qAG [d]=dg d:=by
 by_cases b:d=0
 ·subst b;rw[qAI]
  rfl
 ·rw[qCj h b];exact qB9 (l:=[]) b
def MPred.arrI (L:Nat->Prop) (l:List Nat):MPred:=⟨λv w=>ArrL L (gv .i64) w v l,λ_ _ _ hb h=>h.le hb⟩
theorem qH9 {L:Nat->Prop} {k:IntKind} {V:World} {g:Nat} (hL:∀b,V.heap.size<=b->L b) (t:TypeId):ArrL L (gv k) (V.alloc (.cells #[.int k g] t)) (.slice (some ⟨V.heap.size,0,none⟩) 1 1) [g]:=by
 refine⟨some ⟨V.heap.size,0,none⟩,1,rfl,Nat.le_refl _,by unfold maxLen;omega,nofun,λ_=>⟨V.heap.size,0,rfl,hL _ (Nat.le_refl _),by unfold World.alloc;show V.heap.size<(V.heap.push _).size;rw[Array.size_push];omega,λj c=>?_⟩⟩
 obtain rfl:j=0:=by simpa using c
 exact cell_of_row _ V.heap.size 0 _ _ _ (heap_alloc_new _ _)
theorem qDj {l:List UInt8} (h0:l≠[]) (h:l.all digB=true):numE l=some (decV 0 l):=by unfold numE;rw[if_neg h0,if_pos h]
theorem qHJ {l:List UInt8} {k:Nat} (hk:k<l.length) (h:digB l[k]=false):numE l=none:=by
 unfold numE
 split
 ·rfl
 ·split
  ·rename_i h2;have:=List.all_eq_true.1 h2 l[k] (List.getElem_mem hk);rw[h]at this
   cases this
  ·rfl
theorem qDZ (l:List UInt8):(⟨l.toArray⟩:ByteArray).size =l.length:=by simp[ByteArray.size]
theorem qDQ (P:Program) (t:TypeId) (l:List UInt8) (k:Nat) (h:P.underlying t=some .string) (hk:k<l.length) (W:World):(Instr.index t (.string ⟨l.toArray⟩) (.int .i64 (k:Int))).run P W= .ok (.int .u8 (l[k].toNat :Int)) W:=by
 rw[run_index_string W t _ .i64 (k:Int) h,dif_pos ⟨by omega,by rw[qDZ];omega⟩]
 rfl
theorem qFm {d:Nat} (h:d<=9):d<B9:=by rw[qAD];omega
theorem qEo:10<B9:=by rw[qAD];omega
theorem dg10:(dg 10).length <=100000000:=by rw[qCj qEo (by decide)];decide
theorem dg9 {d:Nat} (h:d<=9):(dg d).length <=100000000:=Nat.le_trans (qAf (k:=1) (by rw[Nat.pow_one];exact qFm h)) (by decide)
theorem qBM (L:Nat->Prop) (l:List UInt8) (w:World) (hL:Up w L) (hl:l.length<=2000):
  Calls Tryz.prog 26 #[strV l] w λe w'=>∃v,e= .returned (.tuple #[v,.bool (numE l).isSome])/\Le w w'/\NumL L .i64 w' v ((numE l).getD 0):=by
 obtain⟨N,hN⟩:∃N,l.length=N:=⟨_,rfl⟩;have aH:(⟨l.toArray⟩:ByteArray).size =N:=by rw[qDZ];exact hN
 have ah:=λk hk W=>qDQ Tryz.prog 9 l k Tryz.underlying9 hk W;unfold strV;generalize (⟨l.toArray⟩:ByteArray)=s at aH ah ⊢;have⟨S,P,az⟩:=hyd3 hN hL ah;clear ah hL hN;go_enter Tryz.func26,Tryz.ntmps26;go_wp2_with (fail);go_loopw [4,5] (λs i wr=>∃k:Nat,i= .int .i64 (k:Int)/\k<=N/\Hid ((l.take k).all digB=true)/\Hid (NumL L .i64 wr s (decV 0 (l.take k)))/\Hid (Below w.heap.size w wr)) (λ_ i _=>N - (intOf i).toNat)
 case atStart=>exact⟨0,rfl,Nat.zero_le _,Lib.hid rfl,Lib.hid (by unfold NumL;rw[show decV 0 (l.take 0)=0 from rfl,qAI];exact ArrL.nil _ _ _),Lib.hid (Below.refl _ _)⟩
 case round=>
  obtain⟨k,rfl,hk,f,c,O⟩:=hrel
  by_cases aE:k<N
  ·have ai:k<l.length:=by rw[S.out];exact aE
   have x:=qGe ai;have j1:(k:Int)<(N:Int):=by omega
   have j2:(0:Int)<=(k:Int):=by omega
   have ay:=az.out k ai;have m:=qHJ ai;have hB:l[k].toNat <256:=UInt8.toNat_lt _;obtain⟨b,A⟩:∃b,l[k]=b:=⟨_,rfl⟩;rw[A]at x ay hB m;obtain⟨B,r⟩:∃B,b.toNat=B:=⟨_,rfl⟩;rw[r]at ay hB
   by_cases h1:B<48
   ·have j3:(B:Int)<48:=by omega
    have F:=m (decide_eq_false (by omega));have⟨D,n,j,a1,Z,X,ae,t⟩:=hyd8 f c O x A r m F;clear F m r A x O c f;go_wp2;exact bodyPost_ret (v:= .tuple #[.slice none 0 0,.bool false]) (by simp[results,Tryz.results26,go_sem]) rfl ⟨_,by rw[t.out];rfl,j.out.out,by rw[t.out];unfold NumL;rw[show(none:Option Nat).getD 0=0 from rfl,qAI];exact ArrL.nil _ _ _⟩
   ·have j3:¬(B:Int)<48:=by omega
    by_cases h2:57<B
    ·have j4:57<(B:Int):=by omega
     have F:=m (decide_eq_false (by omega));have⟨D,n,j,a1,Z,X,ae,t⟩:=hyd8 f c O x A r m F;clear F m r A x O c f;go_wp2;exact bodyPost_ret (v:= .tuple #[.slice none 0 0,.bool false]) (by simp[results,Tryz.results26,go_sem]) rfl ⟨_,by rw[t.out];rfl,j.out.out,by rw[t.out];unfold NumL;rw[show(none:Option Nat).getD 0=0 from rfl,qAI];exact ArrL.nil _ _ _⟩
    ·have j4:¬57<(B:Int):=by omega
     have af:digB b=true:=decide_eq_true (by omega);obtain⟨d,hd⟩:∃d,B - 48=d:=⟨_,rfl⟩;have ag:dvB b=d:=by unfold dvB;rw[r];exact hd
     have aD:(B:Int) - 48=(d:Int):=by omega
     have ax:d<=9:=by omega
     have Y:(l.take (k+1)).all digB=true:=by rw[x,List.all_append,f.out,List.all_cons,af];rfl
     have aa:decV 0 (l.take (k+1))=decV 0 (l.take k)*10+d:=by rw[x,qGf,ag]
     have G:(dg (decV 0 (l.take k))).length <=2000:=by
      have h1:=qGg f.out;rw[List.length_take]at h1;omega
     have H:(dg (decV 0 (l.take k)*10)).length <=2001:=by
      have h1:=qBv (decV 0 (l.take k)) 10;have h2:(dg 10).length <=1:=qAf (by rw[qAD];decide);omega
     have aj:decV 0 (l.take (k+1))=decV 0 (l.take k)*10+d:=aa;obtain⟨a,ha⟩:∃a,decV 0 (l.take k)=a:=⟨_,rfl⟩;rw[ha]at c G H aj;clear aa x m;have C:=c.out;clear c;obtain⟨A1,c1,aF⟩:=C.slice;subst aF;have⟨D,ad,a0,ak,al,T,j,aR⟩:=hyd8 f Y aj G H C O ha;have⟨Z,X,aJ,aS,aK⟩:=hyd5 A r af hd ag;clear ag hd af r A ha O C H G aj Y f;go_wp2_with (fail);refine qDw (R:=leRel) 11 [some 22,some 23,some 24,some 25,some 26,some 27,some 28,some 29,some 30,some 31,some 32,some 4] [[],[],[0,1],[],[],[3,4],[5],[6],[7],[8],[2,9],[10]]
      [.eq (.slice A1 (dg a).length c1),MPred.num L .i64 10,MPred.num L .i64 (a*10),.eq (.string s),.eq (.int .i64 (k:Int)),.eq (.int .u8 (B:Int)),.eq (.int .u8 (d:Int)),.eq (.int .i64 (d:Int)),MPred.arrI L [d],MPred.num L .i64 d,MPred.num L .i64 (a*10+d)] (λ_ _=>False) (by kernel_rfl) (by kernel_rfl) (by kernel_rfl) (by kernel_rfl) (by kernel_rfl) ?_ (λ_ _ _ _ h=>h.elim) ?_
     ·simp only[List.take_succ_cons,List.take_zero];refine sMc rfl ?_ (sMc rfl ?_ (sMc rfl ?_ (sMc rfl ?_ (sMc rfl ?_ (sMc rfl ?_ (sMc rfl ?_ (sMc rfl ?_ (sMc rfl ?_ (sMc rfl ?_ (sMc rfl ?_ (qBG)))))))))))
      ·intro y W q p Q hK M;simp only[fA]at hK ⊢;go_wp2;exact hK _ _ lrR rfl
      ·intro y W q p Q hK M;simp only[fA]at hK ⊢;have kq:=qAt (L:=L) (k:= .i64) (V:=W) (g:=10) ((P.out.le j.out.out).le q) (by omega) (qEo) 3;have kl:=qAA W (.cells #[.int .i64 10] 3);have⟨ao,an⟩:=hyd2 kq kl;clear kl kq;go_wp2;exact hK _ _ an.out ao.out
      ·intro y W q p Q hK M;obtain⟨o,z,-⟩:=p;change _=_ at o;replace z:NumL L .i64 W (y 1) 10:=z;simp only[fA,o]at hK ⊢;have kc:=qCN L L L a 10 _ _ W ((P.out.le j.out.out).le q) (T.out.le q) z (by have:=ak.out;omega) (dg10);have I:=hyd1 kc;clear kc;go_wp2_with (fail);go_at_call 49;refine I.out.mono ?_;rintro e w' ⟨v',rfl,y1,U⟩;have⟨ap,J⟩:=hyd2 y1 U;clear U y1;go_wp2;exact hK _ _ ap.out J.out
      ·intro y W q p Q hK M;simp only[fA]at hK ⊢;go_wp2;exact hK _ _ lrR rfl
      ·intro y W q p Q hK M;simp only[fA]at hK ⊢;go_wp2;exact hK _ _ lrR rfl
      ·intro y W q p Q hK M;obtain⟨o,z,-⟩:=p;change _=_ at o z;simp only[fA,o,z]at hK ⊢;go_wp2;exact hK _ _ lrR rfl
      ·intro y W q p Q hK M;obtain⟨o,-⟩:=p;change _=_ at o;have jj:=aD;simp only[fA,o]at hK ⊢;go_wp2;exact hK _ _ lrR (by show Value.int _ _=Value.int _ _;congr 1)
      ·intro y W q p Q hK M;obtain⟨o,-⟩:=p;change _=_ at o;simp only[fA,o]at hK ⊢;go_wp2;exact hK _ _ lrR rfl
      ·intro y W q p Q hK M;obtain⟨o,-⟩:=p;change _=_ at o;simp only[fA,o]at hK ⊢;have kq:=qH9 (L:=L) (k:= .i64) (V:=W) (g:=d) ((P.out.le j.out.out).le q) 3;have kl:=qAA W (.cells #[.int .i64 d] 3);have⟨ao,an⟩:=hyd2 kq kl;clear kl kq;go_wp2;exact hK _ _ an.out ao.out
      ·intro y W q p Q hK M;obtain⟨o,-⟩:=p;replace o:ArrL L (gv .i64) W (y 8) [d]:=o;simp only[fA]at hK ⊢;have kc:=qCM L [d] _ W o;have I:=hyd1 kc;clear kc;go_wp2_with (fail);go_at_call 50;refine I.out.mono ?_;rintro e w' ⟨v',rfl,rfl,U⟩;rw[qHI d (qFm ax)]at U;have J:=hyd1 U;clear U;go_wp2;exact hK _ _ lrR J.out
      ·intro y W q p Q hK M;obtain⟨o,z,-⟩:=p;replace o:NumL L .i64 W (y 2) (a*10):=o;replace z:NumL L .i64 W (y 9) d:=z;simp only[fA]at hK ⊢;have kc:=qDe L L L (a*10) d _ _ W ((P.out.le j.out.out).le q) o z (by have:=al.out;omega) (dg9 ax);have I:=hyd1 kc;clear kc;go_wp2_with (fail);go_at_call 48;refine I.out.mono ?_;rintro e w' ⟨v',rfl,y1,U⟩;have⟨ap,J⟩:=hyd2 y1 U;clear U y1;go_wp2;exact hK _ _ ap.out J.out
     intro y W q p Q' au _;have ac:NumL L .i64 W (y 10) (a*10+d):=p 10 (by decide);obtain⟨v9,am⟩:∃v,y 10=v:=⟨_,rfl⟩;rw[am]at ac;simp only[List.drop_succ_cons,List.drop_zero];rw[show List.range 11=[0,1,2,3,4,5,6,7,8,9,10]from rfl];simp only[fA,am];clear p;clear am;have av:=j.out.out.trans (q.mono j.out.out.size);have⟨ar,aQ,aw⟩:=hyd3 ac q av;clear av q ac;go_wp2;refine au _ _ ?_;clear au;go_wp2;go_roundw
     case rel=>exact⟨k+1,by go_num,by omega,ad,Lib.hid (by rw[a0.out];exact ar.out),aw⟩
     case measure=>(simp[intOf];try omega)
  ·obtain rfl:k=N:=by omega
   have j1:¬(k:Int)<(k:Int):=by omega
   have z:l.take k=l:=by rw[<-S.out];exact List.take_length
   rw[z]at f c;obtain⟨A9,c9,aG⟩:=c.out.slice;subst aG
   by_cases h0:k=0
   ·have e2:l=[]:=List.length_eq_zero_iff.1 (by rw[S.out];exact h0);subst h0;have⟨D,n,j,a7,E⟩:=hyd5 f c O z e2;clear e2 z O c f;go_wp2;refine bodyPost_ret (v:= .tuple #[.slice A9 (dg (decV 0 l)).length c9,.bool false]) (by simp[results,Tryz.results26,go_sem]) rfl ⟨.slice A9 (dg (decV 0 l)).length c9,?_,j.out.out,?_⟩
    ·rw[E.out];rfl
    ·have:=n.out.out;rw[E.out]at this ⊢;exact this
   ·have j2:0<(k:Int):=by omega
    have e2:=qDj (l:=l) (λe=>h0 (by rw[<-S.out,e];rfl)) f.out;have⟨D,n,j,a7,E⟩:=hyd5 f c O z e2;clear e2 z O c f;go_wp2;refine bodyPost_ret (v:= .tuple #[.slice A9 (dg (decV 0 l)).length c9,.bool true]) (by simp[results,Tryz.results26,go_sem];omega) rfl ⟨.slice A9 (dg (decV 0 l)).length c9,?_,j.out.out,?_⟩
    ·rw[E.out];rfl
    ·rw[E.out];exact n.out.out
end Go.Proofs.YtfmfefibadpobaaGreatDoor

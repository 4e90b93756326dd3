/- Polynomials, the reference: TimesPoly. (The regions between --@ARM and --@END are printed by gen_polyr.py.) Polynomials, the reference: CheckPoly, two, .. -/
import Derived.Test.YtcoajjdhkhgfdaaPk34
namespace Go.Proofs.Ytcoajjdhkhgfdaa
set_option maxRecDepth 100000
open Go.RowKit Go.Shelf
set_option linter.unusedVariables false
set_option linter.unusedSimpArgs false
def tq (X Y:List Rat) (i:Nat):Nat->Rat
 | 0=>0
 | k+1=>tq X Y i k+X.getD k 0*Y.getD (i - k) 0
theorem qAq {l:List Rat} {k:Nat} (h:¬k<l.length):l.getD k 0=0:=by rw[List.getD_eq_getElem?_getD,List.getElem?_eq_none (by omega)];rfl
theorem qG2 {l:List FracA} {z:Int} (h:qA7 l= .error z):z=4∨z=10:=by
 by_cases b:65<l.length
 ·unfold qA7 at h;rw[if_pos b]at h;injection h with h;exact .inl h.symm
 ·rw[qFE b]at h
  cases hm:mapE inE l with
  | error z1=>
   rw[hm]at h;change Except.error z1=Except.error z at h;injection h with h;subst h;exact .inr (qFF hm)
  | ok rs=>
   rw[hm]at h;change (if qAD rs=true then Except.ok rs else Except.error 10)=Except.error z at h
   split at h
   ·cases h
   ·injection h with h;exact .inr h.symm
set_option maxHeartbeats 1000000
def qBk (l:List FracA) (t m:Nat):Bool:=(decide (t<l.length)&& !decide (l.length=66))||l.any λx=>qAg x m
theorem qEh (A:Option Addr) (n c:Nat) (l:List FracA) (t m:Nat) (w:World) (hn:l.length=n) (hv:SeqE inK w (.slice A n c) l) (ht:t<=1000) (hm:m<=1000) (hnl:n<=2000) (hc:(t<n/\n=66)):
  Calls Try.prog 10 #[.slice A n c,.int .i64 (t:Int),.int .i64 (m:Int)] w λe w'=>e= .returned (.bool (l.any λx=>qAg x m))/\Le w w':=by
 obtain⟨res,q⟩:∃r,(l.any λx=>qAg x m)=r:=⟨_,rfl⟩;rw[q];have j1:(t:Int)<(n:Int):=by omega
 have j2:((n:Int) != 66)=false:=by rw[show(n:Int)=66 by omega];rfl
 have⟨S,s,C,ab⟩:=hyd4 hv q hn hc;clear hc hn q hv;go_enter Try.func10,Try.ntmps10;go_wp2_with (fail);go_loopw [7] (λi wr=>∃k:Nat,i= .int .i64 (k:Int)/\k<=n/\Hid (((l.take k).any λx=>qAg x m)=false)/\Hid (Below w.heap.size w wr)) (λi _=>n - (intOf i).toNat)
 case atStart=>exact⟨0,rfl,Nat.zero_le _,Lib.hid rfl,Lib.hid (Below.refl _ _)⟩
 case round=>
  obtain⟨k,rfl,hk,f,G⟩:=hrel
  by_cases R:k<n
  ·have z:k<l.length:=by rw[C.out];exact R
   obtain⟨N,P,cx,O,ac,cs,I,h⟩:=(S.out.le G.out).at z;rw[C.out]at O;injection O with O e2 e3;subst O e3;clear e2;have E:l.take (k+1)=l.take k++[l[k]]:=by rw[List.take_succ_eq_append_getElem z]
   have p:l[k]∈l:=List.getElem_mem z;generalize l[k]=x at I E p;obtain⟨X,Z,Y,d1,rfl,F⟩:=I;have x0:wr.cell? ⟨N,P+k*4,none⟩=some (.bool x.sn):=h 0 _ rfl;have x1:wr.cell? ⟨N,P+k*4+1,none⟩=some (.slice X x.gn.length Z):=h 1 _ rfl;have x2:wr.cell? ⟨N,P+k*4+2,none⟩=some (.bool x.sd):=h 2 _ rfl;have x3:wr.cell? ⟨N,P+k*4+3,none⟩=some (.slice Y x.gd.length d1):=h 3 _ rfl;have T:=qD0 (λ_=>True) x m _ wr (by omega) F;obtain⟨sm,D⟩:∃b,qAg x m=b:=⟨_,rfl⟩;rw[D]at T;have j5:(k:Int)<(n:Int):=by omega
   have j6:(0:Int)<=(k:Int):=by omega
   have⟨j,o,U,V,J,B,v,L⟩:=hyd8 f G h F E p D T;clear T D p E F h G f
   cases sm with
   | true=>
    go_wp2_with (fail);go_at_call 5;refine L.out.mono ?_;rintro e W ⟨rfl,y⟩;have g:Below w.heap.size w W:=(show Below w.heap.size w wr from o.out.out).trans (y.mono o.out.out.size)
    have H:res=true:=by
     rw[<-s.out,List.any_eq_true];exact⟨x,B.out,v.out⟩
    have⟨d,Q⟩:=hyd2 g y;clear y g;subst H;go_wp2;go_ret;exact⟨rfl,d.out⟩
   | false=>
    go_wp2_with (fail);go_at_call 5;refine L.out.mono ?_;rintro e W ⟨rfl,y⟩;have g:Below w.heap.size w W:=(show Below w.heap.size w wr from o.out.out).trans (y.mono o.out.out.size)
    have H:((l.take (k+1)).any λx=>qAg x m)=false:=by
     rw[J.out,List.any_append,j.out.out];simp[v.out]
    have⟨M,d,Q⟩:=hyd3 H g y;clear y g H;go_wp2;go_roundw
    case rel=>
     first
     | exact⟨k+1,by go_num,by omega,M,d⟩
     | (refine⟨_,_,_,_,_,_,_,_,_,_,_,_,_,_,⟨k+1,?_,?_,M,d⟩,rfl⟩<;>first |omega|go_num)
    case measure=>simp[intOf];omega
  ·obtain rfl:k=n:=by omega
   have j5:¬(k:Int)<(k:Int):=by omega
   have H:res=false:=by rw[<-s.out,<-f.out,<-C.out,List.take_length]
   have g:=G.out;have⟨j,o,d⟩:=hyd3 f G g;clear g G f;subst H;go_wp2;go_ret;exact⟨rfl,d.out⟩
theorem qFG (A:Option Addr) (n c:Nat) (l:List FracA) (t m:Nat) (w:World) (hn:l.length=n) (hv:SeqE inK w (.slice A n c) l) (ht:t<=1000) (hm:m<=1000) (hnl:n<=2000) (hc:(¬t<n)):
  Calls Try.prog 10 #[.slice A n c,.int .i64 (t:Int),.int .i64 (m:Int)] w λe w'=>e= .returned (.bool (l.any λx=>qAg x m))/\Le w w':=by
 obtain⟨res,q⟩:∃r,(l.any λx=>qAg x m)=r:=⟨_,rfl⟩;rw[q];have j1:¬(t:Int)<(n:Int):=by omega
 have j2:=hnl;have⟨S,s,C,ab⟩:=hyd4 hv q hn hc;clear hc hn q hv;go_enter Try.func10,Try.ntmps10;go_wp2_with (fail);go_loopw [7] (λi wr=>∃k:Nat,i= .int .i64 (k:Int)/\k<=n/\Hid (((l.take k).any λx=>qAg x m)=false)/\Hid (Below w.heap.size w wr)) (λi _=>n - (intOf i).toNat)
 case atStart=>exact⟨0,rfl,Nat.zero_le _,Lib.hid rfl,Lib.hid (Below.refl _ _)⟩
 case round=>
  obtain⟨k,rfl,hk,f,G⟩:=hrel
  by_cases R:k<n
  ·have z:k<l.length:=by rw[C.out];exact R
   obtain⟨N,P,cx,O,ac,cs,I,h⟩:=(S.out.le G.out).at z;rw[C.out]at O;injection O with O e2 e3;subst O e3;clear e2;have E:l.take (k+1)=l.take k++[l[k]]:=by rw[List.take_succ_eq_append_getElem z]
   have p:l[k]∈l:=List.getElem_mem z;generalize l[k]=x at I E p;obtain⟨X,Z,Y,d1,rfl,F⟩:=I;have x0:wr.cell? ⟨N,P+k*4,none⟩=some (.bool x.sn):=h 0 _ rfl;have x1:wr.cell? ⟨N,P+k*4+1,none⟩=some (.slice X x.gn.length Z):=h 1 _ rfl;have x2:wr.cell? ⟨N,P+k*4+2,none⟩=some (.bool x.sd):=h 2 _ rfl;have x3:wr.cell? ⟨N,P+k*4+3,none⟩=some (.slice Y x.gd.length d1):=h 3 _ rfl;have T:=qD0 (λ_=>True) x m _ wr (by omega) F;obtain⟨sm,D⟩:∃b,qAg x m=b:=⟨_,rfl⟩;rw[D]at T;have j5:(k:Int)<(n:Int):=by omega
   have j6:(0:Int)<=(k:Int):=by omega
   have⟨j,o,U,V,J,B,v,L⟩:=hyd8 f G h F E p D T;clear T D p E F h G f
   cases sm with
   | true=>
    go_wp2_with (fail);go_at_call 5;refine L.out.mono ?_;rintro e W ⟨rfl,y⟩;have g:Below w.heap.size w W:=(show Below w.heap.size w wr from o.out.out).trans (y.mono o.out.out.size)
    have H:res=true:=by
     rw[<-s.out,List.any_eq_true];exact⟨x,B.out,v.out⟩
    have⟨d,Q⟩:=hyd2 g y;clear y g;subst H;go_wp2;go_ret;exact⟨rfl,d.out⟩
   | false=>
    go_wp2_with (fail);go_at_call 5;refine L.out.mono ?_;rintro e W ⟨rfl,y⟩;have g:Below w.heap.size w W:=(show Below w.heap.size w wr from o.out.out).trans (y.mono o.out.out.size)
    have H:((l.take (k+1)).any λx=>qAg x m)=false:=by
     rw[J.out,List.any_append,j.out.out];simp[v.out]
    have⟨M,d,Q⟩:=hyd3 H g y;clear y g H;go_wp2;go_roundw
    case rel=>
     first
     | exact⟨k+1,by go_num,by omega,M,d⟩
     | (refine⟨_,_,_,_,_,_,_,_,_,_,_,_,_,_,⟨k+1,?_,?_,M,d⟩,rfl⟩<;>first |omega|go_num)
    case measure=>simp[intOf];omega
  ·obtain rfl:k=n:=by omega
   have j5:¬(k:Int)<(k:Int):=by omega
   have H:res=false:=by rw[<-s.out,<-f.out,<-C.out,List.take_length]
   have g:=G.out;have⟨j,o,d⟩:=hyd3 f G g;clear g G f;subst H;go_wp2;go_ret;exact⟨rfl,d.out⟩
theorem qEL (v:Value) (l:List FracA) (t m:Nat) (w:World) (hv:SeqE inK w v l) (ht:t<=1000) (hm:m<=1000) (h66:t≠66):
  Calls Try.prog 10 #[v,.int .i64 (t:Int),.int .i64 (m:Int)] w λe w'=>e= .returned (.bool (qBk l t m))/\Le w w':=by
 obtain⟨A,c,rfl,o,p,-⟩:=hv.slice;unfold maxLen at p;obtain⟨res,d⟩:∃r,qBk l t m=r:=⟨_,rfl⟩;have b:=d;unfold qBk at b;obtain⟨n,i⟩:∃n,l.length=n:=⟨_,rfl⟩;rw[d];rw[i]at hv o b ⊢
 by_cases g:t<n/\¬n=66
 ·rw[decide_eq_true g.1,decide_eq_false g.2]at b;change true=res at b;subst b;have y:(t:Int)<(n:Int):=by omega
  have z:((n:Int)==66)=false:=by simpa using λh=>g.2 (by omega)
  have B:¬n=66:=g.2;have⟨s,j,q⟩:=hyd3 hv d i;clear i d hv;go_enter Try.func10,Try.ntmps10;go_wp2;go_ret;exact⟨rfl,Le.refl _⟩
 ·by_cases f:t<n
  ·have k:n=66:=Classical.byContradiction λh=>g ⟨f,h⟩;rw[decide_eq_true f,decide_eq_true k]at b;change (l.any λx=>qAg x m)=res at b;rw[<-b];exact qEh A n c l t m w i hv ht hm (by omega) ⟨f,k⟩
  ·rw[decide_eq_false f,Bool.false_and,Bool.false_or]at b;rw[<-b];exact qFG A n c l t m w i hv ht hm (by omega) f
end Go.Proofs.Ytcoajjdhkhgfdaa

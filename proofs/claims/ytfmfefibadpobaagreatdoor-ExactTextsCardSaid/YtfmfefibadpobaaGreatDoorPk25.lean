/- Texts, the reference: digits. -/
import Derived.Test.YtfmfefibadpobaaGreatDoorPk23
import Derived.Test.YtfmfefibadpobaaGreatDoorPk24
import Derived.Laws.IdiomStrings
namespace Go.Proofs.YtfmfefibadpobaaGreatDoor
set_option maxRecDepth 100000
set_option maxHeartbeats 1000000
open Go.RowKit Go.Shelf
set_option linter.unusedVariables false
set_option linter.unusedSimpArgs false
def strV (l:List UInt8):Value:= .string ⟨l.toArray⟩
def lowS (l:List Nat) (i:Nat):List UInt8:=if i<l.length then lowT l i else txG l
theorem qFS (l:List Nat):∀i,(lowT l i).length =9*i
 | 0=>rfl
 | i+1=>by
  rw[show lowT l (i+1)=padK 9 (l.getD i 0)++lowT l i from rfl,List.length_append,qCn,qFS l i];omega
theorem qEN (q g d:Nat) (S0:List UInt8) (h:g / 10^q%10=d):(⟨#[dd d]⟩:ByteArray)++⟨(padK q g++S0).toArray⟩=⟨(padK (q+1) g++S0).toArray⟩:=by
 rw[qDF,h];apply ByteArray.ext;simp
theorem qHE {l:List Nat} {k:Nat} (h:k+1<l.length):lowS l (k+1)=padK 9 (l.getD k 0)++lowS l k:=by
 unfold lowS;rw[if_pos h,if_pos (by omega)]
 rfl
theorem qHF (l:List Nat):lowS l 0=[]:=by
 unfold lowS
 split
 ·rfl
 ·rename_i h
  cases l with
  | nil=>rfl
  | cons a l=>exact absurd (Nat.zero_lt_succ _) h
theorem qHG {l:List Nat} {k:Nat} (h:k+1=l.length):lowS l (k+1)=Lib.decDigits (l.getD k 0)++lowS l k:=by
 have b:k<l.length:=by omega
 unfold lowS;rw[if_neg (by omega),if_pos b,qFh k b,qDb b,if_neg (by omega),List.getD_eq_getElem?_getD,List.getElem?_eq_getElem b]
 rfl
theorem qFk {l:List Nat} {k q:Nat} (h:k+1=l.length) (hq:q≠0) (h0:l.getD k 0 / 10^(q - 1)≠0) (h1:l.getD k 0<10^q):lowS l (k+1)=padK q (l.getD k 0)++lowS l k:=by
 obtain⟨q,rfl⟩:∃j,q=j+1:=⟨q - 1,by omega⟩;rw[qHG h,qGY (by simpa using h0) h1]
theorem qH8 (n:Nat):lowS (dg n) (dg n).length =if n=0 then[]else Lib.decDigits n:=by
 unfold lowS;rw[if_neg (by omega)]
 split
 ·rename_i h;subst h;rw[qAI];rfl
 ·rename_i h;exact qFD n h
theorem qHH:txN 0=[48]:=rfl
theorem qHl (n:Nat):Lib.decDigits n≠[]:=(qGd n).2.2
theorem qD8 (v:Value) (n:Nat) (w:World) (hv:NumL (λ_=>True) .i64 w v n) (hl:(dg n).length <=1000):
  Calls Tryz.prog 38 #[v] w λe w'=>e= .returned (strV (txN n))/\Le w w':=by
 obtain⟨Aa,ca,rfl,a1,a2,aN,a3⟩:=hv;unfold maxLen at a2;obtain⟨N,hN⟩:∃N,(dg n).length =N:=⟨_,rfl⟩;rw[hN]at a1 hl ⊢;have⟨ax,aK,I,aJ⟩:=hyd4 a3 aN hN a2;clear a2 hN aN a3;go_enter Tryz.func38,Tryz.ntmps38;go_wp2_with (fail);go_loopw [3,4] (λs i wr=>∃k:Nat,i= .int .i64 (k:Int)/\k<=N/\s=strV (lowS (dg n) k)/\Hid (Below w.heap.size w wr)) (λ_ i _=>N - (intOf i).toNat)
 case atStart=>exact⟨0,rfl,Nat.zero_le _,by rw[qHF];rfl,Lib.hid (Below.refl _ _)⟩
 case round=>
  obtain⟨k,rfl,hk,rfl,hb⟩:=hrel
  by_cases a7:k<N
  ·have R:k<(dg n).length :=by rw[I.out];exact a7
   obtain⟨ba,oa,rfl,-,a0,ac⟩:=ax.out (by omega);have Y:wr.cell? ⟨ba,oa+k,none⟩=some (gv .i64 (dg n)[k]):=(Below.cell hb.out (p:=⟨ba,oa+k,none⟩) a0).trans (ac k R);have ag:(dg n)[k]<B9:=qAS n k R;unfold gv at Y;have ah:(dg n).getD k 0=(dg n)[k]:=by rw[List.getD_eq_getElem?_getD,List.getElem?_eq_getElem R];rfl
   generalize (dg n)[k]=g at Y ag ah
   have ai:(lowS (dg n) k).length <=9000:=by
    unfold lowS;rw[if_pos R,qFS];omega
   obtain⟨S0,V⟩:∃S,lowS (dg n) k=S:=⟨_,rfl⟩;rw[V]at ai;rw[V];have j1:(k:Int)<(N:Int):=by omega
   have j2:(0:Int)<=(k:Int):=by omega
   unfold strV;have⟨A,Q,J,aE,f⟩:=hyd5 hb ag V ac ah;clear ah ac V ag hb;go_wp2_with (fail);rename World=>wy
   go_loopw [3,5,6] (λs m i wr=>∃q:Nat,i= .int .i64 (q:Int)/\q<=9/\m= .int .i64 ((g / 10^q:Nat):Int)/\s= .string ⟨(padK q g++S0).toArray⟩/\Hid (Below wy.heap.size wy wr)/\Hid (¬k+1<N->q=0∨g / 10^(q - 1)≠0)) (λ_ _ i _=>9 - (intOf i).toNat)
   case atStart=>exact⟨0,rfl,by decide,by simp,rfl,Lib.hid (Below.refl _ _),Lib.hid (λ_=> .inl rfl)⟩
   case round=>
    obtain⟨q,rfl,hq,rfl,rfl,b,o⟩:=hrel;obtain⟨m,x⟩:∃m,g / 10^q=m:=⟨_,rfl⟩;rw[x]
    by_cases aO:q<9
    ·by_cases hi:k+1<N
     ·have j3:(q:Int)<9:=by omega
      have j4:(k:Int)+1<(N:Int):=by omega
      have j5:m<1000000000:=by
       rw[<-x];have h1:=Q.out;rw[qAD]at h1;exact Nat.lt_of_le_of_lt (Nat.div_le_self _ _) h1
      obtain⟨d,hd⟩:∃d,m%10=d:=⟨_,rfl⟩;have O:d<10:=by omega
      have af:(m:Int)%10=(d:Int):=by omega
      have a5:(m:Int).tmod 10=(d:Int):=by rw[Int.tmod_eq_emod_of_nonneg (by omega)];exact af
      have c:(wr.alloc (.cells #[.int .u8 (48+(d:Int))] 5)).cell? ⟨wr.heap.size,0,none⟩=some (.int .u8 (48+(d:Int))):=cell_of_row _ wr.heap.size 0 _ _ _ (heap_alloc_new _ _)
      have ad:=run_convert_bytes_back (P:=Tryz.prog) (wr.alloc (.cells #[.int .u8 (48+(d:Int))] 5)) 91 9 5 ⟨wr.heap.size,0,none⟩ 1 [dd d] (by kernel_rfl) (by kernel_rfl) (by kernel_rfl) (λj hj=>by
       obtain rfl:j=0:=by simpa using hj
       rw[show([dd d]:List UInt8)[0].toNat =48+d from qEF O];have e9:(⟨wr.heap.size,0,none⟩:Addr).add 0=⟨wr.heap.size,0,none⟩:=by simp[Addr.add]
       rw[e9,c]
       simp)
      simp only[List.length_cons,List.length_nil,Nat.zero_add]at ad;have ak:=qCn q g;have a8:¬9223372036854775807<1+((padK q g).length +S0.length):=by omega
      have t:=qEN q g d S0 (by rw[x];exact hd);have T:g / 10^(q+1)=m / 10:=by rw[Nat.pow_succ,<-Nat.div_div_eq_div_mul,x]
      have L:Below wy.heap.size wy (wr.alloc (.cells #[.int .u8 (48+(d:Int))] 5)):=b.out.trans ((alc1 _ _).mono b.out.size);clear ak;have C:¬k+1<N->q+1=0∨g / 10^(q+1 - 1)≠0:=λh=> .inr (by rw[Nat.add_sub_cancel,x];exact absurd hi h);have⟨G,aj,a4,X,z,U,M,H⟩:=hyd8 b x hd c t T L o;have F:=hyd1 C;clear C o L T t c hd x b;go_wp2;go_roundw
      case rel=>exact⟨q+1,by go_num,by omega,by rw[U.out];go_num,by rw[z.out],M,F⟩
      case measure=>simp[intOf];omega
     ·by_cases ar:m=0
      ·have j3:(q:Int)<9:=by omega
       have j4:¬(k:Int)+1<(N:Int):=by omega
       subst ar;have Z:=I.out
       have ao:g≠0:=by
        have h9:=qBn (n:=n) (by omega)
        have e9:(dg n).getD k 0=(dg n)[(dg n).length - 1]'(by omega):=by
         rw[List.getD_eq_getElem?_getD,List.getElem?_eq_getElem R];have:k=(dg n).length - 1:=by omega
         subst this
         rfl
        rw[<-e9,f.out]at h9;omega
       have au:q≠0:=λe=>by subst e;rw[Nat.pow_zero,Nat.div_one]at x;exact ao x
       have hx:=(o.out hi).resolve_left au
       have ap:g<10^q:=by
        rcases Nat.div_eq_zero_iff.1 x with h|h
        ·exact absurd h (Nat.ne_of_gt (Nat.pow_pos (by decide)))
        ·exact h
       have r:=qFk (l:=dg n) (k:=k) (q:=q) (by omega) au (by rw[f.out];exact hx) (by rw[f.out];exact ap);rw[f.out,J.out]at r;have E:Below w.heap.size w wr:=(show Below w.heap.size w wy from A.out.out).trans (b.out.mono A.out.out.size);clear ao hx ap x Z;have⟨G,H,B,D⟩:=hyd4 b o E r;clear r E o b;go_wp2;go_roundw
       case rel=>exact⟨k+1,by go_num,by omega,by rw[D.out],B⟩
       case measure=>(simp[intOf];try omega)
      ·have j3:(q:Int)<9:=by omega
       have j4:¬(k:Int)+1<(N:Int):=by omega
       have j6:(0:Int)<(m:Int):=by omega
       have j7:0<m:=by omega
       have j5:m<1000000000:=by
        rw[<-x];have h1:=Q.out;rw[qAD]at h1;exact Nat.lt_of_le_of_lt (Nat.div_le_self _ _) h1
       obtain⟨d,hd⟩:∃d,m%10=d:=⟨_,rfl⟩;have O:d<10:=by omega
       have af:(m:Int)%10=(d:Int):=by omega
       have a5:(m:Int).tmod 10=(d:Int):=by rw[Int.tmod_eq_emod_of_nonneg (by omega)];exact af
       have c:(wr.alloc (.cells #[.int .u8 (48+(d:Int))] 5)).cell? ⟨wr.heap.size,0,none⟩=some (.int .u8 (48+(d:Int))):=cell_of_row _ wr.heap.size 0 _ _ _ (heap_alloc_new _ _)
       have ad:=run_convert_bytes_back (P:=Tryz.prog) (wr.alloc (.cells #[.int .u8 (48+(d:Int))] 5)) 91 9 5 ⟨wr.heap.size,0,none⟩ 1 [dd d] (by kernel_rfl) (by kernel_rfl) (by kernel_rfl) (λj hj=>by
        obtain rfl:j=0:=by simpa using hj
        rw[show([dd d]:List UInt8)[0].toNat =48+d from qEF O];have e9:(⟨wr.heap.size,0,none⟩:Addr).add 0=⟨wr.heap.size,0,none⟩:=by simp[Addr.add]
        rw[e9,c]
        simp)
       simp only[List.length_cons,List.length_nil,Nat.zero_add]at ad;have ak:=qCn q g;have a8:¬9223372036854775807<1+((padK q g).length +S0.length):=by omega
       have t:=qEN q g d S0 (by rw[x];exact hd);have T:g / 10^(q+1)=m / 10:=by rw[Nat.pow_succ,<-Nat.div_div_eq_div_mul,x]
       have L:Below wy.heap.size wy (wr.alloc (.cells #[.int .u8 (48+(d:Int))] 5)):=b.out.trans ((alc1 _ _).mono b.out.size);clear ak;have C:¬k+1<N->q+1=0∨g / 10^(q+1 - 1)≠0:=λh=> .inr (by rw[Nat.add_sub_cancel,x];exact ar);have⟨G,aj,a4,X,z,U,M,H⟩:=hyd8 b x hd c t T L o;have F:=hyd1 C;clear C o L T t c hd x b;go_wp2;go_roundw
       case rel=>exact⟨q+1,by go_num,by omega,by rw[U.out];go_num,by rw[z.out],M,F⟩
       case measure=>simp[intOf];omega
    ·obtain rfl:q=9:=by omega
     have E:Below w.heap.size w wr:=(show Below w.heap.size w wy from A.out.out).trans (b.out.mono A.out.out.size)
     by_cases hi:k+1<N
     ·have r:=qHE (l:=dg n) (k:=k) (by rw[I.out];exact hi);rw[f.out,J.out]at r;have⟨G,aj,H,B,D⟩:=hyd5 b x o E r;clear r E o x b;go_wp2;go_roundw
      case rel=>exact⟨k+1,by go_num,by omega,by rw[D.out],B⟩
      case measure=>(simp[intOf];try omega)
     ·have j4:¬(k:Int)+1<(N:Int):=by omega
      have Z:=I.out;have hx:=(o.out hi).resolve_left (by decide);have r:=qFk (l:=dg n) (k:=k) (q:=9) (by omega) (by decide) (by rw[f.out];exact hx) (by rw[f.out];have:=Q.out;rw[qC9]at this;exact this);rw[f.out,J.out]at r;clear hx Z;have⟨G,aj,H,B,D⟩:=hyd5 b x o E r;clear r E o x b;go_wp2;go_roundw
      case rel=>exact⟨k+1,by go_num,by omega,by rw[D.out],B⟩
      case measure=>(simp[intOf];try omega)
  ·obtain rfl:k=N:=by omega
   have y:=qH8 n;rw[I.out]at y;rw[y];have j1:¬(k:Int)<(k:Int):=by omega
   by_cases h0:n=0
   ·rw[if_pos h0];unfold strV;have ht:txN n=[48]:=by rw[qDG,h0,qCF (by decide)];rfl
    have⟨A,aa,a9⟩:=hyd3 hb y ht;clear ht y hb;go_wp2;go_ret;exact⟨by unfold strV;first |rw[qHH];rfl|rw[a9.out];rfl,A.out.out⟩
   ·rw[if_neg h0];unfold strV
    have aM:(Lib.decDigits n).isEmpty =false:=by cases h:Lib.decDigits n with
     | nil=>exact absurd h (qHl n)
     | cons a l=>rfl
    have⟨A,aa⟩:=hyd2 hb y;clear y hb;go_wp2;go_ret;exact⟨by unfold strV;rw[qDG];rfl,A.out.out⟩
end Go.Proofs.YtfmfefibadpobaaGreatDoor

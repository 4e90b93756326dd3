/- Texts, the reference: Parse. -/
import Derived.Test.YtfmfefibadpobaaGreatDoorPk28
namespace Go.Proofs.YtfmfefibadpobaaGreatDoor
set_option maxRecDepth 100000
open Go.RowKit Go.Shelf
set_option linter.unusedVariables false
set_option linter.unusedSimpArgs false
def baL (l:List UInt8):ByteArray:=⟨l.toArray⟩
theorem qA5 (l:List UInt8):strV l= .string (baL l):=rfl
theorem qAP (l:List UInt8):(baL l).size =l.length:=qDZ l
theorem qFT (l:List UInt8) (k:Nat) (hk:k<=l.length):(baL l).extract 0 k=baL (l.take k):=by
 unfold baL;apply ByteArray.ext;simp
theorem qCQ (l:List UInt8) (k:Nat) (hk:k<=l.length):(baL l).extract k l.length=baL (l.drop k):=by
 unfold baL;apply ByteArray.ext;simp;rw[List.take_of_length_le (by rw[List.length_drop];omega)]
theorem qC6 (P:Program) (t:TypeId) (l:List UInt8) (k:Nat) (h:P.underlying t=some .string) (hk:k<=l.length) (W:World):(Instr.slice t (.string (baL l)) none (some (.int .i64 (k:Int))) none).run P W= .ok (.string (baL (l.take k))) W:=by
 rw[run_slice_string_h W t _ h .i64 (k:Int) (by omega) (by rw[qAP];omega),<-qFT l k hk]
 rfl
theorem qBr (P:Program) (t:TypeId) (l:List UInt8) (k:Nat) (h:P.underlying t=some .string) (hk:k<=l.length) (W:World):(Instr.slice t (.string (baL l)) (some (.int .i64 (k:Int))) none none).run P W= .ok (.string (baL (l.drop k))) W:=by
 rw[run_slice_string_l W t _ h .i64 (k:Int) (by omega) (by rw[qAP];omega),qAP,<-qCQ l k hk]
 rfl
theorem qC2 (P:Program) (t:TypeId) (l:List UInt8) (k:Nat) (h:P.underlying t=some .string) (hk:k<l.length) (W:World):(Instr.index t (.string (baL l)) (.int .i64 (k:Int))).run P W= .ok (.int .u8 (l[k].toNat :Int)) W:=qDQ P t l k h hk W
theorem qAa (l:List UInt8):(baL l).toList =l:=by
 unfold baL;rw[ByteArray.toList_eq]
theorem qDk:∀t:List UInt8,(cutS t).1.length <=t.length/\(cutS t).2.1.length <=t.length
 | []=>⟨Nat.le_refl _,Nat.le_refl _⟩
 | b::r=>by
  obtain⟨h1,h2⟩:=qDk r;unfold cutS
  split
  ·exact⟨Nat.zero_le _,Nat.le_succ _⟩
  ·exact⟨Nat.succ_le_succ h1,Nat.le_trans h2 (Nat.le_succ _)⟩
theorem qFU:∀(t:List UInt8) (k:Nat) (hk:k<t.length),(t.take k).all (· != 47)=true->t[k]=47->cutS t=(t.take k,t.drop (k+1),true)
 | [],_,hk,_,_=>absurd hk (Nat.not_lt_zero _)
 | b::r,0,_,_,h=>by
  have hb:b=47:=h;unfold cutS;rw[if_pos hb]
  rfl
 | b::r,k+1,hk,h,h47=>by
  rw[List.take_succ_cons,List.all_cons,Bool.and_eq_true]at h;have hb:¬b=47:=by simpa using h.1
  have ih:=qFU r k (by simpa using hk) h.2 h47;unfold cutS;rw[if_neg hb,ih]
  rfl
theorem qEp:∀(t:List UInt8),t.all (· != 47)=true->cutS t=(t,[],false)
 | [],_=>rfl
 | b::r,h=>by
  rw[List.all_cons,Bool.and_eq_true]at h;have hb:¬b=47:=by simpa using h.1
  unfold cutS;rw[if_neg hb,qEp r h.2]
def PSt (t:List UInt8) (k:Nat) (f g:List UInt8):Prop:=(f=t/\g=[49]/\k<=t.length/\(t.take k).all (· != 47)=true)∨(k=f.length+1/\cutS t=(f,g,true))
theorem PSt.start (t:List UInt8):PSt t 0 t [49]:= .inl ⟨rfl,rfl,Nat.zero_le _,rfl⟩
theorem PSt.exit {t f g:List UInt8} {k:Nat} (h:PSt t k f g) (hk:¬k<f.length):f=(cutS t).1/\g=if (cutS t).2.2=true then(cutS t).2.1 else[49]:=by
 rcases h with⟨rfl,rfl,h1,h2⟩| ⟨h1,h2⟩
 ·rw[List.take_of_length_le (by omega)]at h2;rw[qEp f h2];exact⟨rfl,rfl⟩
 ·rw[h2];exact⟨rfl,rfl⟩
theorem PSt.hit {t f g:List UInt8} {k:Nat} (h:PSt t k f g) (hk:k<f.length) (h47:f[k]=47):PSt t (k+1) (f.take k) (f.drop (k+1)):=by
 rcases h with⟨rfl,rfl,h1,h2⟩| ⟨h1,h2⟩
 ·exact .inr ⟨by rw[List.length_take];omega,qFU f k hk h2 h47⟩
 ·omega
theorem PSt.miss {t f g:List UInt8} {k:Nat} (h:PSt t k f g) (hk:k<f.length) (h47:f[k]≠47):PSt t (k+1) f g:=by
 rcases h with⟨rfl,rfl,h1,h2⟩| ⟨h1,h2⟩
 ·refine .inl ⟨rfl,rfl,hk,?_⟩;rw[List.take_succ_eq_append_getElem hk,List.all_append,h2,List.all_cons];simpa using h47
 ·omega
theorem PSt.len {t f g:List UInt8} {k n:Nat} (h:PSt t k f g) (ht:t.length<=n) (hn:1<=n):f.length<=n/\g.length<=n/\k<=n+1:=by
 rcases h with⟨rfl,rfl,h1,h2⟩| ⟨h1,h2⟩
 ·exact⟨ht,hn,by omega⟩
 ·obtain⟨b,c⟩:=qDk t;rw[h2]at b c;have d:f.length<=t.length:=b;have i:g.length<=t.length:=c;exact⟨by omega,by omega,by omega⟩
theorem qB6 {l:List UInt8} {n:Nat} (h:numE l=some n):(dg n).length <=l.length:=by
 unfold numE at h
 split at h
 ·cases h
 ·split at h
  ·rename_i h2;injection h with h;rw[<-h];exact qGg h2
  ·cases h
theorem qCe {s:Bool} {n d m:Nat} (hd:d≠0) (h1:(dg n).length <=m) (h2:(dg d).length <=m):Rsz (mkR s n d) m:=by
 unfold Rsz;rw[qC8 _ _ _ hd,qDU _ _ _ hd];exact⟨Nat.le_trans (qAK (Nat.div_le_self _ _)) h1,Nat.le_trans (qAK (Nat.div_le_self _ _)) h2⟩
theorem b47 (b:UInt8):b=47↔b.toNat=47:=⟨λh=>by rw[h];rfl,λh=>UInt8.toNat_inj.1 h⟩
end Go.Proofs.YtfmfefibadpobaaGreatDoor

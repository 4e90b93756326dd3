/- Polynomials, program side: MulPoly's function. (The regions between --@ARM and --@END are printed by gen_poly.py.) -/
import Derived.Test.YtcoajjdhkhgfdaaGreatPk25
namespace Go.Proofs.YtcoajjdhkhgfdaaGreat
set_option maxRecDepth 100000
open Go.RowKit Go.Shelf
set_option linter.unusedVariables false
set_option linter.unusedSimpArgs false
theorem qHw {a b:Rat} {m n:Nat} (ha:Rsz a m) (hb:Rsz b n):Rsz (a+b) (m+n+1):=by
 have g:=ha.1;have i:=ha.2;have j:=hb.1;have k:=hb.2;have l:=qAF (rnum a) b.den;have o:=qAF (rnum b) a.den;have p:=qAF a.den b.den;have c:a.den*b.den≠0:=Nat.ne_of_gt (Nat.mul_pos (qA9 a) (qA9 b))
 by_cases h:rneg a=rneg b
 ·rw[<-qFe h];obtain⟨f,q2⟩:=qDV (rneg a) (rnum a*b.den+rnum b*a.den) (a.den*b.den) c;have d:=qCZ (rnum a*b.den) (rnum b*a.den);exact⟨by omega,by omega⟩
 ·rw[<-qHa h]
  split
  ·obtain⟨f,q2⟩:=qDV (rneg b) (rnum b*a.den - rnum a*b.den) (a.den*b.den) c;have d:(dg (rnum b*a.den - rnum a*b.den)).length <=(dg (rnum b*a.den)).length :=qAE (Nat.sub_le _ _);exact⟨by omega,by omega⟩
  ·obtain⟨f,q2⟩:=qDV (rneg a) (rnum a*b.den - rnum b*a.den) (a.den*b.den) c;have d:(dg (rnum a*b.den - rnum b*a.den)).length <=(dg (rnum a*b.den)).length :=qAE (Nat.sub_le _ _);exact⟨by omega,by omega⟩
theorem qCg {a b:Rat} {m n:Nat} (ha:Rsz a m) (hb:Rsz b n):Rsz (a*b) (m+n):=by
 have c:=ha.1;have d:=ha.2;have f:=hb.1;have g:=hb.2;rw[<-qG5];obtain⟨j,q2⟩:=qDV (rneg a != rneg b) (rnum a*rnum b) (a.den*b.den) (Nat.ne_of_gt (Nat.mul_pos (qA9 a) (qA9 b)));have h:=qAF (rnum a) (rnum b);have i:=qAF a.den b.den;exact⟨by omega,by omega⟩
theorem qKK (z:Array Value) (zs:List Value) (hz:z.toList=zs) (h0:0<zs.length) (n:Nat):(madeCells z (n*zs.length)).toList =(List.replicate n zs).flatten :=by
 subst hz
 have c:∀i,(madeCells z (n*z.toList.length)).toList[i]? =if i<n*z.toList.length then some (z[i%z.size]!)else none:=λi=>by
  unfold madeCells;simp only[Array.toList_map,Array.toList_range,List.getElem?_map,List.getElem?_range']
  split<;>rename_i h
  ·rw[List.getElem?_range h];rfl
  ·rw[List.getElem?_eq_none (by simp;simpa using h)];rfl
 have b:∀(n i:Nat),((List.replicate n z.toList).flatten)[i]? =if i<n*z.toList.length then some (z[i%z.size]!)else none:=by
  intro n
  induction n with
  | zero=>intro i;simp
  | succ n ih=>
   intro i;rw[List.replicate_succ,List.flatten_cons,List.getElem?_append];have g:z.toList.length=z.size:=Array.length_toList
   by_cases h:i<z.toList.length
   ·rw[if_pos h,if_pos (by rw[Nat.add_mul];omega),Nat.mod_eq_of_lt (by omega)];have f:i<z.size:=by omega
    rw[Array.getElem?_toList,Array.getElem?_eq_getElem f,Array.getElem!_eq_getD,Array.getD_eq_getD_getElem?,Array.getElem?_eq_getElem f];rfl
   ·rw[if_neg h,ih];have e:(i - z.toList.length)%z.size=i%z.size:=by rw[g];exact(Nat.mod_eq_sub_mod (by omega)).symm
    rw[e]
    by_cases d:i<(n+1)*z.toList.length
    ·rw[if_pos d,if_pos (by rw[Nat.add_mul]at d;omega)]
    ·rw[if_neg d,if_neg (by rw[Nat.add_mul]at d;omega)]
 refine List.ext_getElem? λi=>?_;rw[c,b]
theorem qDb {k:IntKind} {P:Program} (w:World) {ops:Array Oper} {rest:List Oper} {o:Oper} {a:Act} {Q:Exit->Act->World->Prop}
  (hg:o.guard=none) (l c:Operand) (t:TypeId) (hop:o.op=Op.makeSlice t l c) (base:Nat) (e:TypeId) (bytes:Nat) (ht:P.underlying t=some (.slice e))
  (hinfo:(P.info? e).map (λi=>(i.zero,i.size,i.bytes))=some (some (.agg #[.bool false,.slice none 0 0,.slice none 0 0]),3,bytes)) (hby:bytes<=100)
  (n:Nat) (hl:a.eval l= .int .i64 (n:Int)) (hc:a.eval c= .int .i64 (n:Int)) (hn:n<=1000000) (b4:base<=w.heap.size)
  (hK:∀w',RowE (ratO k) e base w' (.slice (some ⟨w.heap.size,0,none⟩) n n) (List.replicate n none)->Below w.heap.size w w'->w.heap.size<w'.heap.size->wpList P ops Q rest (a.put o.dst (.slice (some ⟨w.heap.size,0,none⟩) n n)) w'):
  wpList P ops Q (o::rest) a w:=by
 obtain⟨i,C,s,v,x⟩:∃i,P.info? e=some i/\i.zero=some (.agg #[.bool false,.slice none 0 0,.slice none 0 0])/\i.size=3/\i.bytes=bytes:=by
  cases hq:P.info? e with
  | none=>rw[hq]at hinfo;cases hinfo
  | some i=>
   rw[hq]at hinfo;simp only[Option.map_some,Option.some.injEq,Prod.mk.injEq]at hinfo;exact⟨i,rfl,hinfo.1,hinfo.2.1,hinfo.2.2⟩
 refine wpList_make_full w hg l c t hop base e i _ 3 ht C s v .i64 .i64 _ _ n hl hc rfl rfl (by rw[x];exact Nat.le_trans (Nat.mul_le_mul hby hn) (by decide)) (by unfold maxLen;omega) b4 ?_;intro w' y B;refine hK w' ?_ ((Below.refl _ _).grown B (Nat.le_refl _) (by simp)) ((y.lt w.heap.size rfl).2);have r:=qKK #[.bool false,.slice none 0 0,.slice none 0 0] _ rfl (by decide) n
 have f:w'.ownsRow base e 3 (.slice (some ⟨w.heap.size,0,none⟩) n n) n ((List.replicate n [Value.bool false,.slice none 0 0,.slice none 0 0]).flatten):=by
  have m:=y;change w'.ownsRow base e 3 _ n (madeCells #[.bool false,.slice none 0 0,.slice none 0 0] (n*3)).toList at m;rw[show n*3=n*([Value.bool false,.slice none 0 0,.slice none 0 0]:List Value).length from rfl,r]at m;exact m
 refine⟨List.replicate n [.bool false,.slice none 0 0,.slice none 0 0],by simp,by rw[List.length_replicate];exact f,?_,λj D=>?_⟩
 ·intro g A E p b u z
  rcases f.2 with⟨hv,-⟩| ⟨g2,cap,cur2,hv,-,hh,hnc,-,hsz,htk⟩
  ·cases hv
  ·injection hv with e1 e2 e3;injection e1 with e1;injection e1 with e1;subst e1 e3;have:w.heap.size=g:=by simpa[Value.ownBlock]using p
   subst this;rw[hh]at b;injection b with b;injection b with hc1 hc2;subst hc1;rw[List.take_of_length_le (by rw[Array.length_toList,hsz];exact Nat.le_refl _)]at htk;rw[htk,List.mem_flatten]at z;obtain⟨l,h,d⟩:=z;rw[List.mem_replicate]at h;rw[h.2]at d;simp only[List.mem_cons,List.not_mem_nil,or_false]at d
   rcases d with rfl|rfl|rfl<;>first |exact qAK _|exact qAB _ _ _
 ·have q:j<n:=by simpa using D
  rw[List.getD_eq_getElem?_getD,List.getElem?_replicate,if_pos q,List.getElem_replicate];exact rfl
def qC1 (n k:Nat):List (Option Rat):=(List.range n).map λj=>if j<k then some 0 else none
theorem qJR (n:Nat):qC1 n 0=List.replicate n none:=by
 unfold qC1;refine List.ext_getElem (by simp) λi b c=>by simp
theorem qKL {n k:Nat} (hk:k<n):(qC1 n k).set k (some 0)=qC1 n (k+1):=by
 refine List.ext_getElem (by simp[qC1]) λi b c=>?_;rw[List.getElem_set]
 by_cases e:k=i
 ·subst e;simp[qC1]
 ·rw[if_neg e];simp only[qC1,List.getElem_map,List.getElem_range]
  by_cases h:i<k
  ·rw[if_pos h,if_pos (by omega)]
  ·rw[if_neg h,if_neg (by omega)]
theorem qKM (n:Nat):qC1 n n=(List.replicate n (0:Rat)).map some:=by
 unfold qC1;refine List.ext_getElem (by simp) λi b c=>?_;have:i<n:=by simpa using b
 simp[this]
def cv (x y:List Rat):Nat->Nat->Rat
 | 0,_=>0
 | i+1,j=>cv x y i j+if i<=j/\j - i<y.length then x.getD i 0*y.getD (j - i) 0 else 0
def cvK (x y:List Rat) (i k j:Nat):Rat:=cv x y i j+if i<=j/\j - i<k then x.getD i 0*y.getD (j - i) 0 else 0
def cvL (x y:List Rat) (n i k:Nat):List Rat:=(List.range n).map (cvK x y i k)
def mulL (x y:List Rat):List Rat:=if x.length=0∨y.length=0 then[]else(List.range (x.length+y.length - 1)).map (cv x y x.length)
theorem qJS (x y:List Rat) (n i k:Nat):(cvL x y n i k).length =n:=by simp[cvL]
theorem qFm (x y:List Rat) (i j:Nat):cvK x y i 0 j=cv x y i j:=by
 unfold cvK;rw[if_neg (by omega),Rat.add_zero]
theorem qKN (x y:List Rat) (n:Nat):cvL x y n 0 0=List.replicate n 0:=by
 unfold cvL;refine List.ext_getElem (by simp) λi b c=>?_;simp[qFm,cv]
theorem qKt (x y:List Rat) (n i:Nat):cvL x y n i y.length=cvL x y n (i+1) 0:=by
 unfold cvL;refine List.map_congr_left λj _=>?_;rw[qFm]
 rfl
theorem qMD {x y:List Rat} {n i k:Nat} (h:i+k<(cvL x y n i k).length):(cvL x y n i k)[i+k]=cv x y i (i+k):=by
 simp only[cvL,List.getElem_map,List.getElem_range];unfold cvK;rw[if_neg (by omega),Rat.add_zero]
theorem qL7 {x y:List Rat} {n i k:Nat} (h:i+k<n):(cvL x y n i k).set (i+k) (cv x y i (i+k)+x.getD i 0*y.getD k 0)=cvL x y n i (k+1):=by
 refine List.ext_getElem (by simp[cvL]) λq c d=>?_;rw[List.getElem_set]
 by_cases e:i+k=q
 ·subst e;simp only[cvL,List.getElem_map,List.getElem_range,if_pos];unfold cvK;rw[if_pos (by omega),show i+k - i=k by omega]
 ·rw[if_neg e];simp only[cvL,List.getElem_map,List.getElem_range];unfold cvK
  by_cases b:i<=q/\q - i<k
  ·rw[if_pos b,if_pos (by omega)]
  ·rw[if_neg b,if_neg (by omega)]
theorem qLP {x y:List Rat} {m:Nat} (hx:∀r∈x,Rsz r m) (hy:∀r∈y,Rsz r m) (hm:1<=m) (j:Nat):∀i,Rsz (cv x y i j) (1+i*(m+m+1))
 | 0=>by unfold cv;exact qAN qEZ (by omega)
 | i+1=>by
  have ih:=qLP hx hy hm j i;unfold cv
  split
  ·exact qAN (qHw ih (qCg (qBS hx hm i) (qBS hy hm (j - i)))) (by rw[Nat.add_mul];omega)
  ·rw[Rat.add_zero];exact qAN ih (by rw[Nat.add_mul];omega)
noncomputable def mulP (p q:List FracA):Except Int (List Rat):=
 match qAC p with
 | .error z=> .error z
 | .ok x=>match qAC q with
  | .error z=> .error z
  | .ok y=>qAR (mulL x y)
theorem qME {p q:List FracA} {z:Int} (h:addF p q= .error z):mulP p q= .error z:=by
 unfold addF at h;unfold mulP
 cases hx:qAC p with
 | error z1=>rw[hx]at h;injection h with h;subst h;rfl
 | ok x=>
  rw[hx]at h
  cases hy:qAC q with
  | error z1=>rw[hy]at h;injection h with h;subst h;rfl
  | ok y=>rw[hy]at h;cases h
end Go.Proofs.YtcoajjdhkhgfdaaGreat

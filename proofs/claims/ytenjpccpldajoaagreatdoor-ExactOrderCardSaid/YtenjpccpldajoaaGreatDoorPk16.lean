/- Texts, the reference: digits. Texts, the reference: Said. Texts, the reference: Text. Texts, the reference: number. Texts, the reference: Parse. Texts, the .. -/
import Derived.Test.YtenjpccpldajoaaGreatDoorPk15
import Derived.Laws.IdiomStrings
import Derived.Shelf.Strings.BuilderK
import Derived.Shelf.Strings.Repeat
import Derived.Shelf.Strconv.Itoa3
import Derived.Lib.AppendIntMem
import Derived.HandedShaped
import Derived.Lib.LaidTab
import Derived.Lib.LaidU8
import Derived.Shelf.Vars
import Derived.Lay
namespace Go.Proofs.YtenjpccpldajoaaGreatDoor
set_option maxRecDepth 100000
open Go.RowKit Go.Shelf
set_option linter.unusedVariables false
set_option linter.unusedSimpArgs false
theorem qM1 (a b:List UInt8):(⟨a.toArray⟩:ByteArray)++⟨b.toArray⟩=⟨(a++b).toArray⟩:=by
 apply ByteArray.ext;simp
theorem qKd {n m:Nat} (h:(dg n).length ≤m) (hm:1≤m):(txN n).length ≤9*m:=by rw[qJK];exact qGc h hm
theorem qOd (r:Rat):qAL r=(if rneg r=true then[45]else[])++txN (rnum r)++(if r.den=1 then[]else 47::txN r.den):=by
 unfold qAL rneg rnum;simp only[decide_eq_true_eq,qJK]
noncomputable def qHZ (x:FracA):List UInt8:=match x.rat? with
 | some r=>qAL r
 | none=>[]
noncomputable def qH0 (x:FracA):Int:=match x.rat? with
 | some _=>0
 | none=>10
theorem qPO {l:List UInt8} (h:l.all digB=true):(dg (decV 0 l)).length ≤l.length:=by
 refine qAb (Nat.lt_of_lt_of_le (qGF l h) ?_);exact Nat.pow_le_pow_left (by rw[qAO];decide) _
theorem qJ0 {l:List UInt8} (h0:l≠[]) (h:l.all digB=true):numE l=some (decV 0 l):=by unfold numE;rw[if_neg h0,if_pos h]
theorem qKe (l:List UInt8):(⟨l.toArray⟩:ByteArray).size =l.length:=by simp[ByteArray.size]
def baL (l:List UInt8):ByteArray:=⟨l.toArray⟩
theorem qBz (l:List UInt8):(baL l).size =l.length:=qKe l
theorem qN9 (l:List UInt8) (k:Nat) (hk:k≤l.length):(baL l).extract 0 k=baL (l.take k):=by
 unfold baL;apply ByteArray.ext;simp
theorem qNa (l:List UInt8) (k:Nat) (hk:k≤l.length):(baL l).extract k l.length=baL (l.drop k):=by
 unfold baL;apply ByteArray.ext;simp;rw[List.take_of_length_le (by rw[List.length_drop];omega)]
theorem qCb (l:List UInt8):(baL l).toList =l:=by
 unfold baL;rw[ByteArray.toList_eq]
theorem qJ1:∀t:List UInt8,(cutS t).1.length ≤t.length∧(cutS t).2.1.length ≤t.length
 | []=>⟨Nat.le_refl _,Nat.le_refl _⟩
 | b::r=>by
  obtain⟨h1,h2⟩:=qJ1 r;unfold cutS
  split
  ·exact⟨Nat.zero_le _,Nat.le_succ _⟩
  ·exact⟨Nat.succ_le_succ h1,Nat.le_trans h2 (Nat.le_succ _)⟩
theorem qKf {l:List UInt8} {n:Nat} (h:numE l=some n):(dg n).length ≤l.length:=by
 unfold numE at h
 split at h
 ·cases h
 ·split at h
  ·rename_i h2;injection h with h;rw[←h];exact qPO h2
  ·cases h
theorem qKg {s:Bool} {n d m:Nat} (hd:d≠0) (h1:(dg n).length ≤m) (h2:(dg d).length ≤m):Rsz (mkR s n d) m:=by
 unfold Rsz;rw[qEM _ _ _ hd,qEt _ _ _ hd];exact⟨Nat.le_trans (qAJ (Nat.div_le_self _ _)) h1,Nat.le_trans (qAJ (Nat.div_le_self _ _)) h2⟩
theorem qNb {l:List UInt8} (h:l.head?≠some 45):qDB l=match numE (cutS l).1,numE (if (cutS l).2.2=true then(cutS l).2.1 else[49])with
  | some n,some d=>if d=0 then none else some (mkR false n d)
  | _,_=>none:=by
 unfold qDB;rw[if_neg h,decide_eq_false h]
 rfl
theorem qNc {l:List UInt8} (h:l.head?=some 45):qDB l=match numE (cutS (l.drop 1)).1,numE (if (cutS (l.drop 1)).2.2=true then(cutS (l.drop 1)).2.1 else[49])with
  | some n,some d=>if d=0 then none else some (mkR true n d)
  | _,_=>none:=by
 unfold qDB;rw[if_pos h,decide_eq_true h,List.drop_one]
 rfl
theorem qD9 {l:List UInt8} (h1:l.length≤800) (h:qDB l=none):qAr l= .error 13:=by unfold qAr;rw[if_neg (by omega),h]
theorem qJ2 {l:List UInt8} {r:Rat} (h1:l.length≤800) (h:qDB l=some r) (hs:qAL r≠l):qAr l= .error 13:=by unfold qAr;rw[if_neg (by omega),h];show(if qAL r=l then outR r else .error 13)=_;rw[if_neg hs]
theorem qJ3 {l:List UInt8} {r:Rat} (h1:l.length≤800) (h:qDB l=some r) (hs:qAL r=l):qAr l=outR r:=by unfold qAr;rw[if_neg (by omega),h];show(if qAL r=l then outR r else .error 13)=_;rw[if_pos hs]
theorem qLW {l:List UInt8} (h1:800<l.length):qAr l= .error 4:=by unfold qAr;rw[if_pos h1]
theorem qEx {W:World} {X:Nat} {t:TypeId} (h:W.heap[X]? =some (Obj.cells #[.bool false,.slice none 0 0,.bool false,.slice none 0 0] t)):(W.cell? ⟨X,0,none⟩=some (.bool false)∧W.cell? ⟨X,1,none⟩=some (.slice none 0 0)∧W.cell? ⟨X,2,none⟩=some (.bool false)∧W.cell? ⟨X,3,none⟩=some (.slice none 0 0))∧W.frozen? ⟨X,0,none⟩=false∧W.frozen? ⟨X,1,none⟩=false∧W.frozen? ⟨X,2,none⟩=false∧W.frozen? ⟨X,3,none⟩=false:=
 ⟨qAA h,fz0 h 0,fz0 h 1,fz0 h 2,fz0 h 3⟩
def TxW (w:World):Prop:=Lib.TabIs Tryz.prog w "internal/strconv.uint64pow10" .u64 Lib.pow10Tab∧∃m:Int,w.cell? ⟨txRen.g 1,0,none⟩=some (.int .i64 m)
theorem qM2 {P:Program} {n:String} {g:Nat} {k:IntKind} {zs:List Int} {w w':World} (hg:P.globalNamed n=some g) (h:Lib.TabIs P w n k zs) (hb:Below w.heap.size w w'):Lib.TabIs P w' n k zs:=by
 unfold Lib.TabIs World.var? at h ⊢;rw[hg]at h ⊢;simp only[Option.bind_some]at h ⊢
 have hlt:g<w.heap.size:=by
  rcases Nat.lt_or_ge g w.heap.size with h'|h'
  ·exact h'
  ·rw[Array.getElem?_eq_none h']at h;cases h
 rw[hb.block g hlt];exact h
theorem TxW.le {w w':World} (h:TxW w) (k:Le w w'):TxW w':=by
 obtain⟨h1,m,h2⟩:=h
 have hlt:txRen.g 1<w.heap.size:=by
  unfold World.cell? at h2
  split at h2
  ·rename_i hk;exact(gsl hk)
  ·cases h2
 exact⟨qM2 (g:=5) (by kernel_rfl) h1 k,m,(Below.cell k (p:=⟨txRen.g 1,0,none⟩) hlt).trans h2⟩
theorem qNd (g:Nat):Lib.itoa (g:Int)=Lib.decDigits g:=by
 unfold Lib.itoa;rw[if_neg (by omega)]
 rfl
theorem qOe (g:Nat) (w:World) (hg:g<B9) (hw:TxW w):Calls Tryz.prog 145 #[.int .i64 (g:Int)] w fun e w'=>e= .returned (.string (baL (Lib.decDigits g)))∧Le w w':=by
 have hB:=qAO;refine(Any.strconv_Itoa qGd (g:Int) (by omega) (by omega) w hw.1).mono ?_;rintro e w' ⟨rfl,k,os,rfl⟩;rw[qNd];exact⟨rfl,Lib.below_grow w.heap.size w (Nat.le_refl _) k os⟩
theorem qH1 (b:UInt8):∀c,Lib.repeatL [b] c=List.replicate c b
 | 0=>rfl
 | c+1=>by
  unfold Lib.repeatL;rw[qH1 b c]
  rfl
theorem qM3 (c:Nat) (w:World) (hc:c≤9):Calls Tryz.prog 147 #[.string ⟨#[48]⟩,.int .i64 (c:Int)] w fun e w'=>e= .returned (.string (baL (List.replicate c 48)))∧Le w w':=by
 refine(Any.strings_Repeat qHU qEk ⟨#[48]⟩ c w (by omega) (by show 1*c≤_;omega)).mono ?_;rintro e w' ⟨rfl,h⟩;exact⟨by rw[←qH1];rfl,h⟩
def IsTx (B b:Nat) (l:List UInt8) (w:World):Prop:=Lib.IsBuilderF 165 5 B b (Lib.byteCells l) w
theorem qGe (B b:Nat) (acc l:List UInt8) (w:World) (h:IsTx B b acc w) (hlen:acc.length+l.length≤1000000000) (hB:B≤w.heap.size):
  Calls Tryz.prog 146 #[.pointer (some ⟨b,0,none⟩),.string (baL l)] w fun e w'=>(∃v,e= .returned v)∧IsTx B b (acc++l) w'∧Below B w w'∧Lib.OthersKept 5 (some b) w w':=by
 refine(Any.Builder_WriteString_k qHS qEk B b (Lib.byteCells acc) ⟨l.toArray⟩ w h (by rw[Lib.byteCells_length,qKe];omega) hB).mono ?_;rintro e w' ⟨rfl,h1,h2,h3⟩;rw[Lib.strCells_toArray,←Lib.byteCells_append]at h1;exact⟨⟨_,rfl⟩,.inr h1,h2,h3⟩
theorem qM4 (B b:Nat) (l:List UInt8) (w:World) (h:IsTx B b l w) (hB:B≤w.heap.size):
  Calls Tryz.prog 148 #[.pointer (some ⟨b,0,none⟩)] w fun e w'=>e= .returned (.string (baL l))∧Below B w w'∧Lib.OthersKept 5 (some b) w w':=
 (Any.Builder_String_any_k qHT qEk B b l w h hB).mono fun e w' ⟨h1,h2,h3,h4⟩=>⟨h1,h3,h4⟩
open Go.RowKit Go.Shelf Go.ChangeShapes Go.WideShapes
theorem returns_laid {H:Type} {enc:TypeId×Value→H} {a:Assume} {C:Checked} {os:Os} {f:FuncId} {fn:Func} {s:ChangeSpec} {conds:List PathCond} {apart fresh handsOn again:Bool} {X:World→Array Value→Prop}
  (hX:∀(w w':World) (args:Array Value),w.heap=w'.heap→X w args→X w' args)
  (own:ownKnob C.prog.godebug=none) (started:os.Started) (noInit:C.prog.inits.idxOf? f=none) (hfn:C.prog.funcs[f]? =some fn)
  (witness:∃(w:World) (tape:Tape) (i:Input),w.os=os∧(w.forCall tape i).Shaped C.prog∧i.vars=[]∧Input.okWide C.prog (w.forCall tape i) .any w.heap.size f i∧
   ((s.pre enc C.prog fn conds apart (w.forCall tape i).memory i.args∧X (w.forCall tape i).memory i.args)∧sizedMet enc C.prog fn (OpenSpec.ofChange s) apart (w.forCall tape i).memory i.args)∧a.holds C.prog (lone (Frame.enter C.prog f i.args .normal) [] (w.forCall tape i)))
  (contract:∀(W:World) (base:Nat) (args:Array Value) (ds gs:List (DataW H)) (before:List MemPlace),
   (∀(j:Nat) t v,fn.params[j]? =some t→args[j]? =some v→Value.okWide C.prog W .any base t v)→
   DataW.Whole enc C.prog fn.params.toList s.vars apart W args.toList ds gs before→
   X W args→W.ShapedOpen C.prog→
   Calls C.prog f args W fun e W'=>∃v,e= .returned v∧s.post enc C.prog fn apart fresh handsOn again W args v W'):
  ReturnsInHanded a C os f .any (fun w args=>(s.pre enc C.prog fn conds apart w args∧X w args)∧sizedMet enc C.prog fn (OpenSpec.ofChange s) apart w args) (s.post enc C.prog fn apart fresh handsOn again):=by
 refine returnsInHanded_of_calls own started noInit witness ?_;intro w tape i _ hsh _ hok hpre hholds;obtain⟨_,_,_,fn',hfn',_,_,_,_,hval⟩:=hok;have e:fn'=fn:=Option.some.inj (hfn'.symm.trans hfn);subst e;obtain⟨⟨⟨ds,gs,before,hw,hc⟩,hx⟩,hz⟩:=hpre;have hw':=DataW.Whole.of_heap (w':=w.forCall tape i) (by rfl) hw;refine(contract (w.forCall tape i) w.heap.size i.args ds gs before hval hw' (hX _ _ _ (by rfl) hx) hsh).mono fun e W' ⟨v,he,hp⟩=>?_;subst he;exact ChangeSpec.post_blind hp
theorem txw_of {W:World} {l:List (String×DataW Unit)} {d:DataW Unit} (hL:laidMet Tryz.prog l W) (hm:("internal/strconv.uint64pow10",d)∈l) (hd:d=Lib.tabData .u64 Lib.pow10Tab) (hsh:W.ShapedOpen Tryz.prog):TxW W:=by
 subst hd;obtain⟨g',t',cs,fuel,p,hg',ht',hvar,hd⟩:=Lib.laidMet.reads hL hm
 have hg:Tryz.prog.globalNamed "internal/strconv.uint64pow10" =some 5:=by kernel_rfl
 obtain rfl:=Option.some.inj (hg.symm.trans hg');have hty:(Tryz.prog.globals[5]?).map (·.type)=some 229:=by kernel_rfl
 obtain rfl:=Option.some.inj (hty.symm.trans ht');refine⟨?_,?_⟩
 ·unfold Lib.TabIs;rw[hvar,←Lib.cells_of_tab (n:=20) (e:=98) (by kernel_rfl) (by kernel_rfl) (by kernel_rfl) (by kernel_rfl) hd]
 ·exact cell_of_shapedOpen_int (t:=3) (k:= .i64) (zero:=#[.int .i64 0]) hsh (of_decide_eq_true (by kernel_rfl)) (by kernel_rfl) (by kernel_rfl) (by kernel_rfl) (by kernel_rfl) (by kernel_rfl)
open Go.RowKit
theorem qEN {x:FracA} {r:Rat} (h:x.rat?=some r):x=qAE r:=by
 obtain⟨h1,h2,h3,h4,-,-,-⟩:=FracA.val h
 cases x with
 | mk sn gn sd gd=>
  unfold qAE;simp only at h1 h2 h3 h4;rw[h1,h2,h3,h4]
theorem qBq {x:FracA} {r:Rat} {m:Nat} (h:x.rat?=some r) (hg:qAo x m=false):Rsz r m:=by
 have hv:=FracA.val h;obtain⟨s1,s2⟩:=hv.sz;rw[qEN h]at hg;unfold qAo bigB qAE at hg;simp only[Bool.or_eq_false_iff,Bool.and_eq_false_iff,decide_eq_false_iff_not]at hg;obtain⟨⟨g1,-⟩,g2,-⟩:=hg;exact⟨by omega,by omega⟩
theorem qI3 {n k:Nat} (h:(Lib.decDigits n).length ≤9*k):(dg n).length ≤k:=by
 obtain⟨h1,h2,-⟩:=qEa n;have h3:=qGF _ h1;rw[h2]at h3;refine qAb (Nat.lt_of_lt_of_le h3 ?_);rw[qEu,←Nat.pow_mul];exact Nat.pow_le_pow_right (by decide) h
theorem qBi {r:Rat} (h:(qAL r).length ≤200):Rsz r 40:=by
 have e:(qAL r).length =(if r.num<0 then[45]else[]:List UInt8).length +(Lib.decDigits r.num.natAbs).length +(if r.den=1 then[]else 47::Lib.decDigits r.den:List UInt8).length :=by
  unfold qAL;rw[List.length_append,List.length_append]
 refine⟨qI3 (n:=rnum r) (show(Lib.decDigits r.num.natAbs).length ≤9*40 by omega),?_⟩
 by_cases h1:r.den=1
 ·rw[h1,qCV]
  decide
 ·rw[if_neg h1,List.length_cons]at e;exact qI3 (by omega)
theorem qH2 {P:Program} (w:World) (base:Nat) (t ty e:TypeId) (i:TypeInfo) (z:Value) (size bytes:Nat) (ht:P.underlying t=some (.slice e)) (hi:P.info? e=some i) (hz:i.zero=some z)
  (hsize:i.size=size) (hby:i.bytes=bytes) (hzs:z.cells.size=size) (hsz:0<size)
  (v:Value) (n:Nat) (xs:List Value) (hown:w.ownsRow base e size v n xs)
  (a:Addr) (m c:Nat) (news:List Value) (hl:news.length=m*size) (hnews:∀j u,news[j]? =some u→w.cell? (a.add j)=some u) (h1:∀u∈news,u.oneCell'=true)
  (h63:n+m≤maxLen) (hbytes:(n+m)*bytes≤140737488355328) (hbase:base≤w.heap.size):
  ∃v' w',(Builtin.append_ #[t,t] ty #[v,.slice (some a) m c]).run P w= .ok v' w'∧w'.ownsRow base e size v' (n+m) (xs++news)∧w.grownBy w' v.ownBlock∧
   (v'= .slice none 0 0↔v= .slice none 0 0∧m=0)∧∀k,v'.ownBlock=some k→v.ownBlock=some k∨w.heap.size≤k:=by
 obtain⟨v',w',hr,h2,h3,h4⟩:=run_append_own (P:=P) w base t ty e i z size bytes ht hi hz hsize hby hzs hsz v n xs hown a m c news hl hnews h1 h63 hbytes hbase;refine⟨v',w',hr,h2,h3,h4,?_⟩;have hsmall:n+m≤9223372036854775807:=by simp only[maxLen]at h63;omega
 rcases hown.2 with⟨rfl,rfl⟩| ⟨g,cap,cur,rfl,hbg,hg,hnc,hcm,hcs,htake⟩
 ·have hx:xs=[]:=List.eq_nil_of_length_eq_zero (by simpa using hown.1);subst hx;obtain⟨v2,w2,hr2,k2,_,_⟩:=run_append_own (P:=P) w w.heap.size t ty e i z size bytes ht hi hz hsize hby hzs hsz (.slice none 0 0) 0 [] (World.ownsRow_nil _ _ _ _) a m c news hl hnews h1 h63 hbytes (Nat.le_refl _);rw[hr]at hr2;injection hr2 with e1 e2;subst e1 e2;exact fun k hk=> .inr (k2.lt k hk).1
 ·subst hsize
  by_cases hroom:n+m≤cap
  ·have hfit:n*i.size+news.length≤cur.size:=by rw[hl,hcs,←Nat.add_mul];exact Nat.mul_le_mul_right _ hroom
   have hr2:=run_append_room (P:=P) w t ty e i ht hi g n cap cur hg a m c news hl hnews h1 hroom hfit;rw[hr]at hr2;injection hr2 with e1 e2;subst e1;exact fun k hk=> .inl hk
  ·have holds:∀j u,xs[j]? =some u→w.cell? ((⟨g,0,none⟩:Addr).add j)=some u:=hown.cells (g:=g) rfl;have hr2:=run_append_grow (P:=P) w t ty e i z ht hi hz ⟨g,0,none⟩ n cap xs hown.1 holds a m c news hl hnews (by omega) (by omega) (growslice_fits (by omega) (by rw[hby];exact hbytes));rw[hr]at hr2;injection hr2 with e1 e2;subst e1;intro k hk;have:w.heap.size=k:=by simpa[Value.ownBlock]using hk
   exact .inr (by omega)
def RowAll (p:Value→Prop) (w:World) (v:Value):Prop:=∀g cur t,v.ownBlock=some g→w.heap[g]? =some (.cells cur t)→∀u∈cur.toList,p u
theorem RowAll.nil (p:Value→Prop) (w:World):RowAll p w (.slice none 0 0):=fun g cur t h=>by cases h
theorem RowAll.same {p:Value→Prop} {w W:World} {v:Value} (h:RowAll p w v) (hk:∀g,v.ownBlock=some g→W.heap[g]? =w.heap[g]?):RowAll p W v:=fun g cur t h1 h2=>h g cur t h1 ((hk g h1).symm.trans h2)
theorem qH3 {P:Program} (p:Value→Prop) (w:World) (base:Nat) (t ty e:TypeId) (i:TypeInfo) (z:Value) (size bytes:Nat) (ht:P.underlying t=some (.slice e)) (hi:P.info? e=some i) (hz:i.zero=some z)
  (hsize:i.size=size) (hby:i.bytes=bytes) (hzs:z.cells.size=size) (hsz:0<size)
  (v:Value) (n:Nat) (xs:List Value) (hown:w.ownsRow base e size v n xs)
  (a:Addr) (m c:Nat) (news:List Value) (hl:news.length=m*size) (hnews:∀j u,news[j]? =some u→w.cell? (a.add j)=some u) (h1:∀u∈news,u.oneCell'=true)
  (h63:n+m≤maxLen) (hbytes:(n+m)*bytes≤140737488355328) (hbase:base≤w.heap.size)
  (hm:0<m) (hpn:∀u∈news,p u) (hpz:∀j,j<size→p z.cells[j]!) (hall:RowAll p w v):
  ∃v' w',(Builtin.append_ #[t,t] ty #[v,.slice (some a) m c]).run P w= .ok v' w'∧w'.ownsRow base e size v' (n+m) (xs++news)∧w.grownBy w' v.ownBlock∧
   (∀k,v'.ownBlock=some k→v.ownBlock=some k∨w.heap.size≤k)∧RowAll p w' v'∧∀g,v.ownBlock=some g→∃cur,w'.heap[g]? =some (.cells cur e)∧∀u∈cur.toList,p u:=by
 obtain⟨v',w',hr,h2,h3,h4,h5⟩:=qH2 (P:=P) w base t ty e i z size bytes ht hi hz hsize hby hzs hsz v n xs hown a m c news hl hnews h1 h63 hbytes hbase;refine⟨v',w',hr,h2,h3,h5,?_⟩;have hsmall:n+m≤9223372036854775807:=by simp only[maxLen]at h63;omega
 have hzero:∀k,∀u∈(Builtin.zeroCells z.cells k).toList,p u:=by
  intro k u hu;unfold Builtin.zeroCells at hu;simp only[Array.toList_map,List.mem_map]at hu;obtain⟨q,-,rfl⟩:=hu;have:=hpz (q%z.cells.size) (by rw[←hzs];exact Nat.mod_lt _ (by omega));exact this
 rcases hown.2 with⟨rfl,rfl⟩| ⟨g,cap,cur,rfl,hbg,hg,hnc,hcm,hcs,htake⟩
 ·have hx:xs=[]:=List.eq_nil_of_length_eq_zero (by simpa using hown.1);subst hx;subst hsize
  subst hby
  have hr2:=run_append_nil (P:=P) w t ty e i z ht hi hz a m c news hl hnews hm (by omega) (by have hb:=hbytes;simp only[Nat.zero_add]at hb;omega);rw[hr]at hr2;injection hr2 with e1 e2;subst e1 e2;refine⟨?_,fun g h=>by cases h⟩;intro k cur' t' hk hk2 u hu;have hgk:w.heap.size=k:=by simpa[Value.ownBlock]using hk
  subst hgk;have hh:(w.drew.alloc (.cells (news.toArray++Builtin.zeroCells z.cells (grownCap w m 0 e - m)) e)).heap[w.heap.size]? =some (.cells (news.toArray++Builtin.zeroCells z.cells (grownCap w m 0 e - m)) e (0,0)):=heap_alloc_new w.drew _;rw[hh]at hk2;injection hk2 with hk2;injection hk2 with hk2;subst hk2;simp only[Array.toList_append,List.mem_append]at hu
  rcases hu with hu|hu
  ·exact hpn u hu
  ·exact hzero _ u hu
 ·subst hsize
  by_cases hroom:n+m≤cap
  ·have hfit:n*i.size+news.length≤cur.size:=by rw[hl,hcs,←Nat.add_mul];exact Nat.mul_le_mul_right _ hroom
   have hr2:=run_append_room (P:=P) w t ty e i ht hi g n cap cur hg a m c news hl hnews h1 hroom hfit;rw[hr]at hr2;injection hr2 with e1 e2;subst e1 e2;refine⟨?_,fun g' h=>?_⟩
   rotate_left
   ·have hgk:g=g':=by simpa[Value.ownBlock]using h
    subst hgk;refine⟨_,setRow_heap w g cur _ e _ hg,fun u hu=>?_⟩;have hcur:=hall g cur e rfl hg;simp only[List.mem_append]at hu
    rcases hu with(hu|hu)|hu
    ·exact hcur u (List.mem_of_mem_take hu)
    ·exact hpn u hu
    ·exact hcur u (List.mem_of_mem_drop hu)
   intro k cur' t' hk hk2 u hu;have hgk:g=k:=by simpa[Value.ownBlock]using hk
   subst hgk;have hh:(w.setRow g (cur.toList.take (n*i.size)++news++cur.toList.drop (n*i.size+news.length)).toArray).heap[g]? =some (.cells (cur.toList.take (n*i.size)++news++cur.toList.drop (n*i.size+news.length)).toArray e (0,0)):=setRow_heap w g cur _ e _ hg;rw[hh]at hk2;injection hk2 with hk2;injection hk2 with hk2;subst hk2;have hcur:=hall g cur e rfl hg;simp only[List.mem_append]at hu
   rcases hu with(hu|hu)|hu
   ·exact hcur u (List.mem_of_mem_take hu)
   ·exact hpn u hu
   ·exact hcur u (List.mem_of_mem_drop hu)
  ·have holds:∀j u,xs[j]? =some u→w.cell? ((⟨g,0,none⟩:Addr).add j)=some u:=hown.cells (g:=g) rfl;have hr2:=run_append_grow (P:=P) w t ty e i z ht hi hz ⟨g,0,none⟩ n cap xs hown.1 holds a m c news hl hnews (by omega) (by omega) (growslice_fits (by omega) (by rw[hby];exact hbytes));rw[hr]at hr2;injection hr2 with e1 e2;subst e1 e2;refine⟨?_,fun g' h=>?_⟩
   rotate_left
   ·have hgk:g=g':=by simpa[Value.ownBlock]using h
    subst hgk;exact⟨cur,(heap_alloc_old w.drew _ (gsl hg)).trans hg,hall g cur e rfl hg⟩
   intro k cur' t' hk hk2 u hu;have hgk:w.heap.size=k:=by simpa[Value.ownBlock]using hk
   subst hgk;have hh:(w.drew.alloc (.cells (xs.toArray++news.toArray++Builtin.zeroCells z.cells (grownCap w (n+m) cap e - (n+m))) e)).heap[w.heap.size]? =some (.cells (xs.toArray++news.toArray++Builtin.zeroCells z.cells (grownCap w (n+m) cap e - (n+m))) e (0,0)):=heap_alloc_new w.drew _;rw[hh]at hk2;injection hk2 with hk2;injection hk2 with hk2;subst hk2;have hcur:=hall g cur e rfl hg;simp only[Array.toList_append,List.mem_append]at hu
   rcases hu with(hu|hu)|hu
   ·rw[←htake]at hu;exact hcur u (List.mem_of_mem_take hu)
   ·exact hpn u hu
   ·exact hzero _ u hu
theorem qFi {P:Program} (p:Value→Prop) (w:World) {ops:Array Oper} {rest:List Oper} {o:Oper} {a:Act} {Q:Exit→Act→World→Prop} (hgd:o.guard=none) (s x:Operand) (t:TypeId)
  (ho:o.op= .call {callee:= .builtin .append,args:=#[s,x],argTypes:=#[t,t]})
  (base:Nat) (e:TypeId) (i:TypeInfo) (z:Value) (size bytes:Nat) (ht:P.underlying t=some (.slice e)) (hi:P.info? e=some i) (hz:i.zero=some z)
  (hsize:i.size=size) (hby:i.bytes=bytes) (hzs:z.cells.size=size) (hsz:0<size)
  (v:Value) (n:Nat) (xs:List Value) (hs:a.eval s=v) (hown:w.ownsRow base e size v n xs)
  (ad:Addr) (m c:Nat) (news:List Value) (hx:a.eval x= .slice (some ad) m c) (hl:news.length=m*size) (hnews:∀j u,news[j]? =some u→w.cell? (ad.add j)=some u) (h1:∀u∈news,u.oneCell'=true)
  (h63:n+m≤maxLen) (hbytes:(n+m)*bytes≤140737488355328) (hbase:base≤w.heap.size)
  (hm:0<m) (hpn:∀u∈news,p u) (hpz:∀j,j<size→p z.cells[j]!) (hall:RowAll p w v)
  (h:∀v' w',w'.ownsRow base e size v' (n+m) (xs++news)→w.grownBy w' v.ownBlock→(∀k,v'.ownBlock=some k→v.ownBlock=some k∨w.heap.size≤k)→RowAll p w' v'→(∀g,v.ownBlock=some g→∃cur,w'.heap[g]? =some (.cells cur e)∧∀u∈cur.toList,p u)→wpList P ops Q rest (a.put o.dst v') w'):wpList P ops Q (o::rest) a w:=by
 refine wpList_plain hgd fun _ hK=>?_;obtain⟨v',w',hr,h2,h3,h4,h5,h6⟩:=qH3 (P:=P) p w base t o.type e i z size bytes ht hi hz hsize hby hzs hsz v n xs hown ad m c news hl hnews h1 h63 hbytes hbase hm hpn hpz hall;unfold Oper.wp execOp;simp only[ho,resolve,invoke,builtin,Sem.run_bind,Sem.run_pure,Result.andThen_ok,List.map_toArray,List.map_cons,List.map_nil,hs,hx,hr];exact hK _ _ (h v' w' h2 h3 h4 h5 h6)
end Go.Proofs.YtenjpccpldajoaaGreatDoor

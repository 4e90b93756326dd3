/- Fractions, integers and api.Frac as elements of rows; exact.mapped. (Printed by gen_map.py.) -/
import Derived.Test.YtenjpccpldajoaaGreatDoorPk18
namespace Go.Proofs.YtenjpccpldajoaaGreatDoor
set_option maxRecDepth 100000
set_option maxHeartbeats 1000000
open Go.RowKit Go.Shelf
set_option linter.unusedVariables false
set_option linter.unusedSimpArgs false
theorem qAV {k:IntKind} (b:Bool):NI k (.bool b):=fun _ h=>by cases h
theorem qAK {k:IntKind} (A:Option Addr) (n c:Nat):NI k (.slice A n c):=fun _ h=>by cases h
def ratK (k:IntKind):EK Rat where
 ik:=k
 sz:=3
 pos:=by decide
 small:=by decide
 rd w cs r:=∃s A n c B m d,cs=[.bool s,.slice A n c,.slice B m d]∧RatL (fun _=>True) k w (.agg #[.bool s,.slice A n c,.slice B m d]) r
 len:=by rintro w cs a ⟨s,A,n,c,B,m,d,rfl,-⟩;rfl
 one:=by rintro w cs a ⟨s,A,n,c,B,m,d,rfl,-⟩ u hu;simp only[List.mem_cons,List.not_mem_nil,or_false]at hu;rcases hu with rfl|rfl|rfl<;>rfl
 ni:=by rintro w cs a ⟨s,A,n,c,B,m,d,rfl,-⟩ u hu;simp only[List.mem_cons,List.not_mem_nil,or_false]at hu;rcases hu with rfl|rfl|rfl<;>first |exact qAV _|exact qAK _ _ _
 kp:=by rintro w W cs a ⟨s,A,n,c,B,m,d,rfl,h⟩ hk;exact⟨s,A,n,c,B,m,d,rfl,h.kp hk⟩
def frK (L:Nat→Prop):EK Rat where
 ik:= .u32
 sz:=4
 pos:=by decide
 small:=by decide
 rd w cs r:=∃s A n c t B m d,cs=[.bool s,.slice A n c,.bool t,.slice B m d]∧FracL L w (.agg #[.bool s,.slice A n c,.bool t,.slice B m d]) r
 len:=by rintro w cs a ⟨s,A,n,c,t,B,m,d,rfl,-⟩;rfl
 one:=by rintro w cs a ⟨s,A,n,c,t,B,m,d,rfl,-⟩ u hu;simp only[List.mem_cons,List.not_mem_nil,or_false]at hu;rcases hu with rfl|rfl|rfl|rfl<;>rfl
 ni:=by rintro w cs a ⟨s,A,n,c,t,B,m,d,rfl,-⟩ u hu;simp only[List.mem_cons,List.not_mem_nil,or_false]at hu;rcases hu with rfl|rfl|rfl|rfl<;>first |exact qAV _|exact qAK _ _ _
 kp:=by rintro w W cs a ⟨s,A,n,c,t,B,m,d,rfl,h⟩ hk;exact⟨s,A,n,c,t,B,m,d,rfl,h.kp hk⟩
def inK:EK FracA where
 ik:= .u32
 sz:=4
 pos:=by decide
 small:=by decide
 rd w cs x:=∃A c B d,cs=[.bool x.sn,.slice A x.gn.length c,.bool x.sd,.slice B x.gd.length d]∧IsFracA (fun _=>True) w (.agg #[.bool x.sn,.slice A x.gn.length c,.bool x.sd,.slice B x.gd.length d]) x
 len:=by rintro w cs a ⟨A,c,B,d,rfl,-⟩;rfl
 one:=by rintro w cs a ⟨A,c,B,d,rfl,-⟩ u hu;simp only[List.mem_cons,List.not_mem_nil,or_false]at hu;rcases hu with rfl|rfl|rfl|rfl<;>rfl
 ni:=by rintro w cs a ⟨A,c,B,d,rfl,-⟩ u hu;simp only[List.mem_cons,List.not_mem_nil,or_false]at hu;rcases hu with rfl|rfl|rfl|rfl<;>first |exact qAV _|exact qAK _ _ _
 kp:=by rintro w W cs a ⟨A,c,B,d,rfl,h⟩ hk;exact⟨A,c,B,d,rfl,h.kp hk⟩
def IntL (w:World) (v:Value) (z:Int):Prop:=∃A n c,v= .agg #[.bool (decide (z<0)),.slice A n c]∧NumL (fun _=>True) .u32 w (.slice A n c) z.natAbs
theorem IntL.kp {w W:World} {v:Value} {z:Int} (h:IntL w v z) (hk:Kp .u32 w W):IntL W v z:=by
 obtain⟨A,n,c,rfl,h⟩:=h;exact⟨A,n,c,rfl,h.kp hk⟩
theorem IntL.le {w W:World} {v:Value} {z:Int} (h:IntL w v z) (hb:Le w W):IntL W v z:=h.kp (Kp.of_le hb)
def intK:EK Int where
 ik:= .u32
 sz:=2
 pos:=by decide
 small:=by decide
 rd w cs z:=∃A n c,cs=[.bool (decide (z<0)),.slice A n c]∧NumL (fun _=>True) .u32 w (.slice A n c) z.natAbs
 len:=by rintro w cs a ⟨A,n,c,rfl,-⟩;rfl
 one:=by rintro w cs a ⟨A,n,c,rfl,-⟩ u hu;simp only[List.mem_cons,List.not_mem_nil,or_false]at hu;rcases hu with rfl|rfl<;>rfl
 ni:=by rintro w cs a ⟨A,n,c,rfl,-⟩ u hu;simp only[List.mem_cons,List.not_mem_nil,or_false]at hu;rcases hu with rfl|rfl<;>first |exact qAV _|exact qAK _ _ _
 kp:=by rintro w W cs a ⟨A,n,c,rfl,h⟩ hk;exact⟨A,n,c,rfl,h.kp hk⟩
def mapE {α β:Type} (f:α→Except Int β):List α→Except Int (List β)
 | []=> .ok []
 | x::xs=>match f x with
  | .error z=> .error z
  | .ok y=>match mapE f xs with
   | .error z=> .error z
   | .ok ys=> .ok (y::ys)
theorem qDI {α β:Type} {f:α→Except Int β}:∀{l:List α} {ys:List β} {x:α} {y:β},mapE f l= .ok ys→f x= .ok y→mapE f (l++[x])= .ok (ys++[y])
 | [],ys,x,y,h,hf=>by
  have:ys=[]:=by simpa[mapE]using h.symm
  subst this;simp[mapE,hf]
 | a::l,ys,x,y,h,hf=>by
  cases ha:f a with
  | error z=>simp[mapE,ha]at h
  | ok b=>
   cases hl:mapE f l with
   | error z=>simp[mapE,ha,hl]at h
   | ok bs=>
    have:b::bs=ys:=by simpa[mapE,ha,hl]using h
    subst this;simp[mapE,ha,qDI hl hf]
theorem qDc {α β:Type} {f:α→Except Int β}:∀{l r:List α} {ys:List β} {x:α} {z:Int},mapE f l= .ok ys→f x= .error z→mapE f (l++x::r)= .error z
 | [],r,ys,x,z,h,hf=>by simp[mapE,hf]
 | a::l,r,ys,x,z,h,hf=>by
  cases ha:f a with
  | error z=>simp[mapE,ha]at h
  | ok b=>
   cases hl:mapE f l with
   | error z=>simp[mapE,ha,hl]at h
   | ok bs=>simp[mapE,ha,qDc hl hf]
def MapPost {β:Type} (K:EK β) (t:TypeId) (w:World) (res:Except Int (List β)) (e:Ending) (w':World):Prop:=Le w w'∧((∃ys v,res= .ok ys∧e= .returned v∧RowE K t w.heap.size w' v ys)∨(∃z,res= .error z∧e= .panicked (flt z)))
def ElOk {α β:Type} (P:Program) (Ka:EK α) (Kb:EK β) (f:α→Except Int β) (g:FuncId) (fst cap:Array Value) (W:World) (x:α):Prop:=
 ∀cs,Ka.rd W cs x→Calls P g (fst++#[.agg cs.toArray]++cap) W (fun e W'=>Le W W'∧((∃y cs',f x= .ok y∧e= .returned (.agg cs'.toArray)∧Kb.rd W' cs' y)∨∃z,f x= .error z∧e= .panicked (flt z)))
theorem RowE.slice {α:Type} {K:EK α} {e:TypeId} {base:Nat} {w:World} {v:Value} {xs:List α} (h:RowE K e base w v xs):∃A c,v= .slice A xs.length c:=by
 obtain⟨A,c,rfl,-⟩:=h.seq;exact⟨A,c,rfl⟩
theorem enew (w:World) (o:Obj):∃V,w.alloc o=V∧Below w.heap.size w V∧V.heap[w.heap.size]? =some o:=⟨_,rfl,alc1 _ _,heap_alloc_new _ _⟩
theorem qLX {k:IntKind}:∀j,j<2→NI k (Value.agg #[.bool false,.slice none 0 0]).cells[j]!
 | 0,_=>qAV _
 | 1,_=>qAK _ _ _
theorem qOV {k:IntKind}:∀j,j<3→NI k (Value.agg #[.bool false,.slice none 0 0,.slice none 0 0]).cells[j]!
 | 0,_=>qAV _
 | 1,_=>qAK _ _ _
 | 2,_=>qAK _ _ _
theorem qOW {k:IntKind}:∀j,j<4→NI k (Value.agg #[.bool false,.slice none 0 0,.bool false,.slice none 0 0]).cells[j]!
 | 0,_=>qAV _
 | 1,_=>qAK _ _ _
 | 2,_=>qAV _
 | 3,_=>qAK _ _ _
theorem qM6 (f:FracA→Except Int Rat) (g:FuncId) (fst cap:Array Value) (v:Value) (xs:List FracA) (w:World) (hv:SeqE inK w v xs) (hl:xs.length≤1000000) (hg:qAF Tryz.prog g)
  (hf:∀W,Le w W→∀x∈xs,ElOk Tryz.prog inK (ratK .u32) f g fst cap W x):Calls Tryz.prog 124 #[v,.func (.func g) fst cap] w (MapPost (ratK .u32) 70 w (mapE f xs)):=by
 have hinfo:(Tryz.prog.info? 70).map (fun i=>(i.zero,i.size,i.bytes))=some (some (.agg #[.bool false,.slice none 0 0,.slice none 0 0]),3,56):=by kernel_rfl
 obtain⟨VA,vc,rfl,-,-,-⟩:=hv.slice;obtain⟨n,hn⟩:∃n,xs.length=n:=⟨_,rfl⟩;rw[hn]at hl hv ⊢;unfold qAF at hg;have⟨hv',hf',hn',hinfo'⟩:=hyd4 hv hf hn hinfo;clear hinfo hn hf hv;go_enter Tryz.func124,Tryz.ntmps124;go_wp2_with (fail);go_loopw [10,5] (fun i s wr=>∃(k:Nat) (ys:List Rat),i= .int .i64 (k:Int)∧k≤n∧Hid (mapE f (xs.take k)= .ok ys)∧Hid (ys.length=k)∧Hid (Below w.heap.size w wr)∧Hid (RowE (ratK .u32) 70 w.heap.size wr s ys)) (fun i _ _=>n - (intOf i).toNat)
 case atStart=>exact⟨0,[],rfl,Nat.zero_le _,Lib.hid rfl,Lib.hid rfl,Lib.hid (Below.refl _ _),Lib.hid (RowE.nil _ _ _ _)⟩
 case round=>
  obtain⟨k,ys,rfl,hk,hm,hyl,hb,hrow⟩:=hrel
  by_cases hlt:k<n
  ·have hkx:k<xs.length:=by rw[hn'.out];exact hlt
   obtain⟨b,off,c,e1,hbl,cs,hrd,hc⟩:=(hv'.out.le hb.out).at hkx;rw[hn'.out]at e1;injection e1 with e1 e2 e3;subst e1 e3;clear e2;have hmem:xs[k]∈xs:=List.getElem_mem hkx;have htk:xs.take (k+1)=xs.take k++[xs[k]]:=by rw[List.take_succ_eq_append_getElem hkx]
   have hsp:xs=xs.take k++xs[k]::xs.drop (k+1):=by rw[←List.drop_eq_getElem_cons hkx,List.take_append_drop]
   generalize xs[k]=x at hrd hmem htk hsp;obtain⟨A1,c1,B1,d1,rfl,hxa⟩:=hrd;have q0:wr.cell? ⟨b,off+k*4,none⟩=some (.bool x.sn):=hc 0 _ rfl;have q1:wr.cell? ⟨b,off+k*4+1,none⟩=some (.slice A1 x.gn.length c1):=hc 1 _ rfl;have q2:wr.cell? ⟨b,off+k*4+2,none⟩=some (.bool x.sd):=hc 2 _ rfl;have q3:wr.cell? ⟨b,off+k*4+3,none⟩=some (.slice B1 x.gd.length d1):=hc 3 _ rfl;obtain⟨W1,hW1,hb1,k1⟩:=enew wr (.cells #[.bool x.sn,.slice A1 x.gn.length c1,.bool x.sd,.slice B1 x.gd.length d1] 26);have p0:W1.cell? ⟨wr.heap.size,0,none⟩=some (.bool x.sn):=cell_of_row W1 wr.heap.size 0 _ _ _ k1;have p1:W1.cell? ⟨wr.heap.size,1,none⟩=some (.slice A1 x.gn.length c1):=cell_of_row W1 wr.heap.size 1 _ _ _ k1;have p2:W1.cell? ⟨wr.heap.size,2,none⟩=some (.bool x.sd):=cell_of_row W1 wr.heap.size 2 _ _ _ k1;have p3:W1.cell? ⟨wr.heap.size,3,none⟩=some (.slice B1 x.gd.length d1):=cell_of_row W1 wr.heap.size 3 _ _ _ k1;have hle1:Le w W1:=hb.out.trans (hb1.mono hb.out.size);have hcall:=hf'.out W1 hle1 x hmem [.bool x.sn,.slice A1 x.gn.length c1,.bool x.sd,.slice B1 x.gd.length d1] (⟨A1,c1,B1,d1,rfl,(hxa.kp (Kp.of_le hb1))⟩);have hrow1:=hrow.out.le hb1;have j1:(k:Int)<(n:Int):=by omega
   have j2:(0:Int)≤(k:Int):=by omega
   have⟨hb1',k1',hle1',hcall',hrow1',hmem',htk',hsp'⟩:=hyd8 hb1 k1 hle1 hcall hrow1 hmem htk hsp;have hxa':=hyd1 hxa;clear hxa hsp htk hmem hrow1 hcall hle1 k1 hb1;clear hb hrow;go_wp2_with (fail);refine hcall'.out.mono ?_;rintro e W2 ⟨hle2,⟨y,cs',hfy,rfl,hyr⟩| ⟨z,hfz,rfl⟩⟩
   ·obtain⟨s2,A2,n2,c2,B2,m2,d2,rfl,hya⟩:=hyr;obtain⟨W3,hW3,hb3,k3⟩:=enew W2 (.cells #[.bool s2,.slice A2 n2 c2,.slice B2 m2 d2] 70);have hle3:Le w W3:=hle1'.out.trans (hle2.trans hb3);have hrow3:=hrow1'.out.le (hle2.trans hb3);have hyr3:((ratK .u32)).rd W3 [.bool s2,.slice A2 n2 c2,.slice B2 m2 d2] y:=⟨s2,A2,n2,c2,B2,m2,d2,rfl,(hya.kp (Kp.of_le hb3))⟩
    have hnew:∀(i:Nat) (u:Value),([.bool s2,.slice A2 n2 c2,.slice B2 m2 d2]:List Value)[i]? =some u→W3.cell? ⟨W2.heap.size,i,none⟩=some u:=fun i u hu=>by
     have hi4:i<3:=(List.getElem?_eq_some_iff.1 hu).1
     match i,hi4 with
     | 0,_=>have z:=cell_of_row W3 W2.heap.size 0 _ _ _ k3;rw[z];simpa using hu
     | 1,_=>have z:=cell_of_row W3 W2.heap.size 1 _ _ _ k3;rw[z];simpa using hu
     | 2,_=>have z:=cell_of_row W3 W2.heap.size 2 _ _ _ k3;rw[z];simpa using hu
    obtain⟨SA,sc,rfl⟩:=hrow3.slice;have hz3:=hle3.size;have⟨hle2',hfy',hya',hb3',k3',hle3',hrow3',hyr3'⟩:=hyd8 hle2 hfy hya hb3 k3 hle3 hrow3 hyr3;have hnew':=hyd1 hnew;clear hnew hyr3 hrow3 hle3 k3 hb3 hya hfy hle2;go_wp2_with (first | (at_builtin;go_must (refine RowE.append hrow3'.out rfl _ _ 107 rfl 56 (.agg #[.bool false,.slice none 0 0,.slice none 0 0]) (by decide) Tryz.underlying107 hinfo'.out rfl qOV rfl W2.heap.size rfl hyr3'.out hnew'.out (by rw[hyl.out];omega) hz3 ?_)));intro v7 W7 q1 q2 q3 q4 q5;have r1:=qDI hm.out hfy'.out;rw[←htk'.out]at r1;have r2:(ys++[y]).length =k+1:=by rw[List.length_append,hyl.out];rfl
    have r3:Below w.heap.size w W7:=(show Below w.heap.size w W3 from hle3'.out).trans q2;have⟨q1',q2',q3',q4',q5',r1',r2',r3'⟩:=hyd8 q1 q2 q3 q4 q5 r1 r2 r3;clear r3 r2 r1 q5 q4 q3 q2 q1;go_wp2;go_roundw
    case rel=>exact⟨k+1,_,by go_num,by omega,r1',r2',r3',q1'⟩
    case measure=>simp[intOf];omega
   ·have r1:=qDc (r:=xs.drop (k+1)) hm.out hfz;rw[←hsp'.out]at r1;have hle9:=hle1'.out.trans hle2;have⟨hle2',hfz',r1',hle9'⟩:=hyd4 hle2 hfz r1 hle9;clear hle9 r1 hfz hle2;go_wp2_with (fail);exact⟨rfl,hle9'.out,.inr ⟨z,r1'.out,rfl⟩⟩
  ·obtain rfl:k=n:=by omega
   have r1:=hm.out;rw[←hn'.out,List.take_length]at r1;have hb9:=hb.out;have hr9:=hrow.out;have j1:¬(k:Int)<(k:Int):=by omega
   have⟨r1',hb9',hr9'⟩:=hyd3 r1 hb9 hr9;clear hr9 hb9 r1;go_wp2;go_ret;exact⟨hb9'.out,.inl ⟨ys,_,r1'.out,rfl,hr9'.out⟩⟩
theorem qLY (L:Nat→Prop) (f:Rat→Except Int Rat) (g:FuncId) (fst cap:Array Value) (v:Value) (xs:List Rat) (w:World) (hv:SeqE (ratK .u32) w v xs) (hl:xs.length≤1000000) (hg:qAF Tryz.prog g)
  (hf:∀W,Le w W→∀x∈xs,ElOk Tryz.prog (ratK .u32) (frK L) f g fst cap W x):Calls Tryz.prog 125 #[v,.func (.func g) fst cap] w (MapPost (frK L) 26 w (mapE f xs)):=by
 have hinfo:(Tryz.prog.info? 26).map (fun i=>(i.zero,i.size,i.bytes))=some (some (.agg #[.bool false,.slice none 0 0,.bool false,.slice none 0 0]),4,64):=by kernel_rfl
 obtain⟨VA,vc,rfl,-,-,-⟩:=hv.slice;obtain⟨n,hn⟩:∃n,xs.length=n:=⟨_,rfl⟩;rw[hn]at hl hv ⊢;unfold qAF at hg;have⟨hv',hf',hn',hinfo'⟩:=hyd4 hv hf hn hinfo;clear hinfo hn hf hv;go_enter Tryz.func125,Tryz.ntmps125;go_wp2_with (fail);go_loopw [10,5] (fun i s wr=>∃(k:Nat) (ys:List Rat),i= .int .i64 (k:Int)∧k≤n∧Hid (mapE f (xs.take k)= .ok ys)∧Hid (ys.length=k)∧Hid (Below w.heap.size w wr)∧Hid (RowE (frK L) 26 w.heap.size wr s ys)) (fun i _ _=>n - (intOf i).toNat)
 case atStart=>exact⟨0,[],rfl,Nat.zero_le _,Lib.hid rfl,Lib.hid rfl,Lib.hid (Below.refl _ _),Lib.hid (RowE.nil _ _ _ _)⟩
 case round=>
  obtain⟨k,ys,rfl,hk,hm,hyl,hb,hrow⟩:=hrel
  by_cases hlt:k<n
  ·have hkx:k<xs.length:=by rw[hn'.out];exact hlt
   obtain⟨b,off,c,e1,hbl,cs,hrd,hc⟩:=(hv'.out.le hb.out).at hkx;rw[hn'.out]at e1;injection e1 with e1 e2 e3;subst e1 e3;clear e2;have hmem:xs[k]∈xs:=List.getElem_mem hkx;have htk:xs.take (k+1)=xs.take k++[xs[k]]:=by rw[List.take_succ_eq_append_getElem hkx]
   have hsp:xs=xs.take k++xs[k]::xs.drop (k+1):=by rw[←List.drop_eq_getElem_cons hkx,List.take_append_drop]
   generalize xs[k]=x at hrd hmem htk hsp;obtain⟨s1,A1,n1,c1,B1,m1,d1,rfl,hxa⟩:=hrd;have q0:wr.cell? ⟨b,off+k*3,none⟩=some (.bool s1):=hc 0 _ rfl;have q1:wr.cell? ⟨b,off+k*3+1,none⟩=some (.slice A1 n1 c1):=hc 1 _ rfl;have q2:wr.cell? ⟨b,off+k*3+2,none⟩=some (.slice B1 m1 d1):=hc 2 _ rfl;obtain⟨W1,hW1,hb1,k1⟩:=enew wr (.cells #[.bool s1,.slice A1 n1 c1,.slice B1 m1 d1] 70);have p0:W1.cell? ⟨wr.heap.size,0,none⟩=some (.bool s1):=cell_of_row W1 wr.heap.size 0 _ _ _ k1;have p1:W1.cell? ⟨wr.heap.size,1,none⟩=some (.slice A1 n1 c1):=cell_of_row W1 wr.heap.size 1 _ _ _ k1;have p2:W1.cell? ⟨wr.heap.size,2,none⟩=some (.slice B1 m1 d1):=cell_of_row W1 wr.heap.size 2 _ _ _ k1;have hle1:Le w W1:=hb.out.trans (hb1.mono hb.out.size);have hcall:=hf'.out W1 hle1 x hmem [.bool s1,.slice A1 n1 c1,.slice B1 m1 d1] (⟨s1,A1,n1,c1,B1,m1,d1,rfl,(hxa.kp (Kp.of_le hb1))⟩);have hrow1:=hrow.out.le hb1;have j1:(k:Int)<(n:Int):=by omega
   have j2:(0:Int)≤(k:Int):=by omega
   have⟨hb1',k1',hle1',hcall',hrow1',hmem',htk',hsp'⟩:=hyd8 hb1 k1 hle1 hcall hrow1 hmem htk hsp;have hxa':=hyd1 hxa;clear hxa hsp htk hmem hrow1 hcall hle1 k1 hb1;clear hb hrow;go_wp2_with (fail);refine hcall'.out.mono ?_;rintro e W2 ⟨hle2,⟨y,cs',hfy,rfl,hyr⟩| ⟨z,hfz,rfl⟩⟩
   ·obtain⟨s2,A2,n2,c2,t2,B2,m2,d2,rfl,hya⟩:=hyr;obtain⟨W3,hW3,hb3,k3⟩:=enew W2 (.cells #[.bool s2,.slice A2 n2 c2,.bool t2,.slice B2 m2 d2] 26);have hle3:Le w W3:=hle1'.out.trans (hle2.trans hb3);have hrow3:=hrow1'.out.le (hle2.trans hb3);have hyr3:((frK L)).rd W3 [.bool s2,.slice A2 n2 c2,.bool t2,.slice B2 m2 d2] y:=⟨s2,A2,n2,c2,t2,B2,m2,d2,rfl,(hya.kp (Kp.of_le hb3))⟩
    have hnew:∀(i:Nat) (u:Value),([.bool s2,.slice A2 n2 c2,.bool t2,.slice B2 m2 d2]:List Value)[i]? =some u→W3.cell? ⟨W2.heap.size,i,none⟩=some u:=fun i u hu=>by
     have hi4:i<4:=(List.getElem?_eq_some_iff.1 hu).1
     match i,hi4 with
     | 0,_=>have z:=cell_of_row W3 W2.heap.size 0 _ _ _ k3;rw[z];simpa using hu
     | 1,_=>have z:=cell_of_row W3 W2.heap.size 1 _ _ _ k3;rw[z];simpa using hu
     | 2,_=>have z:=cell_of_row W3 W2.heap.size 2 _ _ _ k3;rw[z];simpa using hu
     | 3,_=>have z:=cell_of_row W3 W2.heap.size 3 _ _ _ k3;rw[z];simpa using hu
    obtain⟨SA,sc,rfl⟩:=hrow3.slice;have hz3:=hle3.size;have⟨hle2',hfy',hya',hb3',k3',hle3',hrow3',hyr3'⟩:=hyd8 hle2 hfy hya hb3 k3 hle3 hrow3 hyr3;have hnew':=hyd1 hnew;clear hnew hyr3 hrow3 hle3 k3 hb3 hya hfy hle2;go_wp2_with (first | (at_builtin;go_must (refine RowE.append hrow3'.out rfl _ _ 45 rfl 64 (.agg #[.bool false,.slice none 0 0,.bool false,.slice none 0 0]) (by decide) Tryz.underlying45 hinfo'.out rfl qOW rfl W2.heap.size rfl hyr3'.out hnew'.out (by rw[hyl.out];omega) hz3 ?_)));intro v7 W7 q1 q2 q3 q4 q5;have r1:=qDI hm.out hfy'.out;rw[←htk'.out]at r1;have r2:(ys++[y]).length =k+1:=by rw[List.length_append,hyl.out];rfl
    have r3:Below w.heap.size w W7:=(show Below w.heap.size w W3 from hle3'.out).trans q2;have⟨q1',q2',q3',q4',q5',r1',r2',r3'⟩:=hyd8 q1 q2 q3 q4 q5 r1 r2 r3;clear r3 r2 r1 q5 q4 q3 q2 q1;go_wp2;go_roundw
    case rel=>exact⟨k+1,_,by go_num,by omega,r1',r2',r3',q1'⟩
    case measure=>simp[intOf];omega
   ·have r1:=qDc (r:=xs.drop (k+1)) hm.out hfz;rw[←hsp'.out]at r1;have hle9:=hle1'.out.trans hle2;have⟨hle2',hfz',r1',hle9'⟩:=hyd4 hle2 hfz r1 hle9;clear hle9 r1 hfz hle2;go_wp2_with (fail);exact⟨rfl,hle9'.out,.inr ⟨z,r1'.out,rfl⟩⟩
  ·obtain rfl:k=n:=by omega
   have r1:=hm.out;rw[←hn'.out,List.take_length]at r1;have hb9:=hb.out;have hr9:=hrow.out;have j1:¬(k:Int)<(k:Int):=by omega
   have⟨r1',hb9',hr9'⟩:=hyd3 r1 hb9 hr9;clear hr9 hb9 r1;go_wp2;go_ret;exact⟨hb9'.out,.inl ⟨ys,_,r1'.out,rfl,hr9'.out⟩⟩
theorem qM7 (f:Rat→Except Int Int) (g:FuncId) (fst cap:Array Value) (v:Value) (xs:List Rat) (w:World) (hv:SeqE (ratK .u32) w v xs) (hl:xs.length≤1000000) (hg:qAF Tryz.prog g)
  (hf:∀W,Le w W→∀x∈xs,ElOk Tryz.prog (ratK .u32) intK f g fst cap W x):Calls Tryz.prog 140 #[v,.func (.func g) fst cap] w (MapPost intK 156 w (mapE f xs)):=by
 have hinfo:(Tryz.prog.info? 156).map (fun i=>(i.zero,i.size,i.bytes))=some (some (.agg #[.bool false,.slice none 0 0]),2,32):=by kernel_rfl
 obtain⟨VA,vc,rfl,-,-,-⟩:=hv.slice;obtain⟨n,hn⟩:∃n,xs.length=n:=⟨_,rfl⟩;rw[hn]at hl hv ⊢;unfold qAF at hg;have⟨hv',hf',hn',hinfo'⟩:=hyd4 hv hf hn hinfo;clear hinfo hn hf hv;go_enter Tryz.func140,Tryz.ntmps140;go_wp2_with (fail);go_loopw [10,5] (fun i s wr=>∃(k:Nat) (ys:List Int),i= .int .i64 (k:Int)∧k≤n∧Hid (mapE f (xs.take k)= .ok ys)∧Hid (ys.length=k)∧Hid (Below w.heap.size w wr)∧Hid (RowE intK 156 w.heap.size wr s ys)) (fun i _ _=>n - (intOf i).toNat)
 case atStart=>exact⟨0,[],rfl,Nat.zero_le _,Lib.hid rfl,Lib.hid rfl,Lib.hid (Below.refl _ _),Lib.hid (RowE.nil _ _ _ _)⟩
 case round=>
  obtain⟨k,ys,rfl,hk,hm,hyl,hb,hrow⟩:=hrel
  by_cases hlt:k<n
  ·have hkx:k<xs.length:=by rw[hn'.out];exact hlt
   obtain⟨b,off,c,e1,hbl,cs,hrd,hc⟩:=(hv'.out.le hb.out).at hkx;rw[hn'.out]at e1;injection e1 with e1 e2 e3;subst e1 e3;clear e2;have hmem:xs[k]∈xs:=List.getElem_mem hkx;have htk:xs.take (k+1)=xs.take k++[xs[k]]:=by rw[List.take_succ_eq_append_getElem hkx]
   have hsp:xs=xs.take k++xs[k]::xs.drop (k+1):=by rw[←List.drop_eq_getElem_cons hkx,List.take_append_drop]
   generalize xs[k]=x at hrd hmem htk hsp;obtain⟨s1,A1,n1,c1,B1,m1,d1,rfl,hxa⟩:=hrd;have q0:wr.cell? ⟨b,off+k*3,none⟩=some (.bool s1):=hc 0 _ rfl;have q1:wr.cell? ⟨b,off+k*3+1,none⟩=some (.slice A1 n1 c1):=hc 1 _ rfl;have q2:wr.cell? ⟨b,off+k*3+2,none⟩=some (.slice B1 m1 d1):=hc 2 _ rfl;obtain⟨W1,hW1,hb1,k1⟩:=enew wr (.cells #[.bool s1,.slice A1 n1 c1,.slice B1 m1 d1] 70);have p0:W1.cell? ⟨wr.heap.size,0,none⟩=some (.bool s1):=cell_of_row W1 wr.heap.size 0 _ _ _ k1;have p1:W1.cell? ⟨wr.heap.size,1,none⟩=some (.slice A1 n1 c1):=cell_of_row W1 wr.heap.size 1 _ _ _ k1;have p2:W1.cell? ⟨wr.heap.size,2,none⟩=some (.slice B1 m1 d1):=cell_of_row W1 wr.heap.size 2 _ _ _ k1;have hle1:Le w W1:=hb.out.trans (hb1.mono hb.out.size);have hcall:=hf'.out W1 hle1 x hmem [.bool s1,.slice A1 n1 c1,.slice B1 m1 d1] (⟨s1,A1,n1,c1,B1,m1,d1,rfl,(hxa.kp (Kp.of_le hb1))⟩);have hrow1:=hrow.out.le hb1;have j1:(k:Int)<(n:Int):=by omega
   have j2:(0:Int)≤(k:Int):=by omega
   have⟨hb1',k1',hle1',hcall',hrow1',hmem',htk',hsp'⟩:=hyd8 hb1 k1 hle1 hcall hrow1 hmem htk hsp;have hxa':=hyd1 hxa;clear hxa hsp htk hmem hrow1 hcall hle1 k1 hb1;clear hb hrow;go_wp2_with (fail);refine hcall'.out.mono ?_;rintro e W2 ⟨hle2,⟨y,cs',hfy,rfl,hyr⟩| ⟨z,hfz,rfl⟩⟩
   ·obtain⟨A2,n2,c2,rfl,hya⟩:=hyr;obtain⟨W3,hW3,hb3,k3⟩:=enew W2 (.cells #[.bool (decide (y<0)),.slice A2 n2 c2] 156);have hle3:Le w W3:=hle1'.out.trans (hle2.trans hb3);have hrow3:=hrow1'.out.le (hle2.trans hb3);have hyr3:(intK).rd W3 [.bool (decide (y<0)),.slice A2 n2 c2] y:=⟨A2,n2,c2,rfl,(hya.kp (Kp.of_le hb3))⟩
    have hnew:∀(i:Nat) (u:Value),([.bool (decide (y<0)),.slice A2 n2 c2]:List Value)[i]? =some u→W3.cell? ⟨W2.heap.size,i,none⟩=some u:=fun i u hu=>by
     have hi4:i<2:=(List.getElem?_eq_some_iff.1 hu).1
     match i,hi4 with
     | 0,_=>have z:=cell_of_row W3 W2.heap.size 0 _ _ _ k3;rw[z];simpa using hu
     | 1,_=>have z:=cell_of_row W3 W2.heap.size 1 _ _ _ k3;rw[z];simpa using hu
    obtain⟨SA,sc,rfl⟩:=hrow3.slice;have hz3:=hle3.size;have⟨hle2',hfy',hya',hb3',k3',hle3',hrow3',hyr3'⟩:=hyd8 hle2 hfy hya hb3 k3 hle3 hrow3 hyr3;have hnew':=hyd1 hnew;clear hnew hyr3 hrow3 hle3 k3 hb3 hya hfy hle2;go_wp2_with (first | (at_builtin;go_must (refine RowE.append hrow3'.out rfl _ _ 132 rfl 32 (.agg #[.bool false,.slice none 0 0]) (by decide) Tryz.underlying132 hinfo'.out rfl qLX rfl W2.heap.size rfl hyr3'.out hnew'.out (by rw[hyl.out];omega) hz3 ?_)));intro v7 W7 q1 q2 q3 q4 q5;have r1:=qDI hm.out hfy'.out;rw[←htk'.out]at r1;have r2:(ys++[y]).length =k+1:=by rw[List.length_append,hyl.out];rfl
    have r3:Below w.heap.size w W7:=(show Below w.heap.size w W3 from hle3'.out).trans q2;have⟨q1',q2',q3',q4',q5',r1',r2',r3'⟩:=hyd8 q1 q2 q3 q4 q5 r1 r2 r3;clear r3 r2 r1 q5 q4 q3 q2 q1;go_wp2;go_roundw
    case rel=>exact⟨k+1,_,by go_num,by omega,r1',r2',r3',q1'⟩
    case measure=>simp[intOf];omega
   ·have r1:=qDc (r:=xs.drop (k+1)) hm.out hfz;rw[←hsp'.out]at r1;have hle9:=hle1'.out.trans hle2;have⟨hle2',hfz',r1',hle9'⟩:=hyd4 hle2 hfz r1 hle9;clear hle9 r1 hfz hle2;go_wp2_with (fail);exact⟨rfl,hle9'.out,.inr ⟨z,r1'.out,rfl⟩⟩
  ·obtain rfl:k=n:=by omega
   have r1:=hm.out;rw[←hn'.out,List.take_length]at r1;have hb9:=hb.out;have hr9:=hrow.out;have j1:¬(k:Int)<(k:Int):=by omega
   have⟨r1',hb9',hr9'⟩:=hyd3 r1 hb9 hr9;clear hr9 hb9 r1;go_wp2;go_ret;exact⟨hb9'.out,.inl ⟨ys,_,r1'.out,rfl,hr9'.out⟩⟩
theorem qEc (f:Int→Except Int Int) (g:FuncId) (fst cap:Array Value) (v:Value) (xs:List Int) (w:World) (hv:SeqE intK w v xs) (hl:xs.length≤1000000) (hg:qAF Tryz.prog g)
  (hf:∀W,Le w W→∀x∈xs,ElOk Tryz.prog intK intK f g fst cap W x):Calls Tryz.prog 134 #[v,.func (.func g) fst cap] w (MapPost intK 156 w (mapE f xs)):=by
 have hinfo:(Tryz.prog.info? 156).map (fun i=>(i.zero,i.size,i.bytes))=some (some (.agg #[.bool false,.slice none 0 0]),2,32):=by kernel_rfl
 obtain⟨VA,vc,rfl,-,-,-⟩:=hv.slice;obtain⟨n,hn⟩:∃n,xs.length=n:=⟨_,rfl⟩;rw[hn]at hl hv ⊢;unfold qAF at hg;have⟨hv',hf',hn',hinfo'⟩:=hyd4 hv hf hn hinfo;clear hinfo hn hf hv;go_enter Tryz.func134,Tryz.ntmps134;go_wp2_with (fail);go_loopw [10,5] (fun i s wr=>∃(k:Nat) (ys:List Int),i= .int .i64 (k:Int)∧k≤n∧Hid (mapE f (xs.take k)= .ok ys)∧Hid (ys.length=k)∧Hid (Below w.heap.size w wr)∧Hid (RowE intK 156 w.heap.size wr s ys)) (fun i _ _=>n - (intOf i).toNat)
 case atStart=>exact⟨0,[],rfl,Nat.zero_le _,Lib.hid rfl,Lib.hid rfl,Lib.hid (Below.refl _ _),Lib.hid (RowE.nil _ _ _ _)⟩
 case round=>
  obtain⟨k,ys,rfl,hk,hm,hyl,hb,hrow⟩:=hrel
  by_cases hlt:k<n
  ·have hkx:k<xs.length:=by rw[hn'.out];exact hlt
   obtain⟨b,off,c,e1,hbl,cs,hrd,hc⟩:=(hv'.out.le hb.out).at hkx;rw[hn'.out]at e1;injection e1 with e1 e2 e3;subst e1 e3;clear e2;have hmem:xs[k]∈xs:=List.getElem_mem hkx;have htk:xs.take (k+1)=xs.take k++[xs[k]]:=by rw[List.take_succ_eq_append_getElem hkx]
   have hsp:xs=xs.take k++xs[k]::xs.drop (k+1):=by rw[←List.drop_eq_getElem_cons hkx,List.take_append_drop]
   generalize xs[k]=x at hrd hmem htk hsp;obtain⟨A1,n1,c1,rfl,hxa⟩:=hrd;have q0:wr.cell? ⟨b,off+k*2,none⟩=some (.bool (decide (x<0))):=hc 0 _ rfl;have q1:wr.cell? ⟨b,off+k*2+1,none⟩=some (.slice A1 n1 c1):=hc 1 _ rfl;obtain⟨W1,hW1,hb1,k1⟩:=enew wr (.cells #[.bool (decide (x<0)),.slice A1 n1 c1] 156);have p0:W1.cell? ⟨wr.heap.size,0,none⟩=some (.bool (decide (x<0))):=cell_of_row W1 wr.heap.size 0 _ _ _ k1;have p1:W1.cell? ⟨wr.heap.size,1,none⟩=some (.slice A1 n1 c1):=cell_of_row W1 wr.heap.size 1 _ _ _ k1;have hle1:Le w W1:=hb.out.trans (hb1.mono hb.out.size);have hcall:=hf'.out W1 hle1 x hmem [.bool (decide (x<0)),.slice A1 n1 c1] (⟨A1,n1,c1,rfl,(hxa.kp (Kp.of_le hb1))⟩);have hrow1:=hrow.out.le hb1;have j1:(k:Int)<(n:Int):=by omega
   have j2:(0:Int)≤(k:Int):=by omega
   have⟨hb1',k1',hle1',hcall',hrow1',hmem',htk',hsp'⟩:=hyd8 hb1 k1 hle1 hcall hrow1 hmem htk hsp;have hxa':=hyd1 hxa;clear hxa hsp htk hmem hrow1 hcall hle1 k1 hb1;clear hb hrow;go_wp2_with (fail);refine hcall'.out.mono ?_;rintro e W2 ⟨hle2,⟨y,cs',hfy,rfl,hyr⟩| ⟨z,hfz,rfl⟩⟩
   ·obtain⟨A2,n2,c2,rfl,hya⟩:=hyr;obtain⟨W3,hW3,hb3,k3⟩:=enew W2 (.cells #[.bool (decide (y<0)),.slice A2 n2 c2] 156);have hle3:Le w W3:=hle1'.out.trans (hle2.trans hb3);have hrow3:=hrow1'.out.le (hle2.trans hb3);have hyr3:(intK).rd W3 [.bool (decide (y<0)),.slice A2 n2 c2] y:=⟨A2,n2,c2,rfl,(hya.kp (Kp.of_le hb3))⟩
    have hnew:∀(i:Nat) (u:Value),([.bool (decide (y<0)),.slice A2 n2 c2]:List Value)[i]? =some u→W3.cell? ⟨W2.heap.size,i,none⟩=some u:=fun i u hu=>by
     have hi4:i<2:=(List.getElem?_eq_some_iff.1 hu).1
     match i,hi4 with
     | 0,_=>have z:=cell_of_row W3 W2.heap.size 0 _ _ _ k3;rw[z];simpa using hu
     | 1,_=>have z:=cell_of_row W3 W2.heap.size 1 _ _ _ k3;rw[z];simpa using hu
    obtain⟨SA,sc,rfl⟩:=hrow3.slice;have hz3:=hle3.size;have⟨hle2',hfy',hya',hb3',k3',hle3',hrow3',hyr3'⟩:=hyd8 hle2 hfy hya hb3 k3 hle3 hrow3 hyr3;have hnew':=hyd1 hnew;clear hnew hyr3 hrow3 hle3 k3 hb3 hya hfy hle2;go_wp2_with (first | (at_builtin;go_must (refine RowE.append hrow3'.out rfl _ _ 132 rfl 32 (.agg #[.bool false,.slice none 0 0]) (by decide) Tryz.underlying132 hinfo'.out rfl qLX rfl W2.heap.size rfl hyr3'.out hnew'.out (by rw[hyl.out];omega) hz3 ?_)));intro v7 W7 q1 q2 q3 q4 q5;have r1:=qDI hm.out hfy'.out;rw[←htk'.out]at r1;have r2:(ys++[y]).length =k+1:=by rw[List.length_append,hyl.out];rfl
    have r3:Below w.heap.size w W7:=(show Below w.heap.size w W3 from hle3'.out).trans q2;have⟨q1',q2',q3',q4',q5',r1',r2',r3'⟩:=hyd8 q1 q2 q3 q4 q5 r1 r2 r3;clear r3 r2 r1 q5 q4 q3 q2 q1;go_wp2;go_roundw
    case rel=>exact⟨k+1,_,by go_num,by omega,r1',r2',r3',q1'⟩
    case measure=>simp[intOf];omega
   ·have r1:=qDc (r:=xs.drop (k+1)) hm.out hfz;rw[←hsp'.out]at r1;have hle9:=hle1'.out.trans hle2;have⟨hle2',hfz',r1',hle9'⟩:=hyd4 hle2 hfz r1 hle9;clear hle9 r1 hfz hle2;go_wp2_with (fail);exact⟨rfl,hle9'.out,.inr ⟨z,r1'.out,rfl⟩⟩
  ·obtain rfl:k=n:=by omega
   have r1:=hm.out;rw[←hn'.out,List.take_length]at r1;have hb9:=hb.out;have hr9:=hrow.out;have j1:¬(k:Int)<(k:Int):=by omega
   have⟨r1',hb9',hr9'⟩:=hyd3 r1 hb9 hr9;clear hr9 hb9 r1;go_wp2;go_ret;exact⟨hb9'.out,.inl ⟨ys,_,r1'.out,rfl,hr9'.out⟩⟩
theorem qM8 (f:Int→Except Int Rat) (g:FuncId) (fst cap:Array Value) (v:Value) (xs:List Int) (w:World) (hv:SeqE intK w v xs) (hl:xs.length≤1000000) (hg:qAF Tryz.prog g)
  (hf:∀W,Le w W→∀x∈xs,ElOk Tryz.prog intK (ratK .u32) f g fst cap W x):Calls Tryz.prog 137 #[v,.func (.func g) fst cap] w (MapPost (ratK .u32) 70 w (mapE f xs)):=by
 have hinfo:(Tryz.prog.info? 70).map (fun i=>(i.zero,i.size,i.bytes))=some (some (.agg #[.bool false,.slice none 0 0,.slice none 0 0]),3,56):=by kernel_rfl
 obtain⟨VA,vc,rfl,-,-,-⟩:=hv.slice;obtain⟨n,hn⟩:∃n,xs.length=n:=⟨_,rfl⟩;rw[hn]at hl hv ⊢;unfold qAF at hg;have⟨hv',hf',hn',hinfo'⟩:=hyd4 hv hf hn hinfo;clear hinfo hn hf hv;go_enter Tryz.func137,Tryz.ntmps137;go_wp2_with (fail);go_loopw [10,5] (fun i s wr=>∃(k:Nat) (ys:List Rat),i= .int .i64 (k:Int)∧k≤n∧Hid (mapE f (xs.take k)= .ok ys)∧Hid (ys.length=k)∧Hid (Below w.heap.size w wr)∧Hid (RowE (ratK .u32) 70 w.heap.size wr s ys)) (fun i _ _=>n - (intOf i).toNat)
 case atStart=>exact⟨0,[],rfl,Nat.zero_le _,Lib.hid rfl,Lib.hid rfl,Lib.hid (Below.refl _ _),Lib.hid (RowE.nil _ _ _ _)⟩
 case round=>
  obtain⟨k,ys,rfl,hk,hm,hyl,hb,hrow⟩:=hrel
  by_cases hlt:k<n
  ·have hkx:k<xs.length:=by rw[hn'.out];exact hlt
   obtain⟨b,off,c,e1,hbl,cs,hrd,hc⟩:=(hv'.out.le hb.out).at hkx;rw[hn'.out]at e1;injection e1 with e1 e2 e3;subst e1 e3;clear e2;have hmem:xs[k]∈xs:=List.getElem_mem hkx;have htk:xs.take (k+1)=xs.take k++[xs[k]]:=by rw[List.take_succ_eq_append_getElem hkx]
   have hsp:xs=xs.take k++xs[k]::xs.drop (k+1):=by rw[←List.drop_eq_getElem_cons hkx,List.take_append_drop]
   generalize xs[k]=x at hrd hmem htk hsp;obtain⟨A1,n1,c1,rfl,hxa⟩:=hrd;have q0:wr.cell? ⟨b,off+k*2,none⟩=some (.bool (decide (x<0))):=hc 0 _ rfl;have q1:wr.cell? ⟨b,off+k*2+1,none⟩=some (.slice A1 n1 c1):=hc 1 _ rfl;obtain⟨W1,hW1,hb1,k1⟩:=enew wr (.cells #[.bool (decide (x<0)),.slice A1 n1 c1] 156);have p0:W1.cell? ⟨wr.heap.size,0,none⟩=some (.bool (decide (x<0))):=cell_of_row W1 wr.heap.size 0 _ _ _ k1;have p1:W1.cell? ⟨wr.heap.size,1,none⟩=some (.slice A1 n1 c1):=cell_of_row W1 wr.heap.size 1 _ _ _ k1;have hle1:Le w W1:=hb.out.trans (hb1.mono hb.out.size);have hcall:=hf'.out W1 hle1 x hmem [.bool (decide (x<0)),.slice A1 n1 c1] (⟨A1,n1,c1,rfl,(hxa.kp (Kp.of_le hb1))⟩);have hrow1:=hrow.out.le hb1;have j1:(k:Int)<(n:Int):=by omega
   have j2:(0:Int)≤(k:Int):=by omega
   have⟨hb1',k1',hle1',hcall',hrow1',hmem',htk',hsp'⟩:=hyd8 hb1 k1 hle1 hcall hrow1 hmem htk hsp;have hxa':=hyd1 hxa;clear hxa hsp htk hmem hrow1 hcall hle1 k1 hb1;clear hb hrow;go_wp2_with (fail);refine hcall'.out.mono ?_;rintro e W2 ⟨hle2,⟨y,cs',hfy,rfl,hyr⟩| ⟨z,hfz,rfl⟩⟩
   ·obtain⟨s2,A2,n2,c2,B2,m2,d2,rfl,hya⟩:=hyr;obtain⟨W3,hW3,hb3,k3⟩:=enew W2 (.cells #[.bool s2,.slice A2 n2 c2,.slice B2 m2 d2] 70);have hle3:Le w W3:=hle1'.out.trans (hle2.trans hb3);have hrow3:=hrow1'.out.le (hle2.trans hb3);have hyr3:((ratK .u32)).rd W3 [.bool s2,.slice A2 n2 c2,.slice B2 m2 d2] y:=⟨s2,A2,n2,c2,B2,m2,d2,rfl,(hya.kp (Kp.of_le hb3))⟩
    have hnew:∀(i:Nat) (u:Value),([.bool s2,.slice A2 n2 c2,.slice B2 m2 d2]:List Value)[i]? =some u→W3.cell? ⟨W2.heap.size,i,none⟩=some u:=fun i u hu=>by
     have hi4:i<3:=(List.getElem?_eq_some_iff.1 hu).1
     match i,hi4 with
     | 0,_=>have z:=cell_of_row W3 W2.heap.size 0 _ _ _ k3;rw[z];simpa using hu
     | 1,_=>have z:=cell_of_row W3 W2.heap.size 1 _ _ _ k3;rw[z];simpa using hu
     | 2,_=>have z:=cell_of_row W3 W2.heap.size 2 _ _ _ k3;rw[z];simpa using hu
    obtain⟨SA,sc,rfl⟩:=hrow3.slice;have hz3:=hle3.size;have⟨hle2',hfy',hya',hb3',k3',hle3',hrow3',hyr3'⟩:=hyd8 hle2 hfy hya hb3 k3 hle3 hrow3 hyr3;have hnew':=hyd1 hnew;clear hnew hyr3 hrow3 hle3 k3 hb3 hya hfy hle2;go_wp2_with (first | (at_builtin;go_must (refine RowE.append hrow3'.out rfl _ _ 107 rfl 56 (.agg #[.bool false,.slice none 0 0,.slice none 0 0]) (by decide) Tryz.underlying107 hinfo'.out rfl qOV rfl W2.heap.size rfl hyr3'.out hnew'.out (by rw[hyl.out];omega) hz3 ?_)));intro v7 W7 q1 q2 q3 q4 q5;have r1:=qDI hm.out hfy'.out;rw[←htk'.out]at r1;have r2:(ys++[y]).length =k+1:=by rw[List.length_append,hyl.out];rfl
    have r3:Below w.heap.size w W7:=(show Below w.heap.size w W3 from hle3'.out).trans q2;have⟨q1',q2',q3',q4',q5',r1',r2',r3'⟩:=hyd8 q1 q2 q3 q4 q5 r1 r2 r3;clear r3 r2 r1 q5 q4 q3 q2 q1;go_wp2;go_roundw
    case rel=>exact⟨k+1,_,by go_num,by omega,r1',r2',r3',q1'⟩
    case measure=>simp[intOf];omega
   ·have r1:=qDc (r:=xs.drop (k+1)) hm.out hfz;rw[←hsp'.out]at r1;have hle9:=hle1'.out.trans hle2;have⟨hle2',hfz',r1',hle9'⟩:=hyd4 hle2 hfz r1 hle9;clear hle9 r1 hfz hle2;go_wp2_with (fail);exact⟨rfl,hle9'.out,.inr ⟨z,r1'.out,rfl⟩⟩
  ·obtain rfl:k=n:=by omega
   have r1:=hm.out;rw[←hn'.out,List.take_length]at r1;have hb9:=hb.out;have hr9:=hrow.out;have j1:¬(k:Int)<(k:Int):=by omega
   have⟨r1',hb9',hr9'⟩:=hyd3 r1 hb9 hr9;clear hr9 hb9 r1;go_wp2;go_ret;exact⟨hb9'.out,.inl ⟨ys,_,r1'.out,rfl,hr9'.out⟩⟩
end Go.Proofs.YtenjpccpldajoaaGreatDoor

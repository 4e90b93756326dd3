/- Fractions, integers and api.Frac as elements of rows; exact.mapped. (Printed by gen_map.py.) -/
import Derived.Test.YtcoajjdhkhgfdaaPk19
namespace Go.Proofs.Ytcoajjdhkhgfdaa
set_option maxRecDepth 100000
set_option maxHeartbeats 1000000
open Go.RowKit Go.Shelf
set_option linter.unusedVariables false
set_option linter.unusedSimpArgs false
theorem qAO {k:IntKind} (b:Bool):NI k (.bool b):=λ_ h=>by cases h
theorem qAF {k:IntKind} (A:Option Addr) (n c:Nat):NI k (.slice A n c):=λ_ h=>by cases h
def ratK (k:IntKind):EK Rat where
 ik:=k
 sz:=3
 pos:=by decide
 small:=by decide
 rd w cs r:=∃s A n c B m d,cs=[.bool s,.slice A n c,.slice B m d]/\RatL (λ_=>True) k w (.agg #[.bool s,.slice A n c,.slice B m d]) r
 len:=by rintro w cs a ⟨s,A,n,c,B,m,d,rfl,-⟩;rfl
 one:=by rintro w cs a ⟨s,A,n,c,B,m,d,rfl,-⟩ u hu;simp only[List.mem_cons,List.not_mem_nil,or_false]at hu;rcases hu with rfl|rfl|rfl<;>rfl
 ni:=by rintro w cs a ⟨s,A,n,c,B,m,d,rfl,-⟩ u hu;simp only[List.mem_cons,List.not_mem_nil,or_false]at hu;rcases hu with rfl|rfl|rfl<;>first |exact qAO _|exact qAF _ _ _
 kp:=by rintro w W cs a ⟨s,A,n,c,B,m,d,rfl,h⟩ hk;exact⟨s,A,n,c,B,m,d,rfl,h.kp hk⟩
def inK:EK FracA where
 ik:= .u32
 sz:=4
 pos:=by decide
 small:=by decide
 rd w cs x:=∃A c B d,cs=[.bool x.sn,.slice A x.gn.length c,.bool x.sd,.slice B x.gd.length d]/\IsFracA (λ_=>True) w (.agg #[.bool x.sn,.slice A x.gn.length c,.bool x.sd,.slice B x.gd.length d]) x
 len:=by rintro w cs a ⟨A,c,B,d,rfl,-⟩;rfl
 one:=by rintro w cs a ⟨A,c,B,d,rfl,-⟩ u hu;simp only[List.mem_cons,List.not_mem_nil,or_false]at hu;rcases hu with rfl|rfl|rfl|rfl<;>rfl
 ni:=by rintro w cs a ⟨A,c,B,d,rfl,-⟩ u hu;simp only[List.mem_cons,List.not_mem_nil,or_false]at hu;rcases hu with rfl|rfl|rfl|rfl<;>first |exact qAO _|exact qAF _ _ _
 kp:=by rintro w W cs a ⟨A,c,B,d,rfl,h⟩ hk;exact⟨A,c,B,d,rfl,h.kp hk⟩
def IntL (w:World) (v:Value) (z:Int):Prop:=∃A n c,v= .agg #[.bool (decide (z<0)),.slice A n c]/\NumL (λ_=>True) .u32 w (.slice A n c) z.natAbs
theorem IntL.kp {w W:World} {v:Value} {z:Int} (h:IntL w v z) (hk:Kp .u32 w W):IntL W v z:=by
 obtain⟨A,n,c,rfl,h⟩:=h;exact⟨A,n,c,rfl,h.kp hk⟩
theorem IntL.le {w W:World} {v:Value} {z:Int} (h:IntL w v z) (hb:Le w W):IntL W v z:=h.kp (Kp.of_le hb)
def intK:EK Int where
 ik:= .u32
 sz:=2
 pos:=by decide
 small:=by decide
 rd w cs z:=∃A n c,cs=[.bool (decide (z<0)),.slice A n c]/\NumL (λ_=>True) .u32 w (.slice A n c) z.natAbs
 len:=by rintro w cs a ⟨A,n,c,rfl,-⟩;rfl
 one:=by rintro w cs a ⟨A,n,c,rfl,-⟩ u hu;simp only[List.mem_cons,List.not_mem_nil,or_false]at hu;rcases hu with rfl|rfl<;>rfl
 ni:=by rintro w cs a ⟨A,n,c,rfl,-⟩ u hu;simp only[List.mem_cons,List.not_mem_nil,or_false]at hu;rcases hu with rfl|rfl<;>first |exact qAO _|exact qAF _ _ _
 kp:=by rintro w W cs a ⟨A,n,c,rfl,h⟩ hk;exact⟨A,n,c,rfl,h.kp hk⟩
def mapE {α β:Type} (f:α->Except Int β):List α->Except Int (List β)
 | []=> .ok []
 | x::xs=>match f x with
  | .error z=> .error z
  | .ok y=>match mapE f xs with
   | .error z=> .error z
   | .ok ys=> .ok (y::ys)
theorem qCd {α β:Type} {f:α->Except Int β}:∀{l:List α} {ys:List β} {x:α} {y:β},mapE f l= .ok ys->f x= .ok y->mapE f (l++[x])= .ok (ys++[y])
 | [],ys,x,y,h,hf=>by
  have:ys=[]:=by simpa[mapE]using h.symm
  subst this;simp[mapE,hf]
 | a::l,ys,x,y,h,hf=>by
  cases ha:f a with
  | error z=>simp[mapE,ha]at h
  | ok b=>
   cases hl:mapE f l with
   | error z=>simp[mapE,ha,hl]at h
   | ok bs=>
    have:b::bs=ys:=by simpa[mapE,ha,hl]using h
    subst this;simp[mapE,ha,qCd hl hf]
theorem qDA {α β:Type} {f:α->Except Int β}:∀{l r:List α} {ys:List β} {x:α} {z:Int},mapE f l= .ok ys->f x= .error z->mapE f (l++x::r)= .error z
 | [],r,ys,x,z,h,hf=>by simp[mapE,hf]
 | a::l,r,ys,x,z,h,hf=>by
  cases ha:f a with
  | error z=>simp[mapE,ha]at h
  | ok b=>
   cases hl:mapE f l with
   | error z=>simp[mapE,ha,hl]at h
   | ok bs=>simp[mapE,ha,qDA hl hf]
def MapPost {β:Type} (K:EK β) (t:TypeId) (w:World) (res:Except Int (List β)) (e:Ending) (w':World):Prop:=Le w w'/\((∃ys v,res= .ok ys/\e= .returned v/\RowE K t w.heap.size w' v ys)∨(∃z,res= .error z/\e= .panicked (flt z)))
def ElOk {α β:Type} (P:Program) (Ka:EK α) (Kb:EK β) (f:α->Except Int β) (g:FuncId) (fst cap:Array Value) (W:World) (x:α):Prop:=
 ∀cs,Ka.rd W cs x->Calls P g (fst++#[.agg cs.toArray]++cap) W (λe W'=>Le W W'/\((∃y cs',f x= .ok y/\e= .returned (.agg cs'.toArray)/\Kb.rd W' cs' y)∨∃z,f x= .error z/\e= .panicked (flt z)))
theorem RowE.slice {α:Type} {K:EK α} {e:TypeId} {base:Nat} {w:World} {v:Value} {xs:List α} (h:RowE K e base w v xs):∃A c,v= .slice A xs.length c:=by
 obtain⟨A,c,rfl,-⟩:=h.seq;exact⟨A,c,rfl⟩
theorem enew (w:World) (o:Obj):∃V,w.alloc o=V/\Below w.heap.size w V/\V.heap[w.heap.size]? =some o:=⟨_,rfl,alc1 _ _,heap_alloc_new _ _⟩
theorem qJ0 {k:IntKind}:∀j,j<2->NI k (Value.agg #[.bool false,.slice none 0 0]).cells[j]!
 | 0,_=>qAO _
 | 1,_=>qAF _ _ _
theorem qD1 {k:IntKind}:∀j,j<3->NI k (Value.agg #[.bool false,.slice none 0 0,.slice none 0 0]).cells[j]!
 | 0,_=>qAO _
 | 1,_=>qAF _ _ _
 | 2,_=>qAF _ _ _
theorem qKK (f:FracA->Except Int Rat) (g:FuncId) (fst cap:Array Value) (v:Value) (xs:List FracA) (w:World) (hv:SeqE inK w v xs) (hl:xs.length<=1000000) (hg:qA8 Try.prog g)
  (hf:∀W,Le w W->∀x∈xs,ElOk Try.prog inK (ratK .u32) f g fst cap W x):Calls Try.prog 33 #[v,.func (.func g) fst cap] w (MapPost (ratK .u32) 57 w (mapE f xs)):=by
 have p:(Try.prog.info? 57).map (λi=>(i.zero,i.size,i.bytes))=some (some (.agg #[.bool false,.slice none 0 0,.slice none 0 0]),3,56):=by kernel_rfl
 obtain⟨VA,vc,rfl,-,-,-⟩:=hv.slice;obtain⟨n,hn⟩:∃n,xs.length=n:=⟨_,rfl⟩;rw[hn]at hl hv ⊢;unfold qA8 at hg;have⟨aE,a8,V,H⟩:=hyd4 hv hf hn p;clear p hn hf hv;go_enter Try.func33,Try.ntmps33;go_wp2_with (fail);go_loopw [10,5] (λi s wr=>∃(k:Nat) (ys:List Rat),i= .int .i64 (k:Int)/\k<=n/\Hid (mapE f (xs.take k)= .ok ys)/\Hid (ys.length=k)/\Hid (Below w.heap.size w wr)/\Hid (RowE (ratK .u32) 57 w.heap.size wr s ys)) (λi _ _=>n - (intOf i).toNat)
 case atStart=>exact⟨0,[],rfl,Nat.zero_le _,Lib.hid rfl,Lib.hid rfl,Lib.hid (Below.refl _ _),Lib.hid (RowE.nil _ _ _ _)⟩
 case round=>
  obtain⟨k,ys,rfl,hk,hm,aw,hb,B⟩:=hrel
  by_cases aA:k<n
  ·have I:k<xs.length:=by rw[V.out];exact aA
   obtain⟨b,M,c,e1,aZ,cs,ar,hc⟩:=(aE.out.le hb.out).at I;rw[V.out]at e1;injection e1 with e1 e2 e3;subst e1 e3;clear e2;have j:xs[k]∈xs:=List.getElem_mem I;have Z:xs.take (k+1)=xs.take k++[xs[k]]:=by rw[List.take_succ_eq_append_getElem I]
   have Y:xs=xs.take k++xs[k]::xs.drop (k+1):=by rw[<-List.drop_eq_getElem_cons I,List.take_append_drop]
   generalize xs[k]=x at ar j Z Y;obtain⟨A1,c1,B1,d1,rfl,aa⟩:=ar;have q0:wr.cell? ⟨b,M+k*4,none⟩=some (.bool x.sn):=hc 0 _ rfl;have q1:wr.cell? ⟨b,M+k*4+1,none⟩=some (.slice A1 x.gn.length c1):=hc 1 _ rfl;have q2:wr.cell? ⟨b,M+k*4+2,none⟩=some (.bool x.sd):=hc 2 _ rfl;have q3:wr.cell? ⟨b,M+k*4+3,none⟩=some (.slice B1 x.gd.length d1):=hc 3 _ rfl;obtain⟨F,aX,l,k1⟩:=enew wr (.cells #[.bool x.sn,.slice A1 x.gn.length c1,.bool x.sd,.slice B1 x.gd.length d1] 27);have p0:F.cell? ⟨wr.heap.size,0,none⟩=some (.bool x.sn):=cell_of_row F wr.heap.size 0 _ _ _ k1;have p1:F.cell? ⟨wr.heap.size,1,none⟩=some (.slice A1 x.gn.length c1):=cell_of_row F wr.heap.size 1 _ _ _ k1;have p2:F.cell? ⟨wr.heap.size,2,none⟩=some (.bool x.sd):=cell_of_row F wr.heap.size 2 _ _ _ k1;have p3:F.cell? ⟨wr.heap.size,3,none⟩=some (.slice B1 x.gd.length d1):=cell_of_row F wr.heap.size 3 _ _ _ k1;have q:Le w F:=hb.out.trans (l.mono hb.out.size);have o:=a8.out F q x j [.bool x.sn,.slice A1 x.gn.length c1,.bool x.sd,.slice B1 x.gd.length d1] (⟨A1,c1,B1,d1,rfl,(aa.kp (Kp.of_le l))⟩);have C:=B.out.le l;have j1:(k:Int)<(n:Int):=by omega
   have j2:(0:Int)<=(k:Int):=by omega
   have⟨aM,bb,t,G,J,aC,av,au⟩:=hyd8 l k1 q o C j Z Y;have aP:=hyd1 aa;clear aa Y Z j C o q k1 l;clear hb B;go_wp2_with (fail);refine G.out.mono ?_;rintro e W2 ⟨d,⟨y,aW,an,rfl,aF⟩| ⟨z,R,rfl⟩⟩
   ·obtain⟨s2,A2,n2,c2,B2,m2,d2,rfl,ab⟩:=aF;obtain⟨Q,aY,m,k3⟩:=enew W2 (.cells #[.bool s2,.slice A2 n2 c2,.slice B2 m2 d2] 57);have A:Le w Q:=t.out.trans (d.trans m);have h:=J.out.le (d.trans m);have P:((ratK .u32)).rd Q [.bool s2,.slice A2 n2 c2,.slice B2 m2 d2] y:=⟨s2,A2,n2,c2,B2,m2,d2,rfl,(ab.kp (Kp.of_le m))⟩
    have O:∀(i:Nat) (u:Value),([.bool s2,.slice A2 n2 c2,.slice B2 m2 d2]:List Value)[i]? =some u->Q.cell? ⟨W2.heap.size,i,none⟩=some u:=λi u hu=>by
     have a9:i<3:=(List.getElem?_eq_some_iff.1 hu).1
     match i,a9 with
     | 0,_=>have z:=cell_of_row Q W2.heap.size 0 _ _ _ k3;rw[z];simpa using hu
     | 1,_=>have z:=cell_of_row Q W2.heap.size 1 _ _ _ k3;rw[z];simpa using hu
     | 2,_=>have z:=cell_of_row Q W2.heap.size 2 _ _ _ k3;rw[z];simpa using hu
    obtain⟨SA,sc,rfl⟩:=h.slice;have aG:=A.size;have⟨S,ao,aQ,aN,bc,T,L,ac⟩:=hyd8 d an ab m k3 A h P;have X:=hyd1 O;clear O P h A k3 m ab an d;go_wp2_with (first | (at_builtin;go_must (refine RowE.append L.out rfl _ _ 42 rfl 56 (.agg #[.bool false,.slice none 0 0,.slice none 0 0]) (by decide) Try.underlying42 H.out rfl qD1 rfl W2.heap.size rfl ac.out X.out (by rw[aw.out];omega) aG ?_)));intro v7 W7 q1 q2 q3 q4 q5;have D:=qCd hm.out ao.out;rw[<-av.out]at D;have r2:(ys++[y]).length =k+1:=by rw[List.length_append,aw.out];rfl
    have r3:Below w.heap.size w W7:=(show Below w.heap.size w Q from T.out).trans q2;have⟨aI,bd,be,bf,bg,E,aK,aL⟩:=hyd8 q1 q2 q3 q4 q5 D r2 r3;clear r3 r2 D q5 q4 q3 q2 q1;go_wp2;go_roundw
    case rel=>exact⟨k+1,_,by go_num,by omega,E,aK,aL,aI⟩
    case measure=>simp[intOf];omega
   ·have D:=qDA (r:=xs.drop (k+1)) hm.out R;rw[<-au.out]at D;have N:=t.out.trans d;have⟨S,aO,E,U⟩:=hyd4 d R D N;clear N D R d;go_wp2_with (fail);exact⟨rfl,U.out,.inr ⟨z,E.out,rfl⟩⟩
  ·obtain rfl:k=n:=by omega
   have D:=hm.out;rw[<-V.out,List.take_length]at D;have al:=hb.out;have ap:=B.out;have j1:¬(k:Int)<(k:Int):=by omega
   have⟨E,am,aq⟩:=hyd3 D al ap;clear ap al D;go_wp2;go_ret;exact⟨am.out,.inl ⟨ys,_,E.out,rfl,aq.out⟩⟩
theorem qKL (f:Rat->Except Int Int) (g:FuncId) (fst cap:Array Value) (v:Value) (xs:List Rat) (w:World) (hv:SeqE (ratK .u32) w v xs) (hl:xs.length<=1000000) (hg:qA8 Try.prog g)
  (hf:∀W,Le w W->∀x∈xs,ElOk Try.prog (ratK .u32) intK f g fst cap W x):Calls Try.prog 66 #[v,.func (.func g) fst cap] w (MapPost intK 84 w (mapE f xs)):=by
 have p:(Try.prog.info? 84).map (λi=>(i.zero,i.size,i.bytes))=some (some (.agg #[.bool false,.slice none 0 0]),2,32):=by kernel_rfl
 obtain⟨VA,vc,rfl,-,-,-⟩:=hv.slice;obtain⟨n,hn⟩:∃n,xs.length=n:=⟨_,rfl⟩;rw[hn]at hl hv ⊢;unfold qA8 at hg;have⟨aD,a6,T,G⟩:=hyd4 hv hf hn p;clear p hn hf hv;go_enter Try.func66,Try.ntmps66;go_wp2_with (fail);go_loopw [10,5] (λi s wr=>∃(k:Nat) (ys:List Int),i= .int .i64 (k:Int)/\k<=n/\Hid (mapE f (xs.take k)= .ok ys)/\Hid (ys.length=k)/\Hid (Below w.heap.size w wr)/\Hid (RowE intK 84 w.heap.size wr s ys)) (λi _ _=>n - (intOf i).toNat)
 case atStart=>exact⟨0,[],rfl,Nat.zero_le _,Lib.hid rfl,Lib.hid rfl,Lib.hid (Below.refl _ _),Lib.hid (RowE.nil _ _ _ _)⟩
 case round=>
  obtain⟨k,ys,rfl,hk,hm,av,hb,B⟩:=hrel
  by_cases a8:k<n
  ·have H:k<xs.length:=by rw[T.out];exact a8
   obtain⟨b,ab,c,e1,aY,cs,aq,hc⟩:=(aD.out.le hb.out).at H;rw[T.out]at e1;injection e1 with e1 e2 e3;subst e1 e3;clear e2;have j:xs[k]∈xs:=List.getElem_mem H;have X:xs.take (k+1)=xs.take k++[xs[k]]:=by rw[List.take_succ_eq_append_getElem H]
   have V:xs=xs.take k++xs[k]::xs.drop (k+1):=by rw[<-List.drop_eq_getElem_cons H,List.take_append_drop]
   generalize xs[k]=x at aq j X V;obtain⟨s1,A1,n1,c1,B1,m1,d1,rfl,Y⟩:=aq;have q0:wr.cell? ⟨b,ab+k*3,none⟩=some (.bool s1):=hc 0 _ rfl;have q1:wr.cell? ⟨b,ab+k*3+1,none⟩=some (.slice A1 n1 c1):=hc 1 _ rfl;have q2:wr.cell? ⟨b,ab+k*3+2,none⟩=some (.slice B1 m1 d1):=hc 2 _ rfl;obtain⟨L,aW,l,k1⟩:=enew wr (.cells #[.bool s1,.slice A1 n1 c1,.slice B1 m1 d1] 57);have p0:L.cell? ⟨wr.heap.size,0,none⟩=some (.bool s1):=cell_of_row L wr.heap.size 0 _ _ _ k1;have p1:L.cell? ⟨wr.heap.size,1,none⟩=some (.slice A1 n1 c1):=cell_of_row L wr.heap.size 1 _ _ _ k1;have p2:L.cell? ⟨wr.heap.size,2,none⟩=some (.slice B1 m1 d1):=cell_of_row L wr.heap.size 2 _ _ _ k1;have q:Le w L:=hb.out.trans (l.mono hb.out.size);have o:=a6.out L q x j [.bool s1,.slice A1 n1 c1,.slice B1 m1 d1] (⟨s1,A1,n1,c1,B1,m1,d1,rfl,(Y.kp (Kp.of_le l))⟩);have C:=B.out.le l;have j1:(k:Int)<(n:Int):=by omega
   have j2:(0:Int)<=(k:Int):=by omega
   have⟨aK,ba,t,F,I,aA,au,ar⟩:=hyd8 l k1 q o C j X V;have aN:=hyd1 Y;clear Y V X j C o q k1 l;clear hb B;go_wp2_with (fail);refine F.out.mono ?_;rintro e W2 ⟨d,⟨y,aV,am,rfl,aE⟩| ⟨z,P,rfl⟩⟩
   ·obtain⟨A2,n2,c2,rfl,Z⟩:=aE;obtain⟨W3,aX,m,k3⟩:=enew W2 (.cells #[.bool (decide (y<0)),.slice A2 n2 c2] 84);have A:Le w W3:=t.out.trans (d.trans m);have h:=I.out.le (d.trans m);have O:(intK).rd W3 [.bool (decide (y<0)),.slice A2 n2 c2] y:=⟨A2,n2,c2,rfl,(Z.kp (Kp.of_le m))⟩
    have N:∀(i:Nat) (u:Value),([.bool (decide (y<0)),.slice A2 n2 c2]:List Value)[i]? =some u->W3.cell? ⟨W2.heap.size,i,none⟩=some u:=λi u hu=>by
     have a7:i<2:=(List.getElem?_eq_some_iff.1 hu).1
     match i,a7 with
     | 0,_=>have z:=cell_of_row W3 W2.heap.size 0 _ _ _ k3;rw[z];simpa using hu
     | 1,_=>have z:=cell_of_row W3 W2.heap.size 1 _ _ _ k3;rw[z];simpa using hu
    obtain⟨SA,sc,rfl⟩:=h.slice;have aF:=A.size;have⟨Q,an,aO,aL,bb,R,J,aa⟩:=hyd8 d am Z m k3 A h O;have U:=hyd1 N;clear N O h A k3 m Z am d;go_wp2_with (first | (at_builtin;go_must (refine RowE.append J.out rfl _ _ 75 rfl 32 (.agg #[.bool false,.slice none 0 0]) (by decide) Try.underlying75 G.out rfl qJ0 rfl W2.heap.size rfl aa.out U.out (by rw[av.out];omega) aF ?_)));intro v7 W7 q1 q2 q3 q4 q5;have D:=qCd hm.out an.out;rw[<-au.out]at D;have r2:(ys++[y]).length =k+1:=by rw[List.length_append,av.out];rfl
    have r3:Below w.heap.size w W7:=(show Below w.heap.size w W3 from R.out).trans q2;have⟨aH,bc,bd,be,bf,E,aI,aJ⟩:=hyd8 q1 q2 q3 q4 q5 D r2 r3;clear r3 r2 D q5 q4 q3 q2 q1;go_wp2;go_roundw
    case rel=>exact⟨k+1,_,by go_num,by omega,E,aI,aJ,aH⟩
    case measure=>simp[intOf];omega
   ·have D:=qDA (r:=xs.drop (k+1)) hm.out P;rw[<-ar.out]at D;have M:=t.out.trans d;have⟨Q,aM,E,S⟩:=hyd4 d P D M;clear M D P d;go_wp2_with (fail);exact⟨rfl,S.out,.inr ⟨z,E.out,rfl⟩⟩
  ·obtain rfl:k=n:=by omega
   have D:=hm.out;rw[<-T.out,List.take_length]at D;have ak:=hb.out;have ao:=B.out;have j1:¬(k:Int)<(k:Int):=by omega
   have⟨E,al,ap⟩:=hyd3 D ak ao;clear ao ak D;go_wp2;go_ret;exact⟨al.out,.inl ⟨ys,_,E.out,rfl,ap.out⟩⟩
theorem qDo (f:Int->Except Int Int) (g:FuncId) (fst cap:Array Value) (v:Value) (xs:List Int) (w:World) (hv:SeqE intK w v xs) (hl:xs.length<=1000000) (hg:qA8 Try.prog g)
  (hf:∀W,Le w W->∀x∈xs,ElOk Try.prog intK intK f g fst cap W x):Calls Try.prog 41 #[v,.func (.func g) fst cap] w (MapPost intK 84 w (mapE f xs)):=by
 have p:(Try.prog.info? 84).map (λi=>(i.zero,i.size,i.bytes))=some (some (.agg #[.bool false,.slice none 0 0]),2,32):=by kernel_rfl
 obtain⟨VA,vc,rfl,-,-,-⟩:=hv.slice;obtain⟨n,hn⟩:∃n,xs.length=n:=⟨_,rfl⟩;rw[hn]at hl hv ⊢;unfold qA8 at hg;have⟨a8,a1,S,G⟩:=hyd4 hv hf hn p;clear p hn hf hv;go_enter Try.func41,Try.ntmps41;go_wp2_with (fail);go_loopw [10,5] (λi s wr=>∃(k:Nat) (ys:List Int),i= .int .i64 (k:Int)/\k<=n/\Hid (mapE f (xs.take k)= .ok ys)/\Hid (ys.length=k)/\Hid (Below w.heap.size w wr)/\Hid (RowE intK 84 w.heap.size wr s ys)) (λi _ _=>n - (intOf i).toNat)
 case atStart=>exact⟨0,[],rfl,Nat.zero_le _,Lib.hid rfl,Lib.hid rfl,Lib.hid (Below.refl _ _),Lib.hid (RowE.nil _ _ _ _)⟩
 case round=>
  obtain⟨k,ys,rfl,hk,hm,aq,hb,B⟩:=hrel
  by_cases a3:k<n
  ·have H:k<xs.length:=by rw[S.out];exact a3
   obtain⟨b,au,c,e1,aU,cs,an,hc⟩:=(a8.out.le hb.out).at H;rw[S.out]at e1;injection e1 with e1 e2 e3;subst e1 e3;clear e2;have j:xs[k]∈xs:=List.getElem_mem H;have V:xs.take (k+1)=xs.take k++[xs[k]]:=by rw[List.take_succ_eq_append_getElem H]
   have U:xs=xs.take k++xs[k]::xs.drop (k+1):=by rw[<-List.drop_eq_getElem_cons H,List.take_append_drop]
   generalize xs[k]=x at an j V U;obtain⟨A1,n1,c1,rfl,X⟩:=an;have q0:wr.cell? ⟨b,au+k*2,none⟩=some (.bool (decide (x<0))):=hc 0 _ rfl;have q1:wr.cell? ⟨b,au+k*2+1,none⟩=some (.slice A1 n1 c1):=hc 1 _ rfl;obtain⟨W1,aS,l,k1⟩:=enew wr (.cells #[.bool (decide (x<0)),.slice A1 n1 c1] 84);have p0:W1.cell? ⟨wr.heap.size,0,none⟩=some (.bool (decide (x<0))):=cell_of_row W1 wr.heap.size 0 _ _ _ k1;have p1:W1.cell? ⟨wr.heap.size,1,none⟩=some (.slice A1 n1 c1):=cell_of_row W1 wr.heap.size 1 _ _ _ k1;have q:Le w W1:=hb.out.trans (l.mono hb.out.size);have o:=a1.out W1 q x j [.bool (decide (x<0)),.slice A1 n1 c1] (⟨A1,n1,c1,rfl,(X.kp (Kp.of_le l))⟩);have C:=B.out.le l;have j1:(k:Int)<(n:Int):=by omega
   have j2:(0:Int)<=(k:Int):=by omega
   have⟨aF,aW,t,F,I,a5,ap,ao⟩:=hyd8 l k1 q o C j V U;have aJ:=hyd1 X;clear X U V j C o q k1 l;clear hb B;go_wp2_with (fail);refine F.out.mono ?_;rintro e W2 ⟨d,⟨y,aR,aj,rfl,a9⟩| ⟨z,O,rfl⟩⟩
   ·obtain⟨A2,n2,c2,rfl,Y⟩:=a9;obtain⟨W3,aT,m,k3⟩:=enew W2 (.cells #[.bool (decide (y<0)),.slice A2 n2 c2] 84);have A:Le w W3:=t.out.trans (d.trans m);have h:=I.out.le (d.trans m);have N:(intK).rd W3 [.bool (decide (y<0)),.slice A2 n2 c2] y:=⟨A2,n2,c2,rfl,(Y.kp (Kp.of_le m))⟩
    have M:∀(i:Nat) (u:Value),([.bool (decide (y<0)),.slice A2 n2 c2]:List Value)[i]? =some u->W3.cell? ⟨W2.heap.size,i,none⟩=some u:=λi u hu=>by
     have a2:i<2:=(List.getElem?_eq_some_iff.1 hu).1
     match i,a2 with
     | 0,_=>have z:=cell_of_row W3 W2.heap.size 0 _ _ _ k3;rw[z];simpa using hu
     | 1,_=>have z:=cell_of_row W3 W2.heap.size 1 _ _ _ k3;rw[z];simpa using hu
    obtain⟨SA,sc,rfl⟩:=h.slice;have aA:=A.size;have⟨P,ak,aK,aG,aX,Q,J,Z⟩:=hyd8 d aj Y m k3 A h N;have T:=hyd1 M;clear M N h A k3 m Y aj d;go_wp2_with (first | (at_builtin;go_must (refine RowE.append J.out rfl _ _ 75 rfl 32 (.agg #[.bool false,.slice none 0 0]) (by decide) Try.underlying75 G.out rfl qJ0 rfl W2.heap.size rfl Z.out T.out (by rw[aq.out];omega) aA ?_)));intro v7 W7 q1 q2 q3 q4 q5;have D:=qCd hm.out ak.out;rw[<-ap.out]at D;have r2:(ys++[y]).length =k+1:=by rw[List.length_append,aq.out];rfl
    have r3:Below w.heap.size w W7:=(show Below w.heap.size w W3 from Q.out).trans q2;have⟨aC,aY,aZ,ba,bb,E,aD,aE⟩:=hyd8 q1 q2 q3 q4 q5 D r2 r3;clear r3 r2 D q5 q4 q3 q2 q1;go_wp2;go_roundw
    case rel=>exact⟨k+1,_,by go_num,by omega,E,aD,aE,aC⟩
    case measure=>simp[intOf];omega
   ·have D:=qDA (r:=xs.drop (k+1)) hm.out O;rw[<-ao.out]at D;have L:=t.out.trans d;have⟨P,aI,E,R⟩:=hyd4 d O D L;clear L D O d;go_wp2_with (fail);exact⟨rfl,R.out,.inr ⟨z,E.out,rfl⟩⟩
  ·obtain rfl:k=n:=by omega
   have D:=hm.out;rw[<-S.out,List.take_length]at D;have ah:=hb.out;have al:=B.out;have j1:¬(k:Int)<(k:Int):=by omega
   have⟨E,ai,am⟩:=hyd3 D ah al;clear al ah D;go_wp2;go_ret;exact⟨ai.out,.inl ⟨ys,_,E.out,rfl,am.out⟩⟩
theorem qKM (f:Int->Except Int Rat) (g:FuncId) (fst cap:Array Value) (v:Value) (xs:List Int) (w:World) (hv:SeqE intK w v xs) (hl:xs.length<=1000000) (hg:qA8 Try.prog g)
  (hf:∀W,Le w W->∀x∈xs,ElOk Try.prog intK (ratK .u32) f g fst cap W x):Calls Try.prog 71 #[v,.func (.func g) fst cap] w (MapPost (ratK .u32) 57 w (mapE f xs)):=by
 have p:(Try.prog.info? 57).map (λi=>(i.zero,i.size,i.bytes))=some (some (.agg #[.bool false,.slice none 0 0,.slice none 0 0]),3,56):=by kernel_rfl
 obtain⟨VA,vc,rfl,-,-,-⟩:=hv.slice;obtain⟨n,hn⟩:∃n,xs.length=n:=⟨_,rfl⟩;rw[hn]at hl hv ⊢;unfold qA8 at hg;have⟨aC,a6,T,G⟩:=hyd4 hv hf hn p;clear p hn hf hv;go_enter Try.func71,Try.ntmps71;go_wp2_with (fail);go_loopw [10,5] (λi s wr=>∃(k:Nat) (ys:List Rat),i= .int .i64 (k:Int)/\k<=n/\Hid (mapE f (xs.take k)= .ok ys)/\Hid (ys.length=k)/\Hid (Below w.heap.size w wr)/\Hid (RowE (ratK .u32) 57 w.heap.size wr s ys)) (λi _ _=>n - (intOf i).toNat)
 case atStart=>exact⟨0,[],rfl,Nat.zero_le _,Lib.hid rfl,Lib.hid rfl,Lib.hid (Below.refl _ _),Lib.hid (RowE.nil _ _ _ _)⟩
 case round=>
  obtain⟨k,ys,rfl,hk,hm,aq,hb,B⟩:=hrel
  by_cases a8:k<n
  ·have H:k<xs.length:=by rw[T.out];exact a8
   obtain⟨b,av,c,e1,aY,cs,an,hc⟩:=(aC.out.le hb.out).at H;rw[T.out]at e1;injection e1 with e1 e2 e3;subst e1 e3;clear e2;have j:xs[k]∈xs:=List.getElem_mem H;have X:xs.take (k+1)=xs.take k++[xs[k]]:=by rw[List.take_succ_eq_append_getElem H]
   have V:xs=xs.take k++xs[k]::xs.drop (k+1):=by rw[<-List.drop_eq_getElem_cons H,List.take_append_drop]
   generalize xs[k]=x at an j X V;obtain⟨A1,n1,c1,rfl,Y⟩:=an;have q0:wr.cell? ⟨b,av+k*2,none⟩=some (.bool (decide (x<0))):=hc 0 _ rfl;have q1:wr.cell? ⟨b,av+k*2+1,none⟩=some (.slice A1 n1 c1):=hc 1 _ rfl;obtain⟨W1,aW,l,k1⟩:=enew wr (.cells #[.bool (decide (x<0)),.slice A1 n1 c1] 84);have p0:W1.cell? ⟨wr.heap.size,0,none⟩=some (.bool (decide (x<0))):=cell_of_row W1 wr.heap.size 0 _ _ _ k1;have p1:W1.cell? ⟨wr.heap.size,1,none⟩=some (.slice A1 n1 c1):=cell_of_row W1 wr.heap.size 1 _ _ _ k1;have q:Le w W1:=hb.out.trans (l.mono hb.out.size);have o:=a6.out W1 q x j [.bool (decide (x<0)),.slice A1 n1 c1] (⟨A1,n1,c1,rfl,(Y.kp (Kp.of_le l))⟩);have C:=B.out.le l;have j1:(k:Int)<(n:Int):=by omega
   have j2:(0:Int)<=(k:Int):=by omega
   have⟨aJ,ba,t,F,I,aA,ap,ao⟩:=hyd8 l k1 q o C j X V;have aN:=hyd1 Y;clear Y V X j C o q k1 l;clear hb B;go_wp2_with (fail);refine F.out.mono ?_;rintro e W2 ⟨d,⟨y,aV,aj,rfl,aD⟩| ⟨z,P,rfl⟩⟩
   ·obtain⟨s2,A2,n2,c2,B2,m2,d2,rfl,Z⟩:=aD;obtain⟨O,aX,m,k3⟩:=enew W2 (.cells #[.bool s2,.slice A2 n2 c2,.slice B2 m2 d2] 57);have A:Le w O:=t.out.trans (d.trans m);have h:=I.out.le (d.trans m);have N:((ratK .u32)).rd O [.bool s2,.slice A2 n2 c2,.slice B2 m2 d2] y:=⟨s2,A2,n2,c2,B2,m2,d2,rfl,(Z.kp (Kp.of_le m))⟩
    have M:∀(i:Nat) (u:Value),([.bool s2,.slice A2 n2 c2,.slice B2 m2 d2]:List Value)[i]? =some u->O.cell? ⟨W2.heap.size,i,none⟩=some u:=λi u hu=>by
     have a7:i<3:=(List.getElem?_eq_some_iff.1 hu).1
     match i,a7 with
     | 0,_=>have z:=cell_of_row O W2.heap.size 0 _ _ _ k3;rw[z];simpa using hu
     | 1,_=>have z:=cell_of_row O W2.heap.size 1 _ _ _ k3;rw[z];simpa using hu
     | 2,_=>have z:=cell_of_row O W2.heap.size 2 _ _ _ k3;rw[z];simpa using hu
    obtain⟨SA,sc,rfl⟩:=h.slice;have aE:=A.size;have⟨Q,ak,aO,aK,bb,R,J,aa⟩:=hyd8 d aj Z m k3 A h N;have U:=hyd1 M;clear M N h A k3 m Z aj d;go_wp2_with (first | (at_builtin;go_must (refine RowE.append J.out rfl _ _ 42 rfl 56 (.agg #[.bool false,.slice none 0 0,.slice none 0 0]) (by decide) Try.underlying42 G.out rfl qD1 rfl W2.heap.size rfl aa.out U.out (by rw[aq.out];omega) aE ?_)));intro v7 W7 q1 q2 q3 q4 q5;have D:=qCd hm.out ak.out;rw[<-ap.out]at D;have r2:(ys++[y]).length =k+1:=by rw[List.length_append,aq.out];rfl
    have r3:Below w.heap.size w W7:=(show Below w.heap.size w O from R.out).trans q2;have⟨aG,bc,bd,be,bf,E,aH,aI⟩:=hyd8 q1 q2 q3 q4 q5 D r2 r3;clear r3 r2 D q5 q4 q3 q2 q1;go_wp2;go_roundw
    case rel=>exact⟨k+1,_,by go_num,by omega,E,aH,aI,aG⟩
    case measure=>simp[intOf];omega
   ·have D:=qDA (r:=xs.drop (k+1)) hm.out P;rw[<-ao.out]at D;have L:=t.out.trans d;have⟨Q,aM,E,S⟩:=hyd4 d P D L;clear L D P d;go_wp2_with (fail);exact⟨rfl,S.out,.inr ⟨z,E.out,rfl⟩⟩
  ·obtain rfl:k=n:=by omega
   have D:=hm.out;rw[<-T.out,List.take_length]at D;have ah:=hb.out;have al:=B.out;have j1:¬(k:Int)<(k:Int):=by omega
   have⟨E,ai,am⟩:=hyd3 D ah al;clear al ah D;go_wp2;go_ret;exact⟨ai.out,.inl ⟨ys,_,E.out,rfl,am.out⟩⟩
end Go.Proofs.Ytcoajjdhkhgfdaa

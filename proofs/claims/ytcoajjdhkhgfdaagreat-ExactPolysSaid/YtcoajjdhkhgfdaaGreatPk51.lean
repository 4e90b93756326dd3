/- law 1, ExactFracs: what the parts of the walk share. law 1, ExactFracs: regions 11 to 14. law 1, ExactFracs: regions 15 to 18. law 1, ExactFracs: region 19. .. -/
import Derived.Test.YtcoajjdhkhgfdaaGreatPk50
import Derived.Test.YtcoajjdhkhgfdaaGreatPk49
namespace Go.Proofs.YtcoajjdhkhgfdaaGreat
set_option maxRecDepth 100000
open Go.RowKit Go.Shelf
set_option linter.unusedVariables false
set_option linter.unusedSimpArgs false
theorem qEG {V W:World} {k:Nat} {o:Obj} (hle:Le V W) (h:V.heap[k]? =some o):W.heap[k]? =some o:=(hle.block k (gsl h)).trans h
def RB (V W:World) (j:Nat) (res:Except Int Rat):Prop:=V.heap.size<=j/\∃s A n c s' B m d,W.heap[j]? =some (.cells #[.bool s,.slice A n c,.bool s',.slice B m d] 27)/\IsRes (λb=>V.heap.size<=b) W (.agg #[.bool s,.slice A n c,.bool s',.slice B m d]) (qEX res) res
theorem RB.le {V W W':World} {j:Nat} {res:Except Int Rat} (h:RB V W j res) (hb:Le W W'):RB V W' j res:=by
 obtain⟨b,s,A,n,c,i,B,m,d,f,g⟩:=h;exact⟨b,s,A,n,c,i,B,m,d,qEG hb f,g.le hb⟩
theorem RB.make {V W1:World} {s s':Bool} {A B:Option Addr} {n c m d:Nat} {cc:Int} {res:Except Int Rat} (hle:Le V W1) (h:IsRes (λb=>V.heap.size<=b) W1 (.agg #[.bool s,.slice A n c,.bool s',.slice B m d]) cc res):
  ∃W2,W1.alloc (.cells #[.bool s,.slice A n c,.bool s',.slice B m d] 27)=W2/\Le V W2/\Le W1 W2/\RB V W2 W1.heap.size res:=by
 have f:=h.code;subst f;exact⟨_,rfl,hle.trans (qAA _ _),qAA _ _,hle.size,_,_,_,_,_,_,_,_,by unfold World.alloc;exact Array.getElem?_push_size,h.le (qAA _ _)⟩
noncomputable def resF:Except Int Rat->FracA
 | .ok r=>⟨rneg r,dg (rnum r),false,dg r.den⟩
 | .error _=>⟨false,[],false,[]⟩
theorem FracL.fracA {L:Nat->Prop} {w:World} {v:Value} {r:Rat} (h:FracL L w v r):IsFracA L w v ⟨rneg r,dg (rnum r),false,dg r.den⟩:=by
 obtain⟨A,c,B,d,rfl,b,f⟩:=h;exact⟨A,c,B,d,rfl,b.1,f.1⟩
theorem IsRes.fracA {L:Nat->Prop} {w:World} {v:Value} {c:Int} {res:Except Int Rat} (h:IsRes L w v c res):IsFracA L w v (resF res):=by
 cases res with
 | ok r=>exact h.1.fracA
 | error x=>
  obtain⟨rfl,-⟩:=h;exact⟨none,0,none,0,rfl,⟨none,0,rfl,Nat.le_refl _,by decide,by decide,λh=>absurd h (Nat.lt_irrefl 0)⟩,⟨none,0,rfl,Nat.le_refl _,by decide,by decide,λh=>absurd h (Nat.lt_irrefl 0)⟩⟩
def ROk (res:Except Int Rat):Prop:=∀r,res= .ok r->Rsz r 40
theorem qLG (r:Rat):ROk (outR r):=λq h=>by
 by_cases hs:Rsz r 40
 ·rw[qEB hs]at h;injection h with h;subst h;exact hs
 ·rw[qEC hs]at h
  cases h
def qLT:Code->Code
 | .seq a _=>a
 | c=>c
def qLU:Code->Code
 | .seq _ b=>b
 | c=>c
theorem qK8 {x:FracA} {r:Rat} (h:inE x= .ok r) (hg:qAi x 2=false):Rsz r 2:=by
 have b:=qKJ h;unfold inE at h
 cases hr:x.rat? with
 | none=>rw[hr]at h;cases h
 | some r'=>
  rw[hr]at h;injection h with h;subst h;have c:=FracA.val hr;unfold Rsz at b ⊢;rw[c.num,c.den]at b ⊢;unfold qAi bigB at hg;simp at hg;omega
theorem qEb {l:List FracA} (h:qAz l 8 2=false):(l.length<=8∨l.length=66)/\∀x∈l,qAi x 2=false:=by
 unfold qAz at h;rw[Bool.or_eq_false_iff]at h;refine⟨?_,λx c=>by have:=List.any_eq_false.1 h.2 x c;simpa using this⟩;have b:=h.1;simp at b;omega
theorem qDT {l:List FracA} {xs:List Rat} (hg:qAz l 8 2=false) (h:qAC l= .ok xs):xs.length<=8/\∀r∈xs,Rsz r 2:=by
 obtain⟨g,b⟩:=qEb hg;have i:=(qAL h).1;unfold qAC at h
 split at h
 ·cases h
 ·cases hm:mapE inE l with
  | error z=>rw[hm]at h;cases h
  | ok rs=>
   rw[hm]at h;dsimp only at h
   split at h
   ·injection h with h;subst h;have j:=qCV hm;refine⟨by omega,λr d=>?_⟩;obtain⟨x,f,c⟩:=qEY hm r d;exact qK8 c (b x f)
   ·cases h
theorem qLV:∀p,p<9->∀q,q<9->(max p q - min p q+2)*3^min p q<=13122:=by decide
theorem qHR {xs:List Rat} (h8:xs.length<=8) (hs:∀r∈xs,Rsz r 2):∀z∈qAe xs,Isz z 19:=by
 unfold qAe;refine qII λz b=>?_;rw[List.mem_map]at b;obtain⟨r,c,rfl⟩:=b;have d:=qGm hs (by decide) xs.length;exact(qHH (hs r c) (N:=17) (by unfold denI;omega)).up (by decide)
theorem qJa {p q:List FracA} (hp:qAz p 8 2=false) (hq:qAz q 8 2=false):qFY p q/\qFv p q:=by
 refine⟨λx y c d=>?_,λx y c d=>?_⟩
 ·obtain⟨h,f⟩:=qDT hp c;obtain⟨i,g⟩:=qDT hq d;refine⟨19,qHR h f,qHR i g,?_⟩;have j:=qDR x;have k:=qDR y;have b:=qLV (qAe x).length (by omega) (qAe y).length (by omega);unfold Room;rw[<-Nat.mul_assoc];exact Nat.le_trans (Nat.mul_le_mul_right _ b) (by decide)
 ·obtain⟨h,f⟩:=qDT hp c;obtain⟨i,g⟩:=qDT hq d;refine⟨17,(GL.of x f).up (by omega),(GL.of y g).up (by omega),?_⟩;have b:=qLV x.length (by omega) y.length (by omega);unfold qB6;rw[<-Nat.mul_assoc];exact Nat.le_trans (Nat.mul_le_mul_right _ b) (by decide)
theorem qBy (l:List FracA):qFG l l=true:=by
 unfold qFG;rw[decide_eq_true rfl,Bool.true_and,List.all_eq_true];intro p b;obtain⟨i,c,rfl⟩:=List.getElem_of_mem b;simp only[List.getElem_zip];exact qGQ _
noncomputable def resL (res:Except Int (List Rat)):List FracA:=match res with
 | .ok ys=>ys.map qJN
 | .error _=>[]
def PR (V W:World) (v:Value) (res:Except Int (List Rat)):Prop:=match res with
 | .ok ys=>RowE (frK (λb=>V.heap.size<=b)) 27 V.heap.size W v ys
 | .error _=>v= .slice none 0 0
theorem PR.le {V W W':World} {v:Value} {res:Except Int (List Rat)} (h:PR V W v res) (hb:Le W W'):PR V W' v res:=by
 cases res with
 | ok ys=>exact RowE.le h hb
 | error z=>exact h
theorem PR.seq {V W:World} {v:Value} {res:Except Int (List Rat)} (h:PR V W v res):SeqE inK W v (resL res):=by
 cases res with
 | ok ys=>exact(RowE.seq h).answers
 | error z=>cases (show v= .slice none 0 0 from h);exact SeqE.nil _ _
theorem PR.of {V W W':World} {v:Value} {c:Int} {res:Except Int (List Rat)} (h:qEE (λb=>V.heap.size<=b) W.heap.size W' v c res) (hle:Le V W):PR V W' v res/\c=qBK res:=by
 cases res with
 | ok ys=>exact⟨h.1.base hle.size,h.2⟩
 | error z=>exact⟨h.1,h.2⟩
def fstR (res:Except Int (List Rat×List Rat)):Except Int (List Rat):=match res with
 | .ok ab=> .ok ab.1
 | .error z=> .error z
def sndR (res:Except Int (List Rat×List Rat)):Except Int (List Rat):=match res with
 | .ok ab=> .ok ab.2
 | .error z=> .error z
def qFZ (res:Except Int (List Rat×List Rat)):Int:=match res with
 | .ok _=>0
 | .error z=>z
theorem PR.ofD {V W W':World} {A1:Option Addr} {n1 c1:Nat} {A2:Option Addr} {n2 c2:Nat} {c:Int} {res:Except Int (List Rat×List Rat)} (h:qHz (λb=>V.heap.size<=b) W.heap.size W' A1 n1 c1 A2 n2 c2 c res) (hle:Le V W):
  PR V W' (.slice A1 n1 c1) (fstR res)/\PR V W' (.slice A2 n2 c2) (sndR res)/\c=qFZ res:=by
 cases res with
 | ok ab=>exact⟨h.1.base hle.size,h.2.1.base hle.size,h.2.2⟩
 | error z=>
  obtain⟨rfl,rfl,rfl,rfl,rfl,rfl,d⟩:=h;exact⟨rfl,rfl,d⟩
def POk (res:Except Int (List Rat)):Prop:=∀ys,res= .ok ys->ys.length<=65/\∀r∈ys,Rsz r 40
theorem qDt (l:List Rat):POk (qAR l):=λys h=>by
 unfold qAR at h
 split at h
 ·cases h
 ·refine⟨by rw[qCV h];omega,λr hr=>?_⟩;obtain⟨x,hx,hf⟩:=qEY h r hr;exact qLG x r hf
theorem qEH (f:List Rat->List Rat->List Rat) (p q:List FracA):POk (opQ f p q):=λys h=>by
 unfold opQ at h
 split at h
 ·cases h
 ·split at h
  ·cases h
  ·exact qDt _ ys h
theorem qIV (p q:List FracA):POk (sndR (divP p q)):=λys h=>by
 unfold divP at h
 split at h
 ·cases h
 ·split at h
  ·cases h
  ·split at h
   ·cases h
   ·split at h
    ·cases h
    ·split at h
     ·cases h
     ·rename_i b hb;injection h with h;subst h;exact qDt _ _ hb
theorem EraC.keepC {W W':World} (h:EraC W W') {b o:Nat} {u:Value} (hu:W.cell? ⟨b,o,none⟩=some u) (hn:∀g:Int,u≠ .int .u32 g):W'.cell? ⟨b,o,none⟩=some u:=by
 obtain⟨f,c,-,d⟩:=h b o u hu;rw[c,d hn]
def EraL (W:World) (B0:Nat) (A:Option Addr) (n:Nat):Prop:=n<=65/\(0<n->∃b,A=some ⟨b,0,none⟩/\∀j,j<n->∃s A1 n1 c1 s' B m d,
 W.cell? ⟨b,j*4,none⟩=some (.bool s)/\W.cell? ⟨b,j*4+1,none⟩=some (.slice A1 n1 c1)/\W.cell? ⟨b,j*4+2,none⟩=some (.bool s')/\W.cell? ⟨b,j*4+3,none⟩=some (.slice B m d)/\EraF W B0 (.agg #[.bool s,.slice A1 n1 c1,.bool s',.slice B m d]))
theorem EraL.to {W W':World} {B0:Nat} {A:Option Addr} {n:Nat} (h:EraL W B0 A n) (k:EraB W W') (kc:EraC W W'):EraL W' B0 A n:=⟨h.1,λh0=>by
 obtain⟨b,e,hj⟩:=h.2 h0;refine⟨b,e,λj hl=>?_⟩;obtain⟨s,A1,n1,c1,s',B,m,d,h1,h2,h3,h4,h5⟩:=hj j hl
 exact⟨s,A1,n1,c1,s',B,m,d,kc.keepC h1 (λg=>by simp),kc.keepC h2 (λg=>by simp),kc.keepC h3 (λg=>by simp),kc.keepC h4 (λg=>by simp),h5.to k kc⟩⟩
theorem PR.form {V W:World} {v:Value} {res:Except Int (List Rat)} (h:PR V W v res):∃A c,v= .slice A (resL res).length c:=by
 cases res with
 | ok ys=>
  obtain⟨A,c,e⟩:=RowE.slice h;exact⟨A,c,by rw[e];simp[resL]⟩
 | error z=>exact⟨none,0,h⟩
theorem PR.era {V W:World} {A:Option Addr} {n c:Nat} {res:Except Int (List Rat)} (h:PR V W (.slice A n c) res) (hr:POk res):EraL W V.heap.size A n:=by
 cases res with
 | error z=>
  injection (show Value.slice A n c= .slice none 0 0 from h)with h1 h2 h3;subst h2;exact⟨by decide,λh=>absurd h (Nat.lt_irrefl 0)⟩
 | ok ys=>
  have p:RowE (frK (λb=>V.heap.size<=b)) 27 V.heap.size W (.slice A n c) ys:=h;obtain⟨o,G⟩:=hr ys rfl;obtain⟨H,I,e⟩:=RowE.slice p;injection e with e1 e2 e3;subst e2;refine⟨o,λD=>?_⟩;obtain⟨g,J,k,-⟩:=p.at D;injection k with k e5 e6;refine⟨g,k,λj x=>?_⟩;obtain⟨N,L,f,-,-,-,-,M,q,l⟩:=p.at x;injection f with f e8 e9;rw[k]at f;injection f with f;injection f with f;subst f;obtain⟨s,t,y,v,C,B,m,d,rfl,E⟩:=q;refine⟨s,t,y,v,C,B,m,d,l 0 _ rfl,l 1 _ rfl,l 2 _ rfl,l 3 _ rfl,?_⟩;have i:IsRes (λb=>V.heap.size<=b) W (.agg #[.bool s,.slice t y v,.bool C,.slice B m d]) 0 (.ok ys[j]):=⟨E,rfl⟩;exact i.era (λb F=>F) (λr hr=>by injection hr with hr;subst hr;exact G _ (List.getElem_mem x))
set_option maxHeartbeats 4000000
structure PS (V W:World) (k5:Nat) (vp vq vo vx:Value) (p q:List FracA) (x:FracA):Prop where
 le:Le V W
 sp:SeqE inK W vp p
 sq:SeqE inK W vq q
 so:SeqE inK W vo p
 sx:FBox W k5 vx x
theorem PS.to {V W W':World} {k5:Nat} {vp vq vo vx:Value} {p q:List FracA} {x:FracA} (h:PS V W k5 vp vq vo vx p q x) (hb:Le W W'):PS V W' k5 vp vq vo vx p q x:=
 ⟨h.le.trans hb,h.sp.le hb,h.sq.le hb,h.so.le hb,h.sx.le hb⟩
theorem PS.up {V W:World} {k5:Nat} {vp vq vo vx:Value} {p q:List FracA} {x:FracA} (h:PS V W k5 vp vq vo vx p q x):Up W (λb=>V.heap.size<=b):=λb hb=>Nat.le_trans h.le.size hb
noncomputable def qG3 (k:Nat):Code:=(qAn k ((Tryz.f3).body.getD .skip)).getD 0 .skip
def qK9 (w:World) (e:Ending) (w':World):Prop:=e= .returned (.bool true)/\Below w.heap.size w w'
def qDH (k:Nat) (w:World) (t:Array Value) (W:World):Prop:=∀K:Act->World->Prop,(∀a w1,(qLU (qG3 k)).wp Tryz.prog (bodyPost Tryz.prog Tryz.f3 (qK9 w)) a w1->K a w1)→
 (qLT (qG3 k)).wp Tryz.prog (Exit.then K (bodyPost Tryz.prog Tryz.f3 (qK9 w))) {tmps:=t,defers:=[]} W
theorem qLH (w V W:World) (k5:Nat) (vp vq vo vx:Value) (p q:List FracA) (x:FracA) (rA rM:Except Int (List Rat)) (rD:Except Int (List Rat×List Rat)) (hs:PS V W k5 vp vq vo vx p q x) (eA:opQ qCh p q=rA) (eM:opQ qB4 p q=rM) (eD:divP p q=rD)
  (next:∀(v9 v11 v13 v15 v17 v18 v20 v21:Value) (W:World) (t:Array Value),(∃u:Nat->Value,t=#[vp,vq,(u 2),(u 3),(u 4),.pointer (some ⟨k5,0,none⟩),(u 6),vo,(u 8),v9,.int .i64 (qBK rA),v11,.int .i64 (qBK rA),v13,.int .i64 (qBK rM),v15,.int .i64 (qBK rM),v17,v18,.int .i64 (qFZ rD),v20,v21,.int .i64 (qFZ rD),(u 23),(u 24),(u 25),(u 26),(u 27),(u 28),(u 29),(u 30),(u 31),(u 32),(u 33),(u 34),(u 35),(u 36),(u 37),(u 38),(u 39),(u 40),(u 41),(u 42),(u 43),(u 44),(u 45),(u 46),(u 47),(u 48),(u 49),(u 50),(u 51),(u 52),(u 53),(u 54),(u 55),(u 56),(u 57),(u 58),(u 59),(u 60),(u 61),(u 62),(u 63),(u 64),(u 65),(u 66),(u 67),(u 68),(u 69),(u 70),(u 71),(u 72),(u 73),(u 74),(u 75),(u 76),(u 77),(u 78),(u 79),(u 80),(u 81),(u 82),(u 83),(u 84),(u 85),(u 86),(u 87),(u 88),(u 89),(u 90),(u 91),(u 92),(u 93),(u 94),(u 95),(u 96),(u 97),(u 98),(u 99),(u 100),(u 101),(u 102),(u 103),(u 104),(u 105),(u 106),(u 107),(u 108),(u 109),(u 110),(u 111),(u 112),(u 113),(u 114),(u 115),(u 116),(u 117),(u 118),(u 119),(u 120),(u 121),(u 122),(u 123),(u 124),(u 125),(u 126),(u 127),(u 128),(u 129),(u 130),(u 131),(u 132),(u 133),(u 134),(u 135),(u 136),(u 137),(u 138),(u 139),(u 140),(u 141),(u 142),(u 143),(u 144),(u 145),(u 146),(u 147),(u 148),(u 149),(u 150),(u 151),(u 152),(u 153),(u 154),(u 155),(u 156),(u 157),(u 158),(u 159),(u 160),(u 161),(u 162),(u 163),(u 164),(u 165),(u 166),(u 167),(u 168),(u 169),(u 170),(u 171),(u 172),(u 173),(u 174),(u 175),(u 176),(u 177),(u 178),(u 179),(u 180),(u 181),(u 182),(u 183),(u 184),(u 185),(u 186),(u 187),(u 188),(u 189),(u 190),(u 191),(u 192),(u 193),(u 194),(u 195),(u 196),(u 197),(u 198),(u 199),(u 200),(u 201),(u 202)])->PS V W k5 vp vq vo vx p q x->PR V W v9 rA->PR V W v11 rA->PR V W v13 rM->PR V W v15 rM->PR V W v17 (fstR rD)->PR V W v18 (sndR rD)->PR V W v20 (fstR rD)->PR V W v21 (sndR rD)->qDH 15 w t W)
  (t:Array Value) (ht:∃u:Nat->Value,t=#[vp,vq,(u 2),(u 3),(u 4),.pointer (some ⟨k5,0,none⟩),(u 6),vo,(u 8),(u 9),(u 10),(u 11),(u 12),(u 13),(u 14),(u 15),(u 16),(u 17),(u 18),(u 19),(u 20),(u 21),(u 22),(u 23),(u 24),(u 25),(u 26),(u 27),(u 28),(u 29),(u 30),(u 31),(u 32),(u 33),(u 34),(u 35),(u 36),(u 37),(u 38),(u 39),(u 40),(u 41),(u 42),(u 43),(u 44),(u 45),(u 46),(u 47),(u 48),(u 49),(u 50),(u 51),(u 52),(u 53),(u 54),(u 55),(u 56),(u 57),(u 58),(u 59),(u 60),(u 61),(u 62),(u 63),(u 64),(u 65),(u 66),(u 67),(u 68),(u 69),(u 70),(u 71),(u 72),(u 73),(u 74),(u 75),(u 76),(u 77),(u 78),(u 79),(u 80),(u 81),(u 82),(u 83),(u 84),(u 85),(u 86),(u 87),(u 88),(u 89),(u 90),(u 91),(u 92),(u 93),(u 94),(u 95),(u 96),(u 97),(u 98),(u 99),(u 100),(u 101),(u 102),(u 103),(u 104),(u 105),(u 106),(u 107),(u 108),(u 109),(u 110),(u 111),(u 112),(u 113),(u 114),(u 115),(u 116),(u 117),(u 118),(u 119),(u 120),(u 121),(u 122),(u 123),(u 124),(u 125),(u 126),(u 127),(u 128),(u 129),(u 130),(u 131),(u 132),(u 133),(u 134),(u 135),(u 136),(u 137),(u 138),(u 139),(u 140),(u 141),(u 142),(u 143),(u 144),(u 145),(u 146),(u 147),(u 148),(u 149),(u 150),(u 151),(u 152),(u 153),(u 154),(u 155),(u 156),(u 157),(u 158),(u 159),(u 160),(u 161),(u 162),(u 163),(u 164),(u 165),(u 166),(u 167),(u 168),(u 169),(u 170),(u 171),(u 172),(u 173),(u 174),(u 175),(u 176),(u 177),(u 178),(u 179),(u 180),(u 181),(u 182),(u 183),(u 184),(u 185),(u 186),(u 187),(u 188),(u 189),(u 190),(u 191),(u 192),(u 193),(u 194),(u 195),(u 196),(u 197),(u 198),(u 199),(u 200),(u 201),(u 202)]):qDH 9 w t W:=by
 intro K hK;obtain⟨u,rfl⟩:=ht;have m:=qJU (λb=>V.heap.size<=b) p q vo vq W hs.up hs.so hs.sq;rw[<-qLj,eA]at m
 conv=>arg 2;whnf
 have⟨d,N,D,C,B,g⟩:=hyd6 hs eA eM eD next m;clear m next eD eM eA hs;go_wp2_with (fail);go_at_call 7;refine g.out.mono ?_;rintro e P ⟨c,v9,c9,rfl,s⟩;obtain⟨o,rfl⟩:=PR.of s d.out.le;have hs:=d.out.to c;have m:=qIQ (λb=>V.heap.size<=b) vp vq p q P hs.up hs.sp hs.sq;rw[N.out]at m;clear d g s;have⟨d,g,h,r⟩:=hyd4 hs m o c;clear c o m hs;go_wp2_with (fail)
 conv=>arg 2;whnf
 go_wp2_with (fail);go_at_call 8;refine g.out.mono ?_;rintro e I ⟨c,v11,Q,rfl,s⟩;obtain⟨j,rfl⟩:=PR.of s d.out.le;have hs:=d.out.to c;have o:=h.out.le c;have m:=qJV (λb=>V.heap.size<=b) p q vo vq I hs.up hs.so hs.sq;rw[<-qLl,D.out]at m;clear d g s h;have⟨d,g,h,f,r⟩:=hyd5 hs m o j c;clear c j o m hs;go_wp2_with (fail);go_at_call 9;refine g.out.mono ?_;rintro e J ⟨c,v13,R,rfl,s⟩;obtain⟨k,rfl⟩:=PR.of s d.out.le;have hs:=d.out.to c;have o:=h.out.le c;have j:=f.out.le c;have m:=qIR (λb=>V.heap.size<=b) vp vq p q J hs.up hs.sp hs.sq;rw[D.out]at m;clear d g s h f;have⟨d,g,h,f,i,r⟩:=hyd6 hs m o j k c;clear c k j o m hs;go_wp2_with (fail);go_at_call 10;refine g.out.mono ?_;rintro e L ⟨c,v15,S,rfl,s⟩;obtain⟨n,rfl⟩:=PR.of s d.out.le;have hs:=d.out.to c;have o:=h.out.le c;have j:=f.out.le c;have k:=i.out.le c;have m:=qJW (λb=>V.heap.size<=b) p q vo vq L hs.up hs.so hs.sq;rw[C.out]at m;clear d g s h f i;have⟨d,g,h,f,i,l,r⟩:=hyd7 hs m o j k n c;clear c n k j o m hs;go_wp2_with (fail);go_at_call 11;refine g.out.mono ?_;rintro e M ⟨c,X,n1,c1,Y,n2,c2,T,rfl,s⟩;obtain⟨z,A,rfl⟩:=PR.ofD s d.out.le;have hs:=d.out.to c;have o:=h.out.le c
 have j:=f.out.le c;have k:=i.out.le c;have n:=l.out.le c;have m:=qIU (λb=>V.heap.size<=b) vp vq p q M hs.up hs.sp hs.sq;rw[C.out]at m;clear d g s h f i l;have⟨d,g,h,f,i,l,v,y⟩:=hyd8 hs m o j k n z A;have r:=hyd1 c;clear c A z n k j o m hs;go_wp2_with (fail);go_at_call 12;refine g.out.mono ?_;rintro e O ⟨c,Z,n3,c3,A4,n4,c4,U,rfl,s⟩;obtain⟨E,G,rfl⟩:=PR.ofD s d.out.le;have hs:=d.out.to c;have o:=h.out.le c;have j:=f.out.le c;have k:=i.out.le c;have n:=l.out.le c;have z:=v.out.le c;have A:=y.out.le c;clear d g s h f i l v y;have⟨d,h,f,i,l,v,y,F⟩:=hyd8 hs o j k n z A E;have⟨H,r⟩:=hyd2 G c;clear c G E A z n k j o hs;go_upto_region 15 with(fail);exact B.out _ _ _ _ _ _ _ _ _ _ (qAO _ _ (by kernel_rfl)) d.out h.out f.out i.out l.out v.out y.out F.out H.out _ (by assumption)
end Go.Proofs.YtcoajjdhkhgfdaaGreat

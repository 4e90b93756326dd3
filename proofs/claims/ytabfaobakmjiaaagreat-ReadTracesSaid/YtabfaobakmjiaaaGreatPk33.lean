/- Places and spots, plain: what the document says of them; what an answer reads as. What MotionPlaces' guard says of its point. -/
import Derived.Test.YtabfaobakmjiaaaGreatPk32
namespace Go.Proofs.YtabfaobakmjiaaaGreat
set_option maxRecDepth 100000
open Go.RowKit Go.Shelf
set_option linter.unusedVariables false
set_option linter.unusedSimpArgs false
noncomputable def qAR (g : G2) : FracA × FracA := (qGT g.1, qGT g.2)
def qMU : FracA × FracA := (qJt, qJt)
noncomputable def qBG : Except Int G2 → FracA × FracA
 | .ok g => qAR g
 | .error _ => qMU
theorem TurnF.isAV {w : World} {v : Value} {g : G2} (h : TurnF w v g) : IsTurnA w v (qAR g) := by
 obtain ⟨s1, A1, n1, c1, t1, B1, m1, d1, s2, A2, n2, c2, t2, B2, m2, d2, rfl, h1, h2⟩ := h;obtain ⟨A, c, B, d, e1, p1, p2⟩ := h1.isA;obtain ⟨A', c', B', d', e2, q1, q2⟩ := h2.isA;injection e1 with e1;injection e2 with e2;simp only [Array.mk.injEq, List.cons.injEq, and_true] at e1 e2;obtain ⟨a1, a2, a3, a4⟩ := e1;obtain ⟨b1, b2, b3, b4⟩ := e2;rw [a1, a2, a3, a4, b1, b2, b3, b4];exact ⟨_, _, _, _, _, _, _, _, rfl, ⟨_, _, _, _, rfl, p1, p2⟩, ⟨_, _, _, _, rfl, q1, q2⟩⟩
theorem IsResT.isAV {w : World} {v : Value} {c : Int} {res : Except Int G2} (h : IsResT w v c res) : IsTurnA w v (qBG res) := by
 cases res with
 | ok g => exact h.1.isAV
 | error x =>
  obtain ⟨rfl, -⟩ := h;exact ⟨none, 0, none, 0, none, 0, none, 0, rfl, qH3 _ w, qH3 _ w⟩
theorem qBT {g : G2} (h : TSz g 40) : tval (qAR g) = some g := qH7 (qH5 h.1) (qH5 h.2)
theorem qLZ {g r : G2} (h : outG g = .ok r) : TSz r 40 := by
 unfold outG at h
 split at h
 ·injection h with h; rw [← h]; assumption
 ·cases h
noncomputable def mulG (x y : FracA × FracA) : Except Int G2 := opG (fun a b => outG (gmul a b)) x y
noncomputable def qFU (x y : FracA × FracA) : Except Int G2 := opG (fun a b => outG (gadd a b)) x y
theorem qKo {f : G2 → G2 → G2} {x y : FracA × FracA} {r : G2} (h : opG (fun a b => outG (f a b)) x y = .ok r) : TSz r 40 := by
 unfold opG at h
 split at h
 ·exact qLZ h
 ·cases h
noncomputable def armG (u : FracA × FracA) (s : G2) (a : ArmA) : Except Int G2 :=
 match powG u a.k with
 | .error e => .error e
 | .ok x => match mulG a.c (qAR x) with
  | .error e => .error e
  | .ok y => qFU (qAR s) (qAR y)
noncomputable def qAl (u : FracA × FracA) : G2 → List ArmA → Except Int G2
 | s, [] => .ok s
 | s, a :: l => match armG u s a with
  | .error e => .error e
  | .ok t => qAl u t l
theorem qF6 {u : FracA × FracA} {s : G2} {l : List ArmA} {m : Nat} (h : m < l.length) : qAl u s (l.drop m) = match armG u s (l.getD m default) with
  | .error e => .error e
  | .ok t => qAl u t (l.drop (m + 1)) := by
 rw [List.drop_eq_getElem_cons h, show l.getD m default = l[m] from by simp [List.getD_eq_getElem?_getD, List.getElem?_eq_getElem h]]
 rfl
theorem qGa {u : FracA × FracA} {s : G2} {l : List ArmA} : qAl u s (l.drop l.length) = .ok s := by rw [List.drop_length]; rfl
theorem qLv {u : FracA × FracA} {s t : G2} {a : ArmA} (h : armG u s a = .ok t) : TSz t 40 := by
 unfold armG at h
 split at h
 ·cases h
 ·split at h
  ·cases h
  ·exact qKo h
noncomputable def qBB (x : FracA × FracA) : Except Int (Int × Int) :=
 if (qAT x.1).2 ≠ 0 then .error (qAT x.1).2
 else if (qAT x.2).2 ≠ 0 then .error (qAT x.2).2
 else if (-10000 ≤ (qAT x.1).1 ∧ (qAT x.1).1 ≤ 10000) ∧ (-10000 ≤ (qAT x.2).1 ∧ (qAT x.2).1 ≤ 10000) then .ok ((qAT x.1).1, (qAT x.2).1)
 else .error 22
noncomputable def iG : FracA × FracA := qBG (qAu 1 1)
noncomputable def uA (n idx : Nat) : FracA × FracA := qBG (mulG (qBG (powG iG ((idx / n : Nat) : Int))) (qBG (qAu ((idx % n : Nat) : Int) (n : Int))))
noncomputable def qR : Nat → FracA × FracA
 | 0 => qAR gone
 | k + 1 => qBG (mulG (qR k) iG)
noncomputable def qBX (l : List ArmA) (n idx : Nat) : Except Int (Int × Int) :=
 match qAl (uA n idx) (0, 0) l with
 | .error e => .error e
 | .ok g => qBB (qAR g)
noncomputable def qBA (l : List ArmA) (n : Nat) : Nat → Except Int (List (Int × Int))
 | 0 => .ok []
 | m + 1 => match qBA l n m with
  | .error e => .error e
  | .ok L => match qBX l n m with
   | .error e => .error e
   | .ok x => .ok (L ++ [x])
noncomputable def qA9 (l : List ArmA) (n : Int) : Except Int (List (Int × Int)) :=
 if qB3 l ≠ 0 then .error (qB3 l)
 else if 1 ≤ n ∧ n ≤ 16 then qBA l n.toNat (4 * n.toNat)
 else .error 2
theorem qGb {l : List ArmA} {n m : Nat} {e : Int} (h : qBA l n m = .error e) : ∀ d, qBA l n (m + d) = .error e
 | 0 => h
 | d + 1 => by
  show qBA l n ((m + d) + 1) = _
  unfold qBA;rw [qGb h d]
theorem qDg {l : List ArmA} {n m M : Nat} {e : Int} {L : List (Int × Int)} (h : qBA l n m = .ok L) (h1 : qBX l n m = .error e) (hm : m < M) : qBA l n M = .error e := by
 obtain ⟨d, rfl⟩ : ∃ d, M = m + 1 + d := ⟨M - (m + 1), by omega⟩;refine qGb ?_ d;unfold qBA;rw [h];simp only;rw [h1]
theorem qF7 {l : List ArmA} {n m : Nat} {x : Int × Int} {L : List (Int × Int)} (h : qBA l n m = .ok L) (h1 : qBX l n m = .ok x) : qBA l n (m + 1) = .ok (L ++ [x]) := by
 unfold qBA;rw [h];simp only;rw [h1]
theorem qCd {l : List ArmA} {n : Nat} : ∀ {m : Nat} {L : List (Int × Int)}, qBA l n m = .ok L → L.length = m
 | 0, L, h => by injection h with h; rw [← h]; rfl
 | m + 1, L, h => by
  unfold qBA at h
  split at h
  ·cases h
  ·rename_i L0 h0
   split at h
   ·cases h
   ·injection h with h;rw [← h, List.length_append, qCd h0]
    rfl
def KC (W W' : World) : Prop := W.heap.size ≤ W'.heap.size ∧ ∀ (B : Nat) (o : Obj), W.heap[B]? = some o → o.isCells = true → W'.heap[B]? = some o
theorem KC.at {W W' : World} (h : KC W W') {B : Nat} {cs : Array Value} {t : TypeId} (hB : W.heap[B]? = some (.cells cs t)) : W'.heap[B]? = some (.cells cs t) := h.2 _ _ hB rfl
theorem KC.of_grown {W W' : World} {row : Option Nat} (h : W.grownBy W' row) (hr : ∀ r, row = some r → ∃ o : Obj, W.heap[r]? = some o ∧ o.isCells = false) : KC W W' :=
 ⟨h.size, fun B o hB ho => (h.block B (gsl hB) (fun e => by
  obtain ⟨o', h1, h2⟩ := hr B e.symm;rw [hB] at h1;injection h1 with h1;subst h1;rw [ho] at h2
  cases h2)).trans hB⟩
theorem ArrL.kc {α : Type} {L : Nat → Prop} {f : α → Value} {W W' : World} {v : Value} {xs : List α} (h : ArrL L f W v xs) (hk : KC W W') : ArrL L f W' v xs := by
 obtain ⟨A, c, hv, h1, h2, hN, h3⟩ := h;refine ⟨A, c, hv, h1, h2, hN, fun h0 => ?_⟩;obtain ⟨b, off, ha, hb, hlt, hc⟩ := h3 h0;refine ⟨b, off, ha, hb, Nat.lt_of_lt_of_le hlt hk.1, fun j hj => ?_⟩;have h4 := hc j hj
 have h5 : ∃ o, W.heap[b]? = some o ∧ o.isCells = true := by
  cases ho : W.heap[b]? with
  | none => simp [World.cell?, ho] at h4
  | some o =>
   cases o with
   | cells cs t => exact ⟨_, rfl, rfl⟩
   | _ => simp [World.cell?, ho] at h4
 obtain ⟨o, h6, h7⟩ := h5;exact (World.cell?_of_block ((hk.2 _ _ h6 h7).trans h6.symm)).trans h4
theorem Unf.kc {W W' : World} {v : Value} (h : Unf W v) (hk : KC W W') : Unf W' v := fun b off m c e => by
 obtain ⟨cs, t, h1⟩ := h b off m c e;exact ⟨cs, t, hk.at h1⟩
theorem FracL.kc {L : Nat → Prop} {W W' : World} {v : Value} {r : Rat} (h : FracL L W v r) (hk : KC W W') : FracL L W' v r := by
 obtain ⟨A, c, C, d, e, h1, h2⟩ := h;exact ⟨A, c, C, d, e, ⟨h1.1.kc hk, h1.2.kc hk⟩, ⟨h2.1.kc hk, h2.2.kc hk⟩⟩
theorem TurnF.kc {W W' : World} {v : Value} {g : G2} (h : TurnF W v g) (hk : KC W W') : TurnF W' v g := by
 obtain ⟨s1, A1, n1, c1, t1, B1, m1, d1, s2, A2, n2, c2, t2, B2, m2, d2, rfl, h1, h2⟩ := h;exact .mk (h1.kc hk) (h2.kc hk)
theorem NumL.put64 {L : Nat → Prop} {W : World} {v : Value} {n B : Nat} {z z' : Int} {t : TypeId} (h : NumL L .u32 W v n) (hk : W.heap[B]? = some (.cells #[.int .i64 z] t)) : NumL L .u32 (W.setCell ⟨B, 0, none⟩ (.int .i64 z')) v n := by
 obtain ⟨A, c, hv, h1, h2, hN, h3⟩ := h;refine ⟨A, c, hv, h1, h2, hN, fun h0 => ?_⟩;obtain ⟨b, off, ha, hb, hlt, hc⟩ := h3 h0
 have hne : b ≠ B := by
  rintro rfl;have h4 := hc 0 h0;simp only [World.cell?, hk] at h4
  cases hoff : (off + 0) with
  | zero => rw [hoff] at h4; simp [gv] at h4
  | succ m => rw [hoff] at h4; simp at h4
 exact ⟨b, off, ha, hb, by simpa [World.setCell] using hlt, fun j hj => (World.cell?_of_block (Below.heap_setCell _ _ _ _ hne)).trans (hc j hj)⟩
theorem Unf.put64 {W : World} {v : Value} {B : Nat} {z z' : Int} {t : TypeId} (h : Unf W v) (hk : W.heap[B]? = some (.cells #[.int .i64 z] t)) : Unf (W.setCell ⟨B, 0, none⟩ (.int .i64 z')) v := fun b off m c e => by
 obtain ⟨cs, t1, h1⟩ := h b off m c e
 by_cases hb : b = B
 ·subst hb;exact ⟨_, _, qA8 hk⟩
 ·exact ⟨cs, t1, (Below.heap_setCell _ _ _ _ hb).trans h1⟩
theorem FracL.put64 {L : Nat → Prop} {W : World} {v : Value} {r : Rat} {B : Nat} {z z' : Int} {t : TypeId} (h : FracL L W v r) (hk : W.heap[B]? = some (.cells #[.int .i64 z] t)) : FracL L (W.setCell ⟨B, 0, none⟩ (.int .i64 z')) v r := by
 obtain ⟨A, c, C, d, e, h1, h2⟩ := h;exact ⟨A, c, C, d, e, ⟨h1.1.put64 hk, h1.2.put64 hk⟩, ⟨h2.1.put64 hk, h2.2.put64 hk⟩⟩
theorem TurnF.put64 {W : World} {v : Value} {g : G2} {B : Nat} {z z' : Int} {t : TypeId} (h : TurnF W v g) (hk : W.heap[B]? = some (.cells #[.int .i64 z] t)) : TurnF (W.setCell ⟨B, 0, none⟩ (.int .i64 z')) v g := by
 obtain ⟨s1, A1, n1, c1, t1, B1, m1, d1, s2, A2, n2, c2, t2, B2, m2, d2, rfl, h1, h2⟩ := h;exact .mk (h1.put64 hk) (h2.put64 hk)
def gi : G2 := (0, 1)
theorem qKp (k : Nat) : GF (gpow gi k) 1 1 := by
 have h : GF gi 1 1 := ⟨0, 1, 1, by decide, by decide, by unfold gi; decide +kernel, by unfold gi; decide +kernel, by decide⟩;have := h.pow k;simpa using this
theorem qIi (n : Nat) (h : 0 < n) : 1024 < B9 ^ n := by
 have h1 : B9 ^ 1 ≤ B9 ^ n := Nat.pow_le_pow_right (by rw [qAS]; decide) h;have h2 : B9 ^ 1 = 1000000000 := by rw [Nat.pow_one, qAS]
 omega
theorem GF.sz1 {a : G2} {P D n : Nat} (h : GF a P D) (hP : P ≤ 1024) (hD : D ≤ 1024) (hn : 0 < n) : TSz a n :=
 h.sz (Nat.lt_of_le_of_lt hP (qIi n hn)) (Nat.lt_of_le_of_lt hD (qIi n hn))
theorem qDh (k n : Nat) (hn : 0 < n) : TSz (gpow gi k) n := (qKp k).sz1 (by decide) (by decide) hn
theorem qHD {s n : Nat} (h : 0 < n) : gdiv (ndG (s : Int) (n : Int)) (qAP (ndG (s : Int) (n : Int))) =
  (((((n : Int) * n - (s : Int) * s : Int) : Rat) / ((n * n + s * s : Nat) : Rat)), ((((n : Int) * s + (s : Int) * n : Int) : Rat) / ((n * n + s * s : Nat) : Rat))) := by
 unfold gdiv qAP gmul qAI ndG
 ext
 ·simp only
  push_cast
  congr 1 <;> grind
 ·simp only
  push_cast
  congr 1 <;> grind
theorem qHg {s n : Nat} (hn : 0 < n) (hn2 : n ≤ 16) (hs : s ≤ n) : GF (gdiv (ndG (s : Int) (n : Int)) (qAP (ndG (s : Int) (n : Int)))) 1024 512 := by
 rw [qHD hn];have a1 : n * n ≤ 256 := Nat.le_trans (Nat.mul_le_mul hn2 hn2) (by decide);have a2 : s * s ≤ n * n := Nat.mul_le_mul hs hs;have a3 : n * s ≤ n * n := Nat.mul_le_mul (Nat.le_refl _) hs;have a4 : 0 < n * n := Nat.mul_pos hn hn;have a5 : s * n = n * s := Nat.mul_comm _ _;refine ⟨_, _, n * n + s * s, by omega, by omega, rfl, rfl, ?_⟩
 have e1 : ((n : Int) * n - (s : Int) * s).natAbs ≤ n * n := by
  have : (n : Int) * n = ((n * n : Nat) : Int) := by simp
  have h2 : (s : Int) * s = ((s * s : Nat) : Int) := by simp
  rw [this, h2]; omega
 have e2 : ((n : Int) * s + (s : Int) * n).natAbs ≤ 2 * (n * n) := by
  have : (n : Int) * s = ((n * s : Nat) : Int) := by simp
  have h2 : (s : Int) * n = ((s * n : Nat) : Int) := by simp
  rw [this, h2]; omega
 omega
theorem qEc {s n : Nat} (hn : 0 < n) (hn2 : n ≤ 16) (hs : s ≤ n) : qAu (s : Int) (n : Int) = .ok (gdiv (ndG (s : Int) (n : Int)) (qAP (ndG (s : Int) (n : Int)))) := by
 unfold qAu;rw [if_neg (by omega), qB8 ((qHg hn hn2 hs).sz1 (by decide) (by decide) (by decide))]
theorem qKE : iG = qAR gi := by
 unfold iG;have h := qEc (s := 1) (n := 1) (by decide) (by decide) (by decide);rw [show ((1 : Nat) : Int) = 1 from rfl] at h;rw [h];show qAR _ = _;have := qHD (s := 1) (n := 1) (by decide);rw [show ((1 : Nat) : Int) = 1 from rfl] at this;rw [this]
 congr 1
 unfold gi
 decide +kernel
theorem qMH {k : Nat} (hk : k ≤ 64) : powG iG (k : Int) = .ok (gpow gi k) := by
 have hv : tval iG = some gi := by rw [qKE]; exact qBT (by have := qDh 1 40 (by decide); rwa [show gpow gi 1 = gi from by unfold gpow gpow; exact qCs gi] at this)
 rw [qFn hv (by omega) (by omega), Int.natAbs_natCast, qB8 (qDh k 40 (by decide))]
theorem qKF : ∀ k, qR k = qAR (gpow gi k)
 | 0 => rfl
 | k + 1 => by
  have hv : tval iG = some gi := by rw [qKE]; exact qBT (by have := qDh 1 40 (by decide); rwa [show gpow gi 1 = gi from by unfold gpow gpow; exact qCs gi] at this)
  unfold qR;rw [qKF k];unfold mulG;rw [qCt (qBT (qDh k 40 (by decide))) hv];show qBG (outG (gpow gi (k + 1))) = _;rw [qB8 (qDh (k + 1) 40 (by decide))]
  rfl
theorem qLc {n k s : Nat} (hn : 0 < n) (hn2 : n ≤ 16) (hk : k ≤ 64) (hs : s < n) : ∃ g, TSz g 2 ∧ uA n (k * n + s) = qAR g ∧ qBG (mulG (qBG (qAu (s : Int) (n : Int))) (qR k)) = qAR g := by
 have d1 : (k * n + s) / n = k := by rw [Nat.mul_comm, Nat.mul_add_div hn, Nat.div_eq_of_lt hs, Nat.add_zero]
 have d2 : (k * n + s) % n = s := by rw [Nat.mul_comm, Nat.mul_add_mod, Nat.mod_eq_of_lt hs]
 have hG := qHg hn hn2 (Nat.le_of_lt hs);obtain ⟨a, ha⟩ : ∃ a, gdiv (ndG (s : Int) (n : Int)) (qAP (ndG (s : Int) (n : Int))) = a := ⟨_, rfl⟩;have hok := qEc hn hn2 (Nat.le_of_lt hs);rw [ha] at hG hok;have hm : GF (gmul (gpow gi k) a) (1 * 1024) (1 * 512) := (qKp k).mul hG;have ha40 : tval (qAR a) = some a := qBT (hG.sz1 (by decide) (by decide) (by decide));have hq40 := qBT (qDh k 40 (by decide));refine ⟨gmul (gpow gi k) a, hm.sz1 (by decide) (by decide) (by decide), ?_, ?_⟩
 ·unfold uA;rw [d1, d2, qMH hk, hok];show qBG (mulG (qAR (gpow gi k)) (qAR a)) = _;unfold mulG;rw [qCt hq40 ha40, qB8 (hm.sz1 (by decide) (by decide) (by decide))]
  rfl
 ·rw [hok, qKF];show qBG (mulG (qAR a) (qAR (gpow gi k))) = _;unfold mulG;rw [qCt ha40 hq40, qEF, qB8 (hm.sz1 (by decide) (by decide) (by decide))]
  rfl
end Go.Proofs.YtabfaobakmjiaaaGreat

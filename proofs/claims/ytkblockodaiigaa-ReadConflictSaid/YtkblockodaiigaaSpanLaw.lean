/- Ranges of numbers, plain: lists of ranges in order that do not touch are told apart by what is in them; unions, intersections. -/
import Derived.Test.YtkblockodaiigaaBase
namespace Go.Proofs.Ytkblockodaiigaa
set_option maxRecDepth 100000
set_option linter.unusedVariables false
abbrev Spn := Int × Int
def inL (L : List Spn) (x : Int) : Prop := ∃ s ∈ L, s.1 ≤ x ∧ x ≤ s.2
def Nm (L : List Spn) : Prop := (∀ s ∈ L, s.1 ≤ s.2) ∧ L.Pairwise (fun s t => s.2 + 1 < t.1)
theorem inL_nil (x : Int) : ¬ inL [] x := fun ⟨s, h, _⟩ => by cases h
theorem inL_cons {s : Spn} {L : List Spn} {x : Int} : inL (s :: L) x ↔ (s.1 ≤ x ∧ x ≤ s.2) ∨ inL L x := by
 unfold inL
 constructor
 ·rintro ⟨t, ht, h⟩
  rcases List.mem_cons.1 ht with rfl | ht
  ·exact .inl h
  ·exact .inr ⟨t, ht, h⟩
 ·rintro (h | ⟨t, ht, h⟩)
  ·exact ⟨s, List.mem_cons_self, h⟩
  ·exact ⟨t, List.mem_cons_of_mem _ ht, h⟩
theorem inL_append {A B : List Spn} {x : Int} : inL (A ++ B) x ↔ inL A x ∨ inL B x := by
 unfold inL
 constructor
 ·rintro ⟨t, ht, h⟩
  rcases List.mem_append.1 ht with ht | ht
  ·exact .inl ⟨t, ht, h⟩
  ·exact .inr ⟨t, ht, h⟩
 ·rintro (⟨t, ht, h⟩ | ⟨t, ht, h⟩)
  ·exact ⟨t, List.mem_append_left _ ht, h⟩
  ·exact ⟨t, List.mem_append_right _ ht, h⟩
theorem nm_nil : Nm [] := ⟨fun s h => (by cases h), List.Pairwise.nil⟩
theorem nm_cons {s : Spn} {L : List Spn} : Nm (s :: L) ↔ s.1 ≤ s.2 ∧ (∀ t ∈ L, s.2 + 1 < t.1) ∧ Nm L := by
 unfold Nm
 rw [List.pairwise_cons]
 constructor
 ·rintro ⟨h1, h2, h3⟩
  exact ⟨h1 s List.mem_cons_self, h2, fun t ht => h1 t (List.mem_cons_of_mem _ ht), h3⟩
 ·rintro ⟨h1, h2, h3, h4⟩
  exact ⟨fun t ht => (List.mem_cons.1 ht).elim (fun e => by rw [e]; exact h1) (h3 t), h2, h4⟩
theorem nm_append {A B : List Spn} : Nm (A ++ B) ↔ Nm A ∧ Nm B ∧ ∀ s ∈ A, ∀ t ∈ B, s.2 + 1 < t.1 := by
 unfold Nm
 rw [List.pairwise_append]
 constructor
 ·rintro ⟨h1, h2, h3, h4⟩
  exact ⟨⟨fun s hs => h1 s (List.mem_append_left _ hs), h2⟩, ⟨fun s hs => h1 s (List.mem_append_right _ hs), h3⟩, h4⟩
 ·rintro ⟨⟨h1, h2⟩, ⟨h3, h4⟩, h5⟩
  exact ⟨fun s hs => (List.mem_append.1 hs).elim (h1 s) (h3 s), h2, h4, h5⟩
theorem nm_one {s : Spn} (h : s.1 ≤ s.2) : Nm [s] := nm_cons.2 ⟨h, fun t ht => (by cases ht), nm_nil⟩
theorem nm_ext : ∀ {L M : List Spn}, Nm L → Nm M → (∀ x, inL L x ↔ inL M x) → L = M
 | [], [], _, _, _ => rfl
 | [], t :: M, _, k, e => by
  have k := (nm_cons.1 k).1
  exact absurd ((e t.1).2 ⟨t, List.mem_cons_self, Int.le_refl _, k⟩) (inL_nil _)
 | s :: L, [], h, _, e => by
  have h := (nm_cons.1 h).1
  exact absurd ((e s.1).1 ⟨s, List.mem_cons_self, Int.le_refl _, h⟩) (inL_nil _)
 | s :: L, t :: M, h, k, e => by
  obtain ⟨h1, h2, h3⟩ := nm_cons.1 h
  obtain ⟨k1, k2, k3⟩ := nm_cons.1 k
  have e1 : s.1 = t.1 := by
   have a : t.1 ≤ s.1 := by
    rcases inL_cons.1 ((e s.1).1 ⟨s, List.mem_cons_self, Int.le_refl _, h1⟩) with ⟨q, -⟩ | ⟨u, hu, q, -⟩
    ·exact q
    ·have := k2 u hu; omega
   have b : s.1 ≤ t.1 := by
    rcases inL_cons.1 ((e t.1).2 ⟨t, List.mem_cons_self, Int.le_refl _, k1⟩) with ⟨q, -⟩ | ⟨u, hu, q, -⟩
    ·exact q
    ·have := h2 u hu; omega
   omega
  have e2 : s.2 = t.2 := by
   have a : t.2 ≤ s.2 := by
    refine Int.not_lt.1 fun hlt => ?_
    rcases inL_cons.1 ((e (s.2 + 1)).2 ⟨t, List.mem_cons_self, by omega, by omega⟩) with ⟨-, q⟩ | ⟨u, hu, q, -⟩
    ·omega
    ·have := h2 u hu; omega
   have b : s.2 ≤ t.2 := by
    refine Int.not_lt.1 fun hlt => ?_
    rcases inL_cons.1 ((e (t.2 + 1)).1 ⟨s, List.mem_cons_self, by omega, by omega⟩) with ⟨-, q⟩ | ⟨u, hu, q, -⟩
    ·omega
    ·have := k2 u hu; omega
   omega
  have es : s = t := Prod.ext e1 e2
  subst es
  rw [nm_ext h3 k3 fun x => ?_]
  have hx := e x
  rw [inL_cons, inL_cons] at hx
  constructor
  ·rintro ⟨u, hu, q1, q2⟩
   rcases hx.1 (.inr ⟨u, hu, q1, q2⟩) with ⟨-, q⟩ | q
   ·have := h2 u hu; omega
   ·exact q
  ·rintro ⟨u, hu, q1, q2⟩
   rcases hx.2 (.inr ⟨u, hu, q1, q2⟩) with ⟨-, q⟩ | q
   ·have := k2 u hu; omega
   ·exact q
def uniteStep (out : List Spn) (s : Spn) : List Spn := match out.getLast? with
 | some t => if s.1 ≤ t.2 + 1 then out.dropLast ++ [(t.1, max t.2 s.2)] else out ++ [s]
 | none => [s]
def uniteL (l : List Spn) : List Spn := l.foldl uniteStep []
theorem uniteStep_snoc (pre : List Spn) (t s : Spn) : uniteStep (pre ++ [t]) s = if s.1 ≤ t.2 + 1 then pre ++ [(t.1, max t.2 s.2)] else pre ++ [t] ++ [s] := by
 unfold uniteStep
 rw [List.getLast?_append]
 simp
theorem unite_go : ∀ (l out : List Spn), Nm out → l.Pairwise (fun s t => s.1 ≤ t.1) → (∀ s ∈ l, s.1 ≤ s.2) → (∀ t ∈ out, ∀ s ∈ l, t.1 ≤ s.1) →
  Nm (l.foldl uniteStep out) ∧ ∀ x, inL (l.foldl uniteStep out) x ↔ inL out x ∨ inL l x
 | [], out, h, _, _, _ => ⟨h, fun x => ⟨.inl, fun q => q.elim id fun k => absurd k (inL_nil x)⟩⟩
 | s :: l, out, h, hs, hv, ho => by
  obtain ⟨hs1, hs2⟩ := List.pairwise_cons.1 hs
  have hsv := hv s List.mem_cons_self
  show Nm (l.foldl uniteStep (uniteStep out s)) ∧ ∀ x, inL (l.foldl uniteStep (uniteStep out s)) x ↔ _
  have step : Nm (uniteStep out s) ∧ (∀ x, inL (uniteStep out s) x ↔ inL out x ∨ (s.1 ≤ x ∧ x ≤ s.2)) ∧ ∀ t ∈ uniteStep out s, ∀ u ∈ l, t.1 ≤ u.1 := by
   rcases List.eq_nil_or_concat out with rfl | ⟨pre, t, rfl⟩
   ·refine ⟨nm_one hsv, fun x => ?_, fun t ht u hu => ?_⟩
    ·show inL [s] x ↔ _
     rw [inL_cons]
     exact ⟨fun q => .inr (q.elim id fun k => absurd k (inL_nil x)), fun q => .inl (q.elim (fun k => absurd k (inL_nil x)) id)⟩
    ·have : t = s := by simpa [uniteStep] using ht
     rw [this]; exact hs1 u hu
   ·simp only [List.concat_eq_append] at h ho ⊢
    obtain ⟨a1, a2, a3⟩ := nm_append.1 h
    have a4 := (nm_cons.1 a2).1
    have hts := ho t (by simp) s List.mem_cons_self
    rw [uniteStep_snoc]
    split
    ·rename_i hle
     refine ⟨nm_append.2 ⟨a1, nm_one (by show t.1 ≤ max t.2 s.2; omega), fun p hp q hq => ?_⟩, fun x => ?_, fun p hp u hu => ?_⟩
     ·have : q = (t.1, max t.2 s.2) := by simpa using hq
      rw [this]
      exact a3 p hp t (by simp)
     ·rw [inL_append, inL_append, inL_cons, inL_cons]
      simp only [inL_nil, or_false]
      constructor
      ·rintro (q | q)
       ·exact .inl (.inl q)
       ·by_cases hx : x ≤ t.2
        ·exact .inl (.inr ⟨q.1, hx⟩)
        ·exact .inr (by omega)
      ·rintro ((q | q) | q)
       ·exact .inl q
       ·exact .inr (by omega)
       ·exact .inr (by omega)
     ·rcases List.mem_append.1 hp with hp | hp
      ·exact ho p (by simp [hp]) u (List.mem_cons_of_mem _ hu)
      ·have : p = (t.1, max t.2 s.2) := by simpa using hp
       rw [this]; have := hs1 u hu; show t.1 ≤ u.1; omega
    ·rename_i hle
     refine ⟨nm_append.2 ⟨h, nm_one hsv, fun p hp q hq => ?_⟩, fun x => ?_, fun p hp u hu => ?_⟩
     ·have e : q = s := by simpa using hq
      rw [e]
      rcases List.mem_append.1 hp with hp | hp
      ·have := a3 p hp t (by simp); omega
      ·have : p = t := by simpa using hp
       rw [this]; omega
     ·rw [inL_append (B := [s]), inL_cons]
      simp only [inL_nil, or_false]
     ·rcases List.mem_append.1 hp with hp | hp
      ·exact ho p hp u (List.mem_cons_of_mem _ hu)
      ·have : p = s := by simpa using hp
       rw [this]; exact hs1 u hu
  obtain ⟨b1, b2, b3⟩ := step
  obtain ⟨c1, c2⟩ := unite_go l _ b1 hs2 (fun u hu => hv u (List.mem_cons_of_mem _ hu)) b3
  refine ⟨c1, fun x => ?_⟩
  rw [c2, b2, inL_cons, or_assoc]
theorem unite_nm {l : List Spn} (hs : l.Pairwise (fun s t => s.1 ≤ t.1)) (hv : ∀ s ∈ l, s.1 ≤ s.2) : Nm (uniteL l) ∧ ∀ x, inL (uniteL l) x ↔ inL l x := by
 obtain ⟨h1, h2⟩ := unite_go l [] nm_nil hs hv (fun t ht => by cases ht)
 exact ⟨h1, fun x => by rw [uniteL, h2]; simp [inL_nil]⟩
def meetL : List Spn → List Spn → List Spn
 | [], _ => []
 | _ :: _, [] => []
 | a :: la, b :: lb =>
  let r := if a.2 < b.2 then meetL la (b :: lb) else meetL (a :: la) lb
  if max a.1 b.1 ≤ min a.2 b.2 then (max a.1 b.1, min a.2 b.2) :: r else r
termination_by A B => A.length + B.length
theorem meet_in : ∀ {A B : List Spn} {t : Spn}, t ∈ meetL A B → t.1 ≤ t.2 ∧ (∃ a ∈ A, a.1 ≤ t.1 ∧ t.2 ≤ a.2) ∧ ∃ b ∈ B, b.1 ≤ t.1 ∧ t.2 ≤ b.2
 | [], B, t, h => by unfold meetL at h; cases h
 | a :: la, [], t, h => by unfold meetL at h; cases h
 | a :: la, b :: lb, t, h => by
  have rest : t ∈ (if a.2 < b.2 then meetL la (b :: lb) else meetL (a :: la) lb) → t.1 ≤ t.2 ∧ (∃ x ∈ a :: la, x.1 ≤ t.1 ∧ t.2 ≤ x.2) ∧ ∃ x ∈ b :: lb, x.1 ≤ t.1 ∧ t.2 ≤ x.2 := by
   intro h
   split at h
   ·obtain ⟨h1, ⟨x, hx, h2⟩, h3⟩ := meet_in h
    exact ⟨h1, ⟨x, List.mem_cons_of_mem _ hx, h2⟩, h3⟩
   ·obtain ⟨h1, h2, x, hx, h3⟩ := meet_in h
    exact ⟨h1, h2, x, List.mem_cons_of_mem _ hx, h3⟩
  unfold meetL at h
  simp only at h
  split at h
  ·rename_i hle
   rcases List.mem_cons.1 h with rfl | h
   ·exact ⟨hle, ⟨a, List.mem_cons_self, by show a.1 ≤ max a.1 b.1; omega, by show min a.2 b.2 ≤ a.2; omega⟩, b, List.mem_cons_self, by show b.1 ≤ max a.1 b.1; omega, by show min a.2 b.2 ≤ b.2; omega⟩
   ·exact rest h
  ·exact rest h
termination_by A B => A.length + B.length
theorem meet_nm : ∀ {A B : List Spn}, Nm A → Nm B → Nm (meetL A B) ∧ ∀ x, inL (meetL A B) x ↔ inL A x ∧ inL B x
 | [], B, _, _ => by
  unfold meetL
  exact ⟨nm_nil, fun x => ⟨fun h => absurd h (inL_nil x), fun h => h.1⟩⟩
 | a :: la, [], _, _ => by
  unfold meetL
  exact ⟨nm_nil, fun x => ⟨fun h => absurd h (inL_nil x), fun h => h.2⟩⟩
 | a :: la, b :: lb, ha, hb => by
  obtain ⟨a1, a2, a3⟩ := nm_cons.1 ha
  obtain ⟨b1, b2, b3⟩ := nm_cons.1 hb
  have rest : Nm (if a.2 < b.2 then meetL la (b :: lb) else meetL (a :: la) lb) ∧
    (∀ x, inL (if a.2 < b.2 then meetL la (b :: lb) else meetL (a :: la) lb) x ↔ (inL (a :: la) x ∧ inL (b :: lb) x) ∧ min a.2 b.2 < x) ∧
    ∀ t ∈ (if a.2 < b.2 then meetL la (b :: lb) else meetL (a :: la) lb), min a.2 b.2 + 1 < t.1 := by
   split
   ·rename_i hlt
    obtain ⟨c1, c2⟩ := meet_nm a3 hb
    refine ⟨c1, fun x => ?_, fun t ht => ?_⟩
    ·rw [c2, inL_cons (s := a)]
     constructor
     ·rintro ⟨⟨u, hu, q1, q2⟩, q⟩
      refine ⟨⟨.inr ⟨u, hu, q1, q2⟩, q⟩, ?_⟩
      have := a2 u hu
      omega
     ·rintro ⟨⟨q1 | q1, q2⟩, q3⟩
      ·omega
      ·exact ⟨q1, q2⟩
    ·obtain ⟨h1, ⟨u, hu, q1, q2⟩, -⟩ := meet_in ht
     have := a2 u hu
     omega
   ·rename_i hlt
    obtain ⟨c1, c2⟩ := meet_nm ha b3
    refine ⟨c1, fun x => ?_, fun t ht => ?_⟩
    ·rw [c2, inL_cons (s := b)]
     constructor
     ·rintro ⟨q, ⟨u, hu, q1, q2⟩⟩
      refine ⟨⟨q, .inr ⟨u, hu, q1, q2⟩⟩, ?_⟩
      have := b2 u hu
      omega
     ·rintro ⟨⟨q1, q2 | q2⟩, q3⟩
      ·omega
      ·exact ⟨q1, q2⟩
    ·obtain ⟨h1, -, ⟨u, hu, q1, q2⟩⟩ := meet_in ht
     have := b2 u hu
     omega
  obtain ⟨c1, c2, c3⟩ := rest
  have low : ∀ x, x ≤ min a.2 b.2 → (inL (a :: la) x ∧ inL (b :: lb) x ↔ max a.1 b.1 ≤ x) := fun x hx => by
   rw [inL_cons, inL_cons]
   constructor
   ·rintro ⟨q1 | ⟨u, hu, q1, q2⟩, q3 | ⟨v, hv, q3, q4⟩⟩
    ·omega
    ·have := b2 v hv; omega
    ·have := a2 u hu; omega
    ·have := a2 u hu; omega
   ·intro q
    exact ⟨.inl (by omega), .inl (by omega)⟩
  unfold meetL
  simp only
  split
  ·rename_i hle
   refine ⟨nm_cons.2 ⟨hle, c3, c1⟩, fun x => ?_⟩
   rw [inL_cons, c2]
   by_cases hx : x ≤ min a.2 b.2
   ·have := low x hx
    constructor
    ·rintro (q | q)
     ·exact this.2 q.1
     ·exact q.1
    ·intro q; exact .inl ⟨this.1 q, hx⟩
   ·constructor
    ·rintro (q | q)
     ·exact absurd q.2 hx
     ·exact q.1
    ·intro q; exact .inr ⟨q, by omega⟩
  ·rename_i hle
   refine ⟨c1, fun x => ?_⟩
   rw [c2]
   by_cases hx : x ≤ min a.2 b.2
   ·have := low x hx
    constructor
    ·intro q; exact q.1
    ·intro q; have := this.1 q; omega
   ·exact ⟨fun q => q.1, fun q => ⟨q, by omega⟩⟩
termination_by A B => A.length + B.length
def joinR : List Spn → Spn → List Spn
 | [], x => [x]
 | s :: l, x => if s.2 + 1 < x.1 then s :: joinR l x else if x.2 + 1 < s.1 then x :: s :: l else joinR l (min x.1 s.1, max x.2 s.2)
def joinedL (l : List Spn) (x : Spn) : List Spn := if x.2 < x.1 then l else joinR l x
theorem joinR_nm : ∀ {l : List Spn} {x : Spn}, Nm l → x.1 ≤ x.2 → Nm (joinR l x) ∧ (∀ y, inL (joinR l x) y ↔ inL l y ∨ (x.1 ≤ y ∧ y ≤ x.2)) ∧ ∀ b, b < x.1 → (∀ s ∈ l, b < s.1) → ∀ t ∈ joinR l x, b < t.1
 | [], x, _, hx => by
  refine ⟨nm_one hx, fun y => ?_, fun b hb _ t ht => ?_⟩
  ·unfold joinR
   rw [inL_cons]
   simp only [inL_nil, or_false, false_or]
  ·have : t = x := by simpa [joinR] using ht
   rw [this]; exact hb
 | s :: l, x, h, hx => by
  obtain ⟨h1, h2, h3⟩ := nm_cons.1 h
  unfold joinR
  split
  ·rename_i hlt
   obtain ⟨c1, c2, c3⟩ := joinR_nm h3 hx
   refine ⟨nm_cons.2 ⟨h1, fun t ht => c3 _ hlt h2 t ht, c1⟩, fun y => ?_, fun b hb hs t ht => ?_⟩
   ·rw [inL_cons, inL_cons, c2, or_assoc]
   ·rcases List.mem_cons.1 ht with rfl | ht
    ·exact hs _ List.mem_cons_self
    ·exact c3 b hb (fun u hu => hs u (List.mem_cons_of_mem _ hu)) t ht
  ·split
   ·rename_i hlt
    refine ⟨nm_cons.2 ⟨hx, fun t ht => ?_, h⟩, fun y => ?_, fun b hb hs t ht => ?_⟩
    ·rcases List.mem_cons.1 ht with rfl | ht
     ·exact hlt
     ·have := h2 t ht; omega
    ·rw [inL_cons, or_comm]
    ·rcases List.mem_cons.1 ht with rfl | ht
     ·exact hb
     ·exact hs t ht
   ·rename_i g1 g2
    obtain ⟨c1, c2, c3⟩ := joinR_nm (x := (min x.1 s.1, max x.2 s.2)) h3 (by show min x.1 s.1 ≤ max x.2 s.2; omega)
    refine ⟨c1, fun y => ?_, fun b hb hs t ht => ?_⟩
    ·rw [c2, inL_cons]
     constructor
     ·rintro (q | q)
      ·exact .inl (.inr q)
      ·simp only at q
       by_cases k : s.1 ≤ y ∧ y ≤ s.2
       ·exact .inl (.inl k)
       ·exact .inr (by omega)
     ·rintro ((q | q) | q)
      ·exact .inr (by simp only; omega)
      ·exact .inl q
      ·exact .inr (by simp only; omega)
    ·exact c3 b (by have := hs s List.mem_cons_self; show b < min x.1 s.1; omega) (fun u hu => hs u (List.mem_cons_of_mem _ hu)) t ht
theorem joined_nm {l : List Spn} {x : Spn} (h : Nm l) : Nm (joinedL l x) ∧ ∀ y, inL (joinedL l x) y ↔ inL l y ∨ (x.1 ≤ y ∧ y ≤ x.2) := by
 unfold joinedL
 split
 ·exact ⟨h, fun y => ⟨.inl, fun q => q.elim id fun k => by omega⟩⟩
 ·obtain ⟨h1, h2, -⟩ := joinR_nm (x := x) h (by omega)
  exact ⟨h1, h2⟩
def normL (l : List Spn) : List Spn := l.foldl joinedL []
theorem norm_go : ∀ (l out : List Spn), Nm out → Nm (l.foldl joinedL out) ∧ ∀ x, inL (l.foldl joinedL out) x ↔ inL out x ∨ inL l x
 | [], out, h => ⟨h, fun x => ⟨.inl, fun q => q.elim id fun k => absurd k (inL_nil x)⟩⟩
 | s :: l, out, h => by
  obtain ⟨a1, a2⟩ := joined_nm (x := s) h
  obtain ⟨b1, b2⟩ := norm_go l _ a1
  refine ⟨b1, fun x => ?_⟩
  show inL (l.foldl joinedL (joinedL out s)) x ↔ _
  rw [b2, a2, inL_cons, or_assoc]
theorem norm_nm (l : List Spn) : Nm (normL l) ∧ ∀ x, inL (normL l) x ↔ inL l x := by
 obtain ⟨h1, h2⟩ := norm_go l [] nm_nil
 exact ⟨h1, fun x => by rw [normL, h2]; simp [inL_nil]⟩
def bothL (A B : List Spn) : List Spn := normL (A.flatMap fun a => B.map fun b => (max a.1 b.1, min a.2 b.2))
theorem both_nm (A B : List Spn) : Nm (bothL A B) ∧ ∀ x, inL (bothL A B) x ↔ inL A x ∧ inL B x := by
 obtain ⟨h1, h2⟩ := norm_nm (A.flatMap fun a => B.map fun b => (max a.1 b.1, min a.2 b.2))
 refine ⟨h1, fun x => ?_⟩
 rw [bothL, h2]
 unfold inL
 constructor
 ·rintro ⟨s, hs, q⟩
  obtain ⟨a, ha, hs⟩ := List.mem_flatMap.1 hs
  obtain ⟨b, hb, rfl⟩ := List.mem_map.1 hs
  simp only at q
  exact ⟨⟨a, ha, by omega, by omega⟩, b, hb, by omega, by omega⟩
 ·rintro ⟨⟨a, ha, q1, q2⟩, b, hb, q3, q4⟩
  exact ⟨_, List.mem_flatMap.2 ⟨a, ha, List.mem_map.2 ⟨b, hb, rfl⟩⟩, by simp only; omega, by simp only; omega⟩
theorem meet_both {A B : List Spn} (ha : Nm A) (hb : Nm B) : meetL A B = bothL A B :=
 nm_ext (meet_nm ha hb).1 (both_nm A B).1 fun x => ((meet_nm ha hb).2 x).trans ((both_nm A B).2 x).symm
def okS (s : Spn) : Bool := decide (s.1 ≤ s.2)
theorem inL_filter {l : List Spn} {x : Int} : inL (l.filter okS) x ↔ inL l x := by
 unfold inL
 constructor
 ·rintro ⟨s, hs, h⟩
  exact ⟨s, (List.mem_filter.1 hs).1, h⟩
 ·rintro ⟨s, hs, h⟩
  exact ⟨s, List.mem_filter.2 ⟨hs, by unfold okS; rw [decide_eq_true_eq]; omega⟩, h⟩
theorem unite_norm {l d : List Spn} (hp : ∀ s, s ∈ d ↔ s ∈ l.filter okS) (hs : d.Pairwise (fun s t => s.1 ≤ t.1)) : uniteL d = normL l := by
 obtain ⟨h1, h2⟩ := unite_nm hs (fun s h => by have := (List.mem_filter.1 ((hp s).1 h)).2; unfold okS at this; rwa [decide_eq_true_eq] at this)
 refine nm_ext h1 (norm_nm l).1 fun x => ?_
 rw [h2, (norm_nm l).2, ← inL_filter (l := l)]
 unfold inL
 exact ⟨fun ⟨s, a, b⟩ => ⟨s, (hp s).1 a, b⟩, fun ⟨s, a, b⟩ => ⟨s, (hp s).2 a, b⟩⟩
theorem meetL_nil_right (A : List Spn) : meetL A [] = [] := by
 cases A with
 | nil => unfold meetL; rfl
 | cons a la => unfold meetL; rfl
theorem meetL_nil_left (B : List Spn) : meetL [] B = [] := by unfold meetL; rfl
theorem meetL_drop {A B : List Spn} {i k : Nat} (hi : i < A.length) (hk : k < B.length) : meetL (A.drop i) (B.drop k) =
  (if max A[i].1 B[k].1 ≤ min A[i].2 B[k].2 then [(max A[i].1 B[k].1, min A[i].2 B[k].2)] else []) ++ (if A[i].2 < B[k].2 then meetL (A.drop (i + 1)) (B.drop k) else meetL (A.drop i) (B.drop (k + 1))) := by
 rw [List.drop_eq_getElem_cons hi, List.drop_eq_getElem_cons hk]
 conv => lhs; unfold meetL
 simp only
 split <;> simp
def joinGo : List Spn → Spn → Bool → List Spn → List Spn
 | [], x, done, out => if done then out else out ++ [x]
 | s :: l, x, done, out => if s.2 + 1 < x.1 then joinGo l x done (out ++ [s]) else if x.2 + 1 < s.1 then joinGo l x true (if done then out ++ [s] else out ++ [x] ++ [s]) else joinGo l (min x.1 s.1, max x.2 s.2) done out
theorem joinGo_done : ∀ {l : List Spn} {x : Spn} {out : List Spn}, (∀ s ∈ l, x.2 + 1 < s.1) → (x.1 ≤ x.2) → (∀ s ∈ l, s.1 ≤ s.2) → joinGo l x true out = out ++ l
 | [], x, out, _, _, _ => by unfold joinGo; simp
 | s :: l, x, out, h, hx, hv => by
  have h1 := h s List.mem_cons_self
  have h2 := hv s List.mem_cons_self
  unfold joinGo
  rw [if_neg (by omega), if_pos h1, joinGo_done (fun t ht => h t (List.mem_cons_of_mem _ ht)) hx (fun t ht => hv t (List.mem_cons_of_mem _ ht))]
  simp
theorem joinGo_eq : ∀ {l : List Spn} {x : Spn} {out : List Spn}, Nm l → x.1 ≤ x.2 → joinGo l x false out = out ++ joinR l x
 | [], x, out, _, _ => by unfold joinGo joinR; simp
 | s :: l, x, out, h, hx => by
  obtain ⟨h1, h2, h3⟩ := nm_cons.1 h
  unfold joinGo joinR
  split
  ·rw [joinGo_eq h3 hx]; simp
  ·split
   ·rename_i hlt
    rw [joinGo_done (fun t ht => by have := h2 t ht; omega) hx h3.1]
    simp
   ·rw [joinGo_eq h3 (by show min x.1 s.1 ≤ max x.2 s.2; omega)]
end Go.Proofs.Ytkblockodaiigaa

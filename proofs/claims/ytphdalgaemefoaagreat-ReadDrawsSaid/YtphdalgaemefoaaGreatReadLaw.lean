/- Ranges of numbers, plain: lists of ranges in order that do not touch are told apart by what is in them; unions, intersections. What reading finds, plain: pictures, the Starts that fit, in the program's way and in the reference's. The phases that fit, and the simplest program, plain. Conflicts among readings, plain; what is seen. Whether settings fit, as Booleans of three loops: plain laws of barleycornlaw09.fit. -/
import Derived.Test.YtphdalgaemefoaaGreatBase
import Derived.Test.YtphdalgaemefoaaGreatRos2
namespace Go.Proofs.YtphdalgaemefoaaGreat
set_option maxRecDepth 100000
set_option linter.unusedVariables false
abbrev Spn := Int × Int
def inL (L : List Spn) (x : Int) : Prop := ∃ s ∈ L, s.1 ≤ x ∧ x ≤ s.2
def Nm (L : List Spn) : Prop := (∀ s ∈ L, s.1 ≤ s.2) ∧ L.Pairwise (fun s t => s.2 + 1 < t.1)
theorem inL_nil (x : Int) : ¬ inL [] x := fun ⟨s, h, _⟩ => by cases h
theorem inL_cons {s : Spn} {L : List Spn} {x : Int} : inL (s :: L) x ↔ (s.1 ≤ x ∧ x ≤ s.2) ∨ inL L x := by
 unfold inL
 constructor
 ·rintro ⟨t, ht, h⟩
  rcases List.mem_cons.1 ht with rfl | ht
  ·exact .inl h
  ·exact .inr ⟨t, ht, h⟩
 ·rintro (h | ⟨t, ht, h⟩)
  ·exact ⟨s, List.mem_cons_self, h⟩
  ·exact ⟨t, List.mem_cons_of_mem _ ht, h⟩
theorem inL_append {A B : List Spn} {x : Int} : inL (A ++ B) x ↔ inL A x ∨ inL B x := by
 unfold inL
 constructor
 ·rintro ⟨t, ht, h⟩
  rcases List.mem_append.1 ht with ht | ht
  ·exact .inl ⟨t, ht, h⟩
  ·exact .inr ⟨t, ht, h⟩
 ·rintro (⟨t, ht, h⟩ | ⟨t, ht, h⟩)
  ·exact ⟨t, List.mem_append_left _ ht, h⟩
  ·exact ⟨t, List.mem_append_right _ ht, h⟩
theorem nm_nil : Nm [] := ⟨fun s h => (by cases h), List.Pairwise.nil⟩
theorem nm_cons {s : Spn} {L : List Spn} : Nm (s :: L) ↔ s.1 ≤ s.2 ∧ (∀ t ∈ L, s.2 + 1 < t.1) ∧ Nm L := by
 unfold Nm
 rw [List.pairwise_cons]
 constructor
 ·rintro ⟨h1, h2, h3⟩
  exact ⟨h1 s List.mem_cons_self, h2, fun t ht => h1 t (List.mem_cons_of_mem _ ht), h3⟩
 ·rintro ⟨h1, h2, h3, h4⟩
  exact ⟨fun t ht => (List.mem_cons.1 ht).elim (fun e => by rw [e]; exact h1) (h3 t), h2, h4⟩
theorem nm_append {A B : List Spn} : Nm (A ++ B) ↔ Nm A ∧ Nm B ∧ ∀ s ∈ A, ∀ t ∈ B, s.2 + 1 < t.1 := by
 unfold Nm
 rw [List.pairwise_append]
 constructor
 ·rintro ⟨h1, h2, h3, h4⟩
  exact ⟨⟨fun s hs => h1 s (List.mem_append_left _ hs), h2⟩, ⟨fun s hs => h1 s (List.mem_append_right _ hs), h3⟩, h4⟩
 ·rintro ⟨⟨h1, h2⟩, ⟨h3, h4⟩, h5⟩
  exact ⟨fun s hs => (List.mem_append.1 hs).elim (h1 s) (h3 s), h2, h4, h5⟩
theorem nm_one {s : Spn} (h : s.1 ≤ s.2) : Nm [s] := nm_cons.2 ⟨h, fun t ht => (by cases ht), nm_nil⟩
theorem nm_ext : ∀ {L M : List Spn}, Nm L → Nm M → (∀ x, inL L x ↔ inL M x) → L = M
 | [], [], _, _, _ => rfl
 | [], t :: M, _, k, e => by
  have k := (nm_cons.1 k).1
  exact absurd ((e t.1).2 ⟨t, List.mem_cons_self, Int.le_refl _, k⟩) (inL_nil _)
 | s :: L, [], h, _, e => by
  have h := (nm_cons.1 h).1
  exact absurd ((e s.1).1 ⟨s, List.mem_cons_self, Int.le_refl _, h⟩) (inL_nil _)
 | s :: L, t :: M, h, k, e => by
  obtain ⟨h1, h2, h3⟩ := nm_cons.1 h
  obtain ⟨k1, k2, k3⟩ := nm_cons.1 k
  have e1 : s.1 = t.1 := by
   have a : t.1 ≤ s.1 := by
    rcases inL_cons.1 ((e s.1).1 ⟨s, List.mem_cons_self, Int.le_refl _, h1⟩) with ⟨q, -⟩ | ⟨u, hu, q, -⟩
    ·exact q
    ·have := k2 u hu; omega
   have b : s.1 ≤ t.1 := by
    rcases inL_cons.1 ((e t.1).2 ⟨t, List.mem_cons_self, Int.le_refl _, k1⟩) with ⟨q, -⟩ | ⟨u, hu, q, -⟩
    ·exact q
    ·have := h2 u hu; omega
   omega
  have e2 : s.2 = t.2 := by
   have a : t.2 ≤ s.2 := by
    refine Int.not_lt.1 fun hlt => ?_
    rcases inL_cons.1 ((e (s.2 + 1)).2 ⟨t, List.mem_cons_self, by omega, by omega⟩) with ⟨-, q⟩ | ⟨u, hu, q, -⟩
    ·omega
    ·have := h2 u hu; omega
   have b : s.2 ≤ t.2 := by
    refine Int.not_lt.1 fun hlt => ?_
    rcases inL_cons.1 ((e (t.2 + 1)).1 ⟨s, List.mem_cons_self, by omega, by omega⟩) with ⟨-, q⟩ | ⟨u, hu, q, -⟩
    ·omega
    ·have := k2 u hu; omega
   omega
  have es : s = t := Prod.ext e1 e2
  subst es
  rw [nm_ext h3 k3 fun x => ?_]
  have hx := e x
  rw [inL_cons, inL_cons] at hx
  constructor
  ·rintro ⟨u, hu, q1, q2⟩
   rcases hx.1 (.inr ⟨u, hu, q1, q2⟩) with ⟨-, q⟩ | q
   ·have := h2 u hu; omega
   ·exact q
  ·rintro ⟨u, hu, q1, q2⟩
   rcases hx.2 (.inr ⟨u, hu, q1, q2⟩) with ⟨-, q⟩ | q
   ·have := k2 u hu; omega
   ·exact q
def uniteStep (out : List Spn) (s : Spn) : List Spn := match out.getLast? with
 | some t => if s.1 ≤ t.2 + 1 then out.dropLast ++ [(t.1, max t.2 s.2)] else out ++ [s]
 | none => [s]
def uniteL (l : List Spn) : List Spn := l.foldl uniteStep []
theorem uniteStep_snoc (pre : List Spn) (t s : Spn) : uniteStep (pre ++ [t]) s = if s.1 ≤ t.2 + 1 then pre ++ [(t.1, max t.2 s.2)] else pre ++ [t] ++ [s] := by
 unfold uniteStep
 rw [List.getLast?_append]
 simp
theorem unite_go : ∀ (l out : List Spn), Nm out → l.Pairwise (fun s t => s.1 ≤ t.1) → (∀ s ∈ l, s.1 ≤ s.2) → (∀ t ∈ out, ∀ s ∈ l, t.1 ≤ s.1) →
  Nm (l.foldl uniteStep out) ∧ ∀ x, inL (l.foldl uniteStep out) x ↔ inL out x ∨ inL l x
 | [], out, h, _, _, _ => ⟨h, fun x => ⟨.inl, fun q => q.elim id fun k => absurd k (inL_nil x)⟩⟩
 | s :: l, out, h, hs, hv, ho => by
  obtain ⟨hs1, hs2⟩ := List.pairwise_cons.1 hs
  have hsv := hv s List.mem_cons_self
  show Nm (l.foldl uniteStep (uniteStep out s)) ∧ ∀ x, inL (l.foldl uniteStep (uniteStep out s)) x ↔ _
  have step : Nm (uniteStep out s) ∧ (∀ x, inL (uniteStep out s) x ↔ inL out x ∨ (s.1 ≤ x ∧ x ≤ s.2)) ∧ ∀ t ∈ uniteStep out s, ∀ u ∈ l, t.1 ≤ u.1 := by
   rcases List.eq_nil_or_concat out with rfl | ⟨pre, t, rfl⟩
   ·refine ⟨nm_one hsv, fun x => ?_, fun t ht u hu => ?_⟩
    ·show inL [s] x ↔ _
     rw [inL_cons]
     exact ⟨fun q => .inr (q.elim id fun k => absurd k (inL_nil x)), fun q => .inl (q.elim (fun k => absurd k (inL_nil x)) id)⟩
    ·have : t = s := by simpa [uniteStep] using ht
     rw [this]; exact hs1 u hu
   ·simp only [List.concat_eq_append] at h ho ⊢
    obtain ⟨a1, a2, a3⟩ := nm_append.1 h
    have a4 := (nm_cons.1 a2).1
    have hts := ho t (by simp) s List.mem_cons_self
    rw [uniteStep_snoc]
    split
    ·rename_i hle
     refine ⟨nm_append.2 ⟨a1, nm_one (by show t.1 ≤ max t.2 s.2; omega), fun p hp q hq => ?_⟩, fun x => ?_, fun p hp u hu => ?_⟩
     ·have : q = (t.1, max t.2 s.2) := by simpa using hq
      rw [this]
      exact a3 p hp t (by simp)
     ·rw [inL_append, inL_append, inL_cons, inL_cons]
      simp only [inL_nil, or_false]
      constructor
      ·rintro (q | q)
       ·exact .inl (.inl q)
       ·by_cases hx : x ≤ t.2
        ·exact .inl (.inr ⟨q.1, hx⟩)
        ·exact .inr (by omega)
      ·rintro ((q | q) | q)
       ·exact .inl q
       ·exact .inr (by omega)
       ·exact .inr (by omega)
     ·rcases List.mem_append.1 hp with hp | hp
      ·exact ho p (by simp [hp]) u (List.mem_cons_of_mem _ hu)
      ·have : p = (t.1, max t.2 s.2) := by simpa using hp
       rw [this]; have := hs1 u hu; show t.1 ≤ u.1; omega
    ·rename_i hle
     refine ⟨nm_append.2 ⟨h, nm_one hsv, fun p hp q hq => ?_⟩, fun x => ?_, fun p hp u hu => ?_⟩
     ·have e : q = s := by simpa using hq
      rw [e]
      rcases List.mem_append.1 hp with hp | hp
      ·have := a3 p hp t (by simp); omega
      ·have : p = t := by simpa using hp
       rw [this]; omega
     ·rw [inL_append (B := [s]), inL_cons]
      simp only [inL_nil, or_false]
     ·rcases List.mem_append.1 hp with hp | hp
      ·exact ho p hp u (List.mem_cons_of_mem _ hu)
      ·have : p = s := by simpa using hp
       rw [this]; exact hs1 u hu
  obtain ⟨b1, b2, b3⟩ := step
  obtain ⟨c1, c2⟩ := unite_go l _ b1 hs2 (fun u hu => hv u (List.mem_cons_of_mem _ hu)) b3
  refine ⟨c1, fun x => ?_⟩
  rw [c2, b2, inL_cons, or_assoc]
theorem unite_nm {l : List Spn} (hs : l.Pairwise (fun s t => s.1 ≤ t.1)) (hv : ∀ s ∈ l, s.1 ≤ s.2) : Nm (uniteL l) ∧ ∀ x, inL (uniteL l) x ↔ inL l x := by
 obtain ⟨h1, h2⟩ := unite_go l [] nm_nil hs hv (fun t ht => by cases ht)
 exact ⟨h1, fun x => by rw [uniteL, h2]; simp [inL_nil]⟩
def meetL : List Spn → List Spn → List Spn
 | [], _ => []
 | _ :: _, [] => []
 | a :: la, b :: lb =>
  let r := if a.2 < b.2 then meetL la (b :: lb) else meetL (a :: la) lb
  if max a.1 b.1 ≤ min a.2 b.2 then (max a.1 b.1, min a.2 b.2) :: r else r
termination_by A B => A.length + B.length
theorem meet_in : ∀ {A B : List Spn} {t : Spn}, t ∈ meetL A B → t.1 ≤ t.2 ∧ (∃ a ∈ A, a.1 ≤ t.1 ∧ t.2 ≤ a.2) ∧ ∃ b ∈ B, b.1 ≤ t.1 ∧ t.2 ≤ b.2
 | [], B, t, h => by unfold meetL at h; cases h
 | a :: la, [], t, h => by unfold meetL at h; cases h
 | a :: la, b :: lb, t, h => by
  have rest : t ∈ (if a.2 < b.2 then meetL la (b :: lb) else meetL (a :: la) lb) → t.1 ≤ t.2 ∧ (∃ x ∈ a :: la, x.1 ≤ t.1 ∧ t.2 ≤ x.2) ∧ ∃ x ∈ b :: lb, x.1 ≤ t.1 ∧ t.2 ≤ x.2 := by
   intro h
   split at h
   ·obtain ⟨h1, ⟨x, hx, h2⟩, h3⟩ := meet_in h
    exact ⟨h1, ⟨x, List.mem_cons_of_mem _ hx, h2⟩, h3⟩
   ·obtain ⟨h1, h2, x, hx, h3⟩ := meet_in h
    exact ⟨h1, h2, x, List.mem_cons_of_mem _ hx, h3⟩
  unfold meetL at h
  simp only at h
  split at h
  ·rename_i hle
   rcases List.mem_cons.1 h with rfl | h
   ·exact ⟨hle, ⟨a, List.mem_cons_self, by show a.1 ≤ max a.1 b.1; omega, by show min a.2 b.2 ≤ a.2; omega⟩, b, List.mem_cons_self, by show b.1 ≤ max a.1 b.1; omega, by show min a.2 b.2 ≤ b.2; omega⟩
   ·exact rest h
  ·exact rest h
termination_by A B => A.length + B.length
theorem meet_nm : ∀ {A B : List Spn}, Nm A → Nm B → Nm (meetL A B) ∧ ∀ x, inL (meetL A B) x ↔ inL A x ∧ inL B x
 | [], B, _, _ => by
  unfold meetL
  exact ⟨nm_nil, fun x => ⟨fun h => absurd h (inL_nil x), fun h => h.1⟩⟩
 | a :: la, [], _, _ => by
  unfold meetL
  exact ⟨nm_nil, fun x => ⟨fun h => absurd h (inL_nil x), fun h => h.2⟩⟩
 | a :: la, b :: lb, ha, hb => by
  obtain ⟨a1, a2, a3⟩ := nm_cons.1 ha
  obtain ⟨b1, b2, b3⟩ := nm_cons.1 hb
  have rest : Nm (if a.2 < b.2 then meetL la (b :: lb) else meetL (a :: la) lb) ∧
    (∀ x, inL (if a.2 < b.2 then meetL la (b :: lb) else meetL (a :: la) lb) x ↔ (inL (a :: la) x ∧ inL (b :: lb) x) ∧ min a.2 b.2 < x) ∧
    ∀ t ∈ (if a.2 < b.2 then meetL la (b :: lb) else meetL (a :: la) lb), min a.2 b.2 + 1 < t.1 := by
   split
   ·rename_i hlt
    obtain ⟨c1, c2⟩ := meet_nm a3 hb
    refine ⟨c1, fun x => ?_, fun t ht => ?_⟩
    ·rw [c2, inL_cons (s := a)]
     constructor
     ·rintro ⟨⟨u, hu, q1, q2⟩, q⟩
      refine ⟨⟨.inr ⟨u, hu, q1, q2⟩, q⟩, ?_⟩
      have := a2 u hu
      omega
     ·rintro ⟨⟨q1 | q1, q2⟩, q3⟩
      ·omega
      ·exact ⟨q1, q2⟩
    ·obtain ⟨h1, ⟨u, hu, q1, q2⟩, -⟩ := meet_in ht
     have := a2 u hu
     omega
   ·rename_i hlt
    obtain ⟨c1, c2⟩ := meet_nm ha b3
    refine ⟨c1, fun x => ?_, fun t ht => ?_⟩
    ·rw [c2, inL_cons (s := b)]
     constructor
     ·rintro ⟨q, ⟨u, hu, q1, q2⟩⟩
      refine ⟨⟨q, .inr ⟨u, hu, q1, q2⟩⟩, ?_⟩
      have := b2 u hu
      omega
     ·rintro ⟨⟨q1, q2 | q2⟩, q3⟩
      ·omega
      ·exact ⟨q1, q2⟩
    ·obtain ⟨h1, -, ⟨u, hu, q1, q2⟩⟩ := meet_in ht
     have := b2 u hu
     omega
  obtain ⟨c1, c2, c3⟩ := rest
  have low : ∀ x, x ≤ min a.2 b.2 → (inL (a :: la) x ∧ inL (b :: lb) x ↔ max a.1 b.1 ≤ x) := fun x hx => by
   rw [inL_cons, inL_cons]
   constructor
   ·rintro ⟨q1 | ⟨u, hu, q1, q2⟩, q3 | ⟨v, hv, q3, q4⟩⟩
    ·omega
    ·have := b2 v hv; omega
    ·have := a2 u hu; omega
    ·have := a2 u hu; omega
   ·intro q
    exact ⟨.inl (by omega), .inl (by omega)⟩
  unfold meetL
  simp only
  split
  ·rename_i hle
   refine ⟨nm_cons.2 ⟨hle, c3, c1⟩, fun x => ?_⟩
   rw [inL_cons, c2]
   by_cases hx : x ≤ min a.2 b.2
   ·have := low x hx
    constructor
    ·rintro (q | q)
     ·exact this.2 q.1
     ·exact q.1
    ·intro q; exact .inl ⟨this.1 q, hx⟩
   ·constructor
    ·rintro (q | q)
     ·exact absurd q.2 hx
     ·exact q.1
    ·intro q; exact .inr ⟨q, by omega⟩
  ·rename_i hle
   refine ⟨c1, fun x => ?_⟩
   rw [c2]
   by_cases hx : x ≤ min a.2 b.2
   ·have := low x hx
    constructor
    ·intro q; exact q.1
    ·intro q; have := this.1 q; omega
   ·exact ⟨fun q => q.1, fun q => ⟨q, by omega⟩⟩
termination_by A B => A.length + B.length
def joinR : List Spn → Spn → List Spn
 | [], x => [x]
 | s :: l, x => if s.2 + 1 < x.1 then s :: joinR l x else if x.2 + 1 < s.1 then x :: s :: l else joinR l (min x.1 s.1, max x.2 s.2)
def joinedL (l : List Spn) (x : Spn) : List Spn := if x.2 < x.1 then l else joinR l x
theorem joinR_nm : ∀ {l : List Spn} {x : Spn}, Nm l → x.1 ≤ x.2 → Nm (joinR l x) ∧ (∀ y, inL (joinR l x) y ↔ inL l y ∨ (x.1 ≤ y ∧ y ≤ x.2)) ∧ ∀ b, b < x.1 → (∀ s ∈ l, b < s.1) → ∀ t ∈ joinR l x, b < t.1
 | [], x, _, hx => by
  refine ⟨nm_one hx, fun y => ?_, fun b hb _ t ht => ?_⟩
  ·unfold joinR
   rw [inL_cons]
   simp only [inL_nil, or_false, false_or]
  ·have : t = x := by simpa [joinR] using ht
   rw [this]; exact hb
 | s :: l, x, h, hx => by
  obtain ⟨h1, h2, h3⟩ := nm_cons.1 h
  unfold joinR
  split
  ·rename_i hlt
   obtain ⟨c1, c2, c3⟩ := joinR_nm h3 hx
   refine ⟨nm_cons.2 ⟨h1, fun t ht => c3 _ hlt h2 t ht, c1⟩, fun y => ?_, fun b hb hs t ht => ?_⟩
   ·rw [inL_cons, inL_cons, c2, or_assoc]
   ·rcases List.mem_cons.1 ht with rfl | ht
    ·exact hs _ List.mem_cons_self
    ·exact c3 b hb (fun u hu => hs u (List.mem_cons_of_mem _ hu)) t ht
  ·split
   ·rename_i hlt
    refine ⟨nm_cons.2 ⟨hx, fun t ht => ?_, h⟩, fun y => ?_, fun b hb hs t ht => ?_⟩
    ·rcases List.mem_cons.1 ht with rfl | ht
     ·exact hlt
     ·have := h2 t ht; omega
    ·rw [inL_cons, or_comm]
    ·rcases List.mem_cons.1 ht with rfl | ht
     ·exact hb
     ·exact hs t ht
   ·rename_i g1 g2
    obtain ⟨c1, c2, c3⟩ := joinR_nm (x := (min x.1 s.1, max x.2 s.2)) h3 (by show min x.1 s.1 ≤ max x.2 s.2; omega)
    refine ⟨c1, fun y => ?_, fun b hb hs t ht => ?_⟩
    ·rw [c2, inL_cons]
     constructor
     ·rintro (q | q)
      ·exact .inl (.inr q)
      ·simp only at q
       by_cases k : s.1 ≤ y ∧ y ≤ s.2
       ·exact .inl (.inl k)
       ·exact .inr (by omega)
     ·rintro ((q | q) | q)
      ·exact .inr (by simp only; omega)
      ·exact .inl q
      ·exact .inr (by simp only; omega)
    ·exact c3 b (by have := hs s List.mem_cons_self; show b < min x.1 s.1; omega) (fun u hu => hs u (List.mem_cons_of_mem _ hu)) t ht
theorem joined_nm {l : List Spn} {x : Spn} (h : Nm l) : Nm (joinedL l x) ∧ ∀ y, inL (joinedL l x) y ↔ inL l y ∨ (x.1 ≤ y ∧ y ≤ x.2) := by
 unfold joinedL
 split
 ·exact ⟨h, fun y => ⟨.inl, fun q => q.elim id fun k => by omega⟩⟩
 ·obtain ⟨h1, h2, -⟩ := joinR_nm (x := x) h (by omega)
  exact ⟨h1, h2⟩
def normL (l : List Spn) : List Spn := l.foldl joinedL []
theorem norm_go : ∀ (l out : List Spn), Nm out → Nm (l.foldl joinedL out) ∧ ∀ x, inL (l.foldl joinedL out) x ↔ inL out x ∨ inL l x
 | [], out, h => ⟨h, fun x => ⟨.inl, fun q => q.elim id fun k => absurd k (inL_nil x)⟩⟩
 | s :: l, out, h => by
  obtain ⟨a1, a2⟩ := joined_nm (x := s) h
  obtain ⟨b1, b2⟩ := norm_go l _ a1
  refine ⟨b1, fun x => ?_⟩
  show inL (l.foldl joinedL (joinedL out s)) x ↔ _
  rw [b2, a2, inL_cons, or_assoc]
theorem norm_nm (l : List Spn) : Nm (normL l) ∧ ∀ x, inL (normL l) x ↔ inL l x := by
 obtain ⟨h1, h2⟩ := norm_go l [] nm_nil
 exact ⟨h1, fun x => by rw [normL, h2]; simp [inL_nil]⟩
def bothL (A B : List Spn) : List Spn := normL (A.flatMap fun a => B.map fun b => (max a.1 b.1, min a.2 b.2))
theorem both_nm (A B : List Spn) : Nm (bothL A B) ∧ ∀ x, inL (bothL A B) x ↔ inL A x ∧ inL B x := by
 obtain ⟨h1, h2⟩ := norm_nm (A.flatMap fun a => B.map fun b => (max a.1 b.1, min a.2 b.2))
 refine ⟨h1, fun x => ?_⟩
 rw [bothL, h2]
 unfold inL
 constructor
 ·rintro ⟨s, hs, q⟩
  obtain ⟨a, ha, hs⟩ := List.mem_flatMap.1 hs
  obtain ⟨b, hb, rfl⟩ := List.mem_map.1 hs
  simp only at q
  exact ⟨⟨a, ha, by omega, by omega⟩, b, hb, by omega, by omega⟩
 ·rintro ⟨⟨a, ha, q1, q2⟩, b, hb, q3, q4⟩
  exact ⟨_, List.mem_flatMap.2 ⟨a, ha, List.mem_map.2 ⟨b, hb, rfl⟩⟩, by simp only; omega, by simp only; omega⟩
theorem meet_both {A B : List Spn} (ha : Nm A) (hb : Nm B) : meetL A B = bothL A B :=
 nm_ext (meet_nm ha hb).1 (both_nm A B).1 fun x => ((meet_nm ha hb).2 x).trans ((both_nm A B).2 x).symm
def okS (s : Spn) : Bool := decide (s.1 ≤ s.2)
theorem inL_filter {l : List Spn} {x : Int} : inL (l.filter okS) x ↔ inL l x := by
 unfold inL
 constructor
 ·rintro ⟨s, hs, h⟩
  exact ⟨s, (List.mem_filter.1 hs).1, h⟩
 ·rintro ⟨s, hs, h⟩
  exact ⟨s, List.mem_filter.2 ⟨hs, by unfold okS; rw [decide_eq_true_eq]; omega⟩, h⟩
theorem unite_norm {l d : List Spn} (hp : ∀ s, s ∈ d ↔ s ∈ l.filter okS) (hs : d.Pairwise (fun s t => s.1 ≤ t.1)) : uniteL d = normL l := by
 obtain ⟨h1, h2⟩ := unite_nm hs (fun s h => by have := (List.mem_filter.1 ((hp s).1 h)).2; unfold okS at this; rwa [decide_eq_true_eq] at this)
 refine nm_ext h1 (norm_nm l).1 fun x => ?_
 rw [h2, (norm_nm l).2, ← inL_filter (l := l)]
 unfold inL
 exact ⟨fun ⟨s, a, b⟩ => ⟨s, (hp s).1 a, b⟩, fun ⟨s, a, b⟩ => ⟨s, (hp s).2 a, b⟩⟩
theorem meetL_nil_right (A : List Spn) : meetL A [] = [] := by
 cases A with
 | nil => unfold meetL; rfl
 | cons a la => unfold meetL; rfl
theorem meetL_nil_left (B : List Spn) : meetL [] B = [] := by unfold meetL; rfl
theorem meetL_drop {A B : List Spn} {i k : Nat} (hi : i < A.length) (hk : k < B.length) : meetL (A.drop i) (B.drop k) =
  (if max A[i].1 B[k].1 ≤ min A[i].2 B[k].2 then [(max A[i].1 B[k].1, min A[i].2 B[k].2)] else []) ++ (if A[i].2 < B[k].2 then meetL (A.drop (i + 1)) (B.drop k) else meetL (A.drop i) (B.drop (k + 1))) := by
 rw [List.drop_eq_getElem_cons hi, List.drop_eq_getElem_cons hk]
 conv => lhs; unfold meetL
 simp only
 split <;> simp
def joinGo : List Spn → Spn → Bool → List Spn → List Spn
 | [], x, done, out => if done then out else out ++ [x]
 | s :: l, x, done, out => if s.2 + 1 < x.1 then joinGo l x done (out ++ [s]) else if x.2 + 1 < s.1 then joinGo l x true (if done then out ++ [s] else out ++ [x] ++ [s]) else joinGo l (min x.1 s.1, max x.2 s.2) done out
theorem joinGo_done : ∀ {l : List Spn} {x : Spn} {out : List Spn}, (∀ s ∈ l, x.2 + 1 < s.1) → (x.1 ≤ x.2) → (∀ s ∈ l, s.1 ≤ s.2) → joinGo l x true out = out ++ l
 | [], x, out, _, _, _ => by unfold joinGo; simp
 | s :: l, x, out, h, hx, hv => by
  have h1 := h s List.mem_cons_self
  have h2 := hv s List.mem_cons_self
  unfold joinGo
  rw [if_neg (by omega), if_pos h1, joinGo_done (fun t ht => h t (List.mem_cons_of_mem _ ht)) hx (fun t ht => hv t (List.mem_cons_of_mem _ ht))]
  simp
theorem joinGo_eq : ∀ {l : List Spn} {x : Spn} {out : List Spn}, Nm l → x.1 ≤ x.2 → joinGo l x false out = out ++ joinR l x
 | [], x, out, _, _ => by unfold joinGo joinR; simp
 | s :: l, x, out, h, hx => by
  obtain ⟨h1, h2, h3⟩ := nm_cons.1 h
  unfold joinGo joinR
  split
  ·rw [joinGo_eq h3 hx]; simp
  ·split
   ·rename_i hlt
    rw [joinGo_done (fun t ht => by have := h2 t ht; omega) hx h3.1]
    simp
   ·rw [joinGo_eq h3 (by show min x.1 s.1 ≤ max x.2 s.2; omega)]
end Go.Proofs.YtphdalgaemefoaaGreat
namespace Go.Proofs.YtphdalgaemefoaaGreat
set_option maxRecDepth 100000
set_option linter.unusedVariables false
structure Rd where
 cut : Int
 step : Int
 lo : Int
 hi : Int
deriving DecidableEq
structure Hd where
 ros : List Int
 rub : List Int
structure Pic where
 hs : List Hd
 tl : Int
 th : Int
 al : Int
 ah : Int
 rds : List Rd
instance : Inhabited Hd := ⟨⟨[], []⟩⟩
instance : Inhabited Rd := ⟨⟨0, 0, 0, 0⟩⟩
def Pic.steps (p : Pic) : Nat := (p.hs.getD 0 default).ros.length
def headB (n : Nat) (h : Hd) : Bool := decide (h.ros.length = n) && (rosOk h.ros && rubOk h.rub n)
def rdB (n : Nat) (r : Rd) : Bool := decide (0 ≤ r.cut ∧ r.cut ≤ 11) && (decide (0 ≤ r.step ∧ r.step ≤ (n : Int) - 1) && (decide (-300000 ≤ r.lo) && (decide (r.lo ≤ r.hi) && decide (r.hi ≤ 300000))))
def setB (p : Pic) : Bool := decide (1 ≤ p.tl) && (decide (p.tl ≤ p.th) && (decide (p.th ≤ 16) && (decide (-1000 ≤ p.al) && (decide (p.al ≤ p.ah) && (decide (p.ah ≤ 1000) && decide (p.ah - p.al ≤ 40))))))
def picB (p : Pic) : Bool := decide (1 ≤ p.hs.length ∧ p.hs.length ≤ 4) && (decide (1 ≤ p.rds.length ∧ p.rds.length ≤ 60) && (p.hs.all (headB p.steps) && (setB p && p.rds.all (rdB p.steps))))
def picE (p : Pic) : Int := if picB p then 0 else 90
structure PicOk (p : Pic) : Prop where
 heads : 1 ≤ p.hs.length ∧ p.hs.length ≤ 4
 reads : 1 ≤ p.rds.length ∧ p.rds.length ≤ 60
 head : ∀ h ∈ p.hs, h.ros.length = p.steps ∧ rosOk h.ros = true ∧ rubOk h.rub p.steps = true
 tl : 1 ≤ p.tl
 tle : p.tl ≤ p.th
 th : p.th ≤ 16
 al : -1000 ≤ p.al
 ale : p.al ≤ p.ah
 ah : p.ah ≤ 1000
 span : p.ah - p.al ≤ 40
 rd : ∀ r ∈ p.rds, (0 ≤ r.cut ∧ r.cut ≤ 11) ∧ (0 ≤ r.step ∧ r.step ≤ (p.steps : Int) - 1) ∧ -300000 ≤ r.lo ∧ r.lo ≤ r.hi ∧ r.hi ≤ 300000
theorem picB_iff {p : Pic} : picB p = true ↔ PicOk p := by
 unfold picB setB headB rdB
 simp only [Bool.and_eq_true, decide_eq_true_eq, List.all_eq_true]
 constructor
 ·rintro ⟨h1, h2, h3, ⟨h4, h5, h6, h7, h8, h9, h10⟩, h11⟩
  exact ⟨h1, h2, h3, h4, h5, h6, h7, h8, h9, h10, h11⟩
 ·rintro ⟨h1, h2, h3, h4, h5, h6, h7, h8, h9, h10, h11⟩
  exact ⟨h1, h2, h3, ⟨h4, h5, h6, h7, h8, h9, h10⟩, h11⟩
theorem PicOk.steps {p : Pic} (h : PicOk p) : 3 ≤ p.steps ∧ p.steps ≤ 96 := by
 obtain ⟨h1, h2, -⟩ := h.heads, h.reads
 have h0 : 0 < p.hs.length := by omega
 have hm : p.hs.getD 0 default ∈ p.hs := by
  rw [List.getD_eq_getElem?_getD, List.getElem?_eq_getElem h0]
  exact List.getElem_mem h0
 have hr := rosOk_iff.1 (h.head _ hm).2.1
 exact ⟨hr.1, hr.2.1⟩
def hAt (lift : List Int) (r : Rd) (ph : Nat) : Int := atR lift (r.step - (ph : Int))
def startS (rds : List Rd) (lift : List Int) (throw adv cut : Int) (ph : Nat) : Spn :=
 rds.foldl (fun o r => if r.cut = cut then (max o.1 (r.lo - (cut * adv + throw * hAt lift r ph)), min o.2 (r.hi - (cut * adv + throw * hAt lift r ph))) else o) (0, 10000)
def baseS (rds : List Rd) (lift : List Int) (throw cut : Int) (ph : Nat) : Spn :=
 rds.foldl (fun o r => if r.cut = cut then (max o.1 (r.lo - throw * hAt lift r ph), min o.2 (r.hi - throw * hAt lift r ph)) else o) (-1099511627776, 1099511627776)
theorem fold_span (g : Rd → Int) (cut : Int) (x : Int) : ∀ (rds : List Rd) (o : Spn), ((rds.foldl (fun o r => if r.cut = cut then (max o.1 (r.lo - g r), min o.2 (r.hi - g r)) else o) o).1 ≤ x ∧ x ≤ (rds.foldl (fun o r => if r.cut = cut then (max o.1 (r.lo - g r), min o.2 (r.hi - g r)) else o) o).2) ↔
  (o.1 ≤ x ∧ x ≤ o.2) ∧ ∀ r ∈ rds, r.cut = cut → r.lo ≤ x + g r ∧ x + g r ≤ r.hi
 | [], o => ⟨fun h => ⟨h, fun r hr => (by cases hr)⟩, fun h => h.1⟩
 | r :: rds, o => by
  simp only [List.foldl_cons]
  rw [fold_span g cut x rds]
  by_cases hc : r.cut = cut
  ·rw [if_pos hc]
   simp only
   constructor
   ·rintro ⟨⟨h1, h2⟩, h3⟩
    refine ⟨by omega, fun q hq e => ?_⟩
    rcases List.mem_cons.1 hq with rfl | hq
    ·omega
    ·exact h3 q hq e
   ·rintro ⟨h1, h2⟩
    have := h2 r List.mem_cons_self hc
    exact ⟨by omega, fun q hq e => h2 q (List.mem_cons_of_mem _ hq) e⟩
  ·rw [if_neg hc]
   constructor
   ·rintro ⟨h1, h2⟩
    refine ⟨h1, fun q hq e => ?_⟩
    rcases List.mem_cons.1 hq with rfl | hq
    ·exact absurd e hc
    ·exact h2 q hq e
   ·rintro ⟨h1, h2⟩
    exact ⟨h1, fun q hq e => h2 q (List.mem_cons_of_mem _ hq) e⟩
def FitAt (rds : List Rd) (lift : List Int) (throw adv cut : Int) (ph : Nat) (x : Int) : Prop := ∀ r ∈ rds, r.cut = cut → r.lo ≤ x + (cut * adv + throw * hAt lift r ph) ∧ x + (cut * adv + throw * hAt lift r ph) ≤ r.hi
theorem startS_in {rds : List Rd} {lift : List Int} {throw adv cut : Int} {ph : Nat} {x : Int} : ((startS rds lift throw adv cut ph).1 ≤ x ∧ x ≤ (startS rds lift throw adv cut ph).2) ↔ (0 ≤ x ∧ x ≤ 10000) ∧ FitAt rds lift throw adv cut ph x :=
 fold_span (fun r => cut * adv + throw * hAt lift r ph) cut x rds (0, 10000)
theorem baseS_in {rds : List Rd} {lift : List Int} {throw adv cut : Int} {ph : Nat} {x : Int} (hx : -1000000 ≤ x + cut * adv ∧ x + cut * adv ≤ 1000000) :
  ((baseS rds lift throw cut ph).1 - cut * adv ≤ x ∧ x ≤ (baseS rds lift throw cut ph).2 - cut * adv) ↔ FitAt rds lift throw adv cut ph x := by
 have h : ((baseS rds lift throw cut ph).1 ≤ x + cut * adv ∧ x + cut * adv ≤ (baseS rds lift throw cut ph).2) ↔ ((-1099511627776 : Int) ≤ x + cut * adv ∧ x + cut * adv ≤ 1099511627776) ∧ ∀ r ∈ rds, r.cut = cut → r.lo ≤ x + cut * adv + throw * hAt lift r ph ∧ x + cut * adv + throw * hAt lift r ph ≤ r.hi :=
  fold_span (fun r => throw * hAt lift r ph) cut (x + cut * adv) rds (-1099511627776, 1099511627776)
 constructor
 ·intro q r hr hc
  have := (h.1 ⟨by omega, by omega⟩).2 r hr hc
  omega
 ·intro q
  have := h.2 ⟨⟨by omega, by omega⟩, fun r hr hc => by have := q r hr hc; omega⟩
  omega
def fitL (rds : List Rd) (lift : List Int) (throw adv : Int) : List Spn :=
 (List.range 12).foldl (fun (o : List Spn) (cut : Nat) => bothL o (normL ((List.range lift.length).map fun ph => startS rds lift throw adv (cut : Int) ph))) [(0, 10000)]
def AllFit (rds : List Rd) (lift : List Int) (throw adv : Int) (x : Int) : Prop := ∀ cut : Nat, cut < 12 → ∃ ph, ph < lift.length ∧ FitAt rds lift throw adv cut ph x
theorem inL_map_start {rds : List Rd} {lift : List Int} {throw adv cut : Int} {n : Nat} {x : Int} : inL ((List.range n).map fun ph => startS rds lift throw adv cut ph) x ↔ ∃ ph, ph < n ∧ (0 ≤ x ∧ x ≤ 10000) ∧ FitAt rds lift throw adv cut ph x := by
 unfold inL
 constructor
 ·rintro ⟨s, hs, h⟩
  obtain ⟨ph, hp, rfl⟩ := List.mem_map.1 hs
  exact ⟨ph, List.mem_range.1 hp, startS_in.1 h⟩
 ·rintro ⟨ph, hp, h⟩
  exact ⟨_, List.mem_map.2 ⟨ph, List.mem_range.2 hp, rfl⟩, startS_in.2 h⟩
theorem fit_fold (rds : List Rd) (lift : List Int) (throw adv : Int) : ∀ (l : List Nat) (o : List Spn), Nm o → Nm (l.foldl (fun (o : List Spn) (cut : Nat) => bothL o (normL ((List.range lift.length).map fun ph => startS rds lift throw adv (cut : Int) ph))) o) ∧
  ∀ x, inL (l.foldl (fun (o : List Spn) (cut : Nat) => bothL o (normL ((List.range lift.length).map fun ph => startS rds lift throw adv (cut : Int) ph))) o) x ↔ inL o x ∧ ∀ cut ∈ l, ∃ ph, ph < lift.length ∧ (0 ≤ x ∧ x ≤ 10000) ∧ FitAt rds lift throw adv (cut : Int) ph x
 | [], o, h => ⟨h, fun x => ⟨fun q => ⟨q, fun c hc => (by cases hc)⟩, fun q => q.1⟩⟩
 | c :: l, o, h => by
  obtain ⟨a1, a2⟩ := both_nm o (normL ((List.range lift.length).map fun ph => startS rds lift throw adv (c : Int) ph))
  obtain ⟨b1, b2⟩ := fit_fold rds lift throw adv l _ a1
  refine ⟨b1, fun x => ?_⟩
  simp only [List.foldl_cons]
  rw [b2, a2, (norm_nm _).2, inL_map_start]
  constructor
  ·rintro ⟨⟨q1, q2⟩, q3⟩
   refine ⟨q1, fun k hk => ?_⟩
   rcases List.mem_cons.1 hk with rfl | hk
   ·exact q2
   ·exact q3 k hk
  ·rintro ⟨q1, q2⟩
   exact ⟨⟨q1, q2 c List.mem_cons_self⟩, fun k hk => q2 k (List.mem_cons_of_mem _ hk)⟩
theorem fitL_nm (rds : List Rd) (lift : List Int) (throw adv : Int) : Nm (fitL rds lift throw adv) := (fit_fold rds lift throw adv _ _ (nm_one (by decide))).1
theorem fitL_in {rds : List Rd} {lift : List Int} {throw adv x : Int} : inL (fitL rds lift throw adv) x ↔ (0 ≤ x ∧ x ≤ 10000) ∧ AllFit rds lift throw adv x := by
 unfold fitL
 rw [(fit_fold rds lift throw adv _ _ (nm_one (by decide))).2, inL_cons]
 simp only [inL_nil, or_false]
 constructor
 ·rintro ⟨q1, q2⟩
  refine ⟨q1, fun c hc => ?_⟩
  obtain ⟨ph, h1, -, h2⟩ := q2 c (List.mem_range.2 hc)
  exact ⟨ph, h1, h2⟩
 ·rintro ⟨q1, q2⟩
  refine ⟨q1, fun c hc => ?_⟩
  obtain ⟨ph, h1, h2⟩ := q2 c (List.mem_range.1 hc)
  exact ⟨ph, h1, q1, h2⟩
theorem fitL_of {rds : List Rd} {lift : List Int} {throw adv : Int} {L : List Spn} (hn : Nm L) (h0 : 0 < lift.length) (hadv : -1000 ≤ adv ∧ adv ≤ 1000) (hcut : ∀ r ∈ rds, 0 ≤ r.cut ∧ r.cut ≤ 11)
  (hin : ∀ x, inL L x ↔ (0 ≤ x ∧ x ≤ 10000) ∧ ∀ r ∈ rds, ∃ ph, ph < lift.length ∧ (baseS rds lift throw r.cut ph).1 - r.cut * adv ≤ x ∧ x ≤ (baseS rds lift throw r.cut ph).2 - r.cut * adv) : L = fitL rds lift throw adv := by
 refine nm_ext hn (fitL_nm ..) fun x => ?_
 rw [hin, fitL_in]
 have hb : ∀ c : Int, 0 ≤ c → c ≤ 11 → -11000 ≤ c * adv ∧ c * adv ≤ 11000 := fun c h1 h2 => by
  have a := Int.mul_le_mul_of_nonneg_left hadv.1 h1
  have b := Int.mul_le_mul_of_nonneg_left hadv.2 h1
  omega
 refine and_congr_right fun hx => ⟨fun h c hc => ?_, fun h r hr => ?_⟩
 ·by_cases hex : ∃ r ∈ rds, r.cut = (c : Int)
  ·obtain ⟨r, hr, e⟩ := hex
   obtain ⟨ph, h1, h2⟩ := h r hr
   rw [e] at h2
   have := hb (c : Int) (by omega) (by omega)
   exact ⟨ph, h1, (baseS_in (by omega)).1 h2⟩
  ·exact ⟨0, h0, fun r hr e => absurd ⟨r, hr, e⟩ hex⟩
 ·obtain ⟨c1, c2⟩ := hcut r hr
  obtain ⟨ph, h1, h2⟩ := h r.cut.toNat (by omega)
  rw [Int.toNat_of_nonneg c1] at h2
  have := hb r.cut c1 c2
  exact ⟨ph, h1, (baseS_in (by omega)).2 h2⟩
structure Fnd where
 head : Int
 throw : Int
 adv : Int
 lo : Int
 hi : Int
deriving DecidableEq
def upTo (a b : Int) : List Int := (List.range (b - a + 1).toNat).map fun (k : Nat) => a + (k : Int)
def Pic.lift (p : Pic) (h : Nat) : List Int := liftL (p.hs.getD h default).ros (p.hs.getD h default).rub
def foundA (p : Pic) (h : Nat) (t a : Int) : List Fnd := (fitL p.rds (p.lift h) t a).map fun s => ⟨h, t, a, s.1, s.2⟩
def foundL (p : Pic) : List Fnd := (List.range p.hs.length).flatMap fun h => (upTo p.tl p.th).flatMap fun t => (upTo p.al p.ah).flatMap fun a => foundA p h t a
def findE (p : Pic) : Int := if picB p then (if foundL p = [] then 6 else if 400 < (foundL p).length then 4 else 0) else 90
def findL (p : Pic) : List Fnd := if findE p = 0 then foundL p else []
end Go.Proofs.YtphdalgaemefoaaGreat
namespace Go.Proofs.YtphdalgaemefoaaGreat
set_option maxRecDepth 100000
set_option linter.unusedVariables false
def inB (x : Int) (s : Spn) : Bool := decide (s.1 ≤ x) && decide (x ≤ s.2)
theorem inB_iff {x : Int} {s : Spn} : inB x s = true ↔ s.1 ≤ x ∧ x ≤ s.2 := by unfold inB; rw [Bool.and_eq_true, decide_eq_true_eq, decide_eq_true_eq]
def phasesAt (rds : List Rd) (lift : List Int) (throw adv start cut : Int) : List Int := ((List.range lift.length).filter fun ph => inB start (startS rds lift throw adv cut ph)).map fun (ph : Nat) => (ph : Int)
def lastC (rds : List Rd) : Int := rds.foldl (fun m r => max m r.cut) 0
theorem lastC_le {rds : List Rd} (h : ∀ r ∈ rds, 0 ≤ r.cut ∧ r.cut ≤ 11) : 0 ≤ lastC rds ∧ lastC rds ≤ 11 ∧ (∀ r ∈ rds, r.cut ≤ lastC rds) ∧ (lastC rds = 0 ∨ ∃ r ∈ rds, r.cut = lastC rds) := by
 have go : ∀ (l : List Rd) (m : Int), 0 ≤ m → m ≤ 11 → (∀ r ∈ l, 0 ≤ r.cut ∧ r.cut ≤ 11) → m ≤ l.foldl (fun m r => max m r.cut) m ∧ l.foldl (fun m r => max m r.cut) m ≤ 11 ∧ (∀ r ∈ l, r.cut ≤ l.foldl (fun m r => max m r.cut) m) ∧ (l.foldl (fun m r => max m r.cut) m = m ∨ ∃ r ∈ l, r.cut = l.foldl (fun m r => max m r.cut) m) := by
  intro l
  induction l with
  | nil => intro m h0 h1 _; exact ⟨Int.le_refl _, h1, fun r hr => (by cases hr), .inl rfl⟩
  | cons r l ih =>
   intro m h0 h1 hl
   have hr := hl r List.mem_cons_self
   obtain ⟨a, b, c, d⟩ := ih (max m r.cut) (by omega) (by omega) (fun q hq => hl q (List.mem_cons_of_mem _ hq))
   simp only [List.foldl_cons]
   refine ⟨by omega, b, fun q hq => ?_, ?_⟩
   ·rcases List.mem_cons.1 hq with rfl | hq
    ·omega
    ·exact c q hq
   ·rcases d with d | ⟨q, hq, d⟩
    ·by_cases hm : m ≤ r.cut
     ·exact .inr ⟨r, List.mem_cons_self, by omega⟩
     ·exact .inl (by omega)
    ·exact .inr ⟨q, List.mem_cons_of_mem _ hq, d⟩
 exact go rds 0 (by decide) (by decide) h
def fitsL (p : Pic) (f : Fnd) (start : Int) : List (List Int) := (List.range ((lastC p.rds).toNat + 1)).map fun (c : Nat) => phasesAt p.rds (p.lift f.head.toNat) f.throw f.adv start (c : Int)
def argB (p : Pic) (f : Fnd) (start : Int) : Bool :=
 (decide (0 ≤ f.head) && decide (f.head ≤ (p.hs.length : Int) - 1)) && ((decide (p.tl ≤ f.throw) && decide (f.throw ≤ p.th)) && ((decide (p.al ≤ f.adv) && decide (f.adv ≤ p.ah)) && ((decide (f.lo ≤ start) && decide (start ≤ f.hi)) && (decide (0 ≤ start) && decide (start ≤ 10000)))))
def fitsE (p : Pic) (f : Fnd) (start : Int) : Int := if picB p then (if argB p f start then (if (fitsL p f start).any (fun l => l.isEmpty) then 6 else 0) else 2) else 90
def fitsV (p : Pic) (f : Fnd) (start : Int) : List (List Int) := if fitsE p f start = 0 then fitsL p f start else []
def memI (l : List Int) (x : Int) : Bool := l.any fun y => decide (y = x)
def allowGo (L : List (List Int)) (steps n : Nat) (ph all : Int) : Nat → Nat → Bool
 | 0, _ => true
 | fuel + 1, j => if j < L.length then memI (L.getD j []) (ph % (steps : Int)) && allowGo L steps n (ph + all) all fuel (j + n) else true
def allowB (L : List (List Int)) (steps n : Nat) (r : Nat) (ph all : Int) : Bool := allowGo L steps n ph all L.length r
def shiftAt (L : List (List Int)) (steps n r : Nat) (ph all : Int) : Option Nat := (List.range steps).find? fun s => allowB L steps n r (ph + (s : Int)) all
def shiftsGo (L : List (List Int)) (steps n : Nat) (all : Int) : Nat → Nat → Int → List Int → Option (List Int × Int)
 | 0, _, ph, out => some (out, ph)
 | k + 1, r, ph, out => match shiftAt L steps n r ph all with
  | none => none
  | some s => shiftsGo L steps n all k (r + 1) (ph + (s : Int)) (out ++ [(s : Int)])
def listedL (L : List (List Int)) (steps n : Nat) (first all : Int) : Option (List Int) :=
 if allowB L steps n 0 first all then (match shiftsGo L steps n all (n - 1) 1 first [] with
  | none => none
  | some (out, ph) => some (out ++ [(all - (ph - first)) % (steps : Int)])) else none
def lessL : List Int → List Int → Bool
 | a :: l, b :: m => if a = b then lessL l m else decide (a < b)
 | _, _ => false
def betterL (best : Option (List Int)) (x : Option (List Int)) : Option (List Int) := match x, best with
 | none, b => b
 | some l, none => some l
 | some l, some b => if lessL l b then some l else some b
def bestL (L : List (List Int)) (steps n : Nat) (first : Int) : Option (List Int) := (List.range steps).foldl (fun b (all : Nat) => betterL b (listedL L steps n first (all : Int))) none
def firstSome {α : Type} (f : Nat → Option α) : List Nat → Option α
 | [] => none
 | k :: l => match f k with
  | some x => some x
  | none => firstSome f l
def simpleL (L : List (List Int)) (steps : Nat) : Option (Nat × List Int) := firstSome (fun n => firstSome (fun first => (bestL L steps (n + 1) (first : Int)).map fun l => (first, l)) (List.range steps)) (List.range 12)
theorem shiftsGo_length (L : List (List Int)) (steps n : Nat) (all : Int) : ∀ (k r : Nat) (ph : Int) (out l : List Int) (q : Int), shiftsGo L steps n all k r ph out = some (l, q) → l.length = out.length + k
 | 0, r, ph, out, l, q, h => by injection h with h; injection h with h1 h2; rw [← h1]; rfl
 | k + 1, r, ph, out, l, q, h => by
  unfold shiftsGo at h
  split at h
  ·cases h
  ·have := shiftsGo_length L steps n all k (r + 1) _ _ l q h
   rw [this, List.length_append]; simp; omega
theorem listedL_length {L : List (List Int)} {steps n : Nat} {first all : Int} {l : List Int} (hn : 0 < n) (h : listedL L steps n first all = some l) : l.length = n := by
 unfold listedL at h
 split at h
 ·split at h
  ·cases h
  ·rename_i out ph hs
   injection h with h
   have := shiftsGo_length _ _ _ _ _ _ _ _ _ _ hs
   rw [← h, List.length_append, this]; simp; omega
 ·cases h
theorem allowGo_mod (L : List (List Int)) (steps n : Nat) (all : Int) : ∀ (fuel j : Nat) (ph ph' : Int), ph % (steps : Int) = ph' % (steps : Int) → allowGo L steps n ph all fuel j = allowGo L steps n ph' all fuel j
 | 0, _, _, _, _ => rfl
 | fuel + 1, j, ph, ph', h => by
  unfold allowGo
  rw [h, allowGo_mod L steps n all fuel (j + n) (ph + all) (ph' + all) (by rw [Int.add_emod, h, ← Int.add_emod])]
theorem allowB_mod {L : List (List Int)} {steps n r : Nat} {all ph ph' : Int} (h : ph % (steps : Int) = ph' % (steps : Int)) : allowB L steps n r ph all = allowB L steps n r ph' all := allowGo_mod _ _ _ _ _ _ _ _ h
theorem allowGo_fuel (L : List (List Int)) (steps n : Nat) (all : Int) (hn : 0 < n) : ∀ (f g j : Nat) (ph : Int), L.length ≤ j + f → L.length ≤ j + g → allowGo L steps n ph all f j = allowGo L steps n ph all g j
 | 0, 0, _, _, _, _ => rfl
 | 0, g + 1, j, ph, h, _ => by unfold allowGo; rw [if_neg (by omega)]
 | f + 1, 0, j, ph, _, h => by unfold allowGo; rw [if_neg (by omega)]
 | f + 1, g + 1, j, ph, h, k => by
  unfold allowGo
  by_cases hj : j < L.length
  ·rw [if_pos hj, if_pos hj, allowGo_fuel L steps n all hn f g (j + n) (ph + all) (by omega) (by omega)]
  ·rw [if_neg hj, if_neg hj]
theorem allowB_step {L : List (List Int)} {steps n : Nat} {all : Int} (hn : 0 < n) (r : Nat) (ph : Int) : allowB L steps n r ph all = if r < L.length then memI (L.getD r []) (ph % (steps : Int)) && allowB L steps n (r + n) (ph + all) all else true := by
 unfold allowB
 rw [allowGo_fuel L steps n all hn L.length (L.length + 1) r ph (by omega) (by omega)]
 rfl
end Go.Proofs.YtphdalgaemefoaaGreat
namespace Go.Proofs.YtphdalgaemefoaaGreat
set_option maxRecDepth 100000
set_option linter.unusedVariables false
def subR (rds : List Rd) (l : List Int) : List Rd := l.map fun i => rds.getD i.toNat default
theorem subR_mem {rds : List Rd} {l : List Int} (h : ∀ i ∈ l, 0 ≤ i ∧ i < (rds.length : Int)) : ∀ r ∈ subR rds l, r ∈ rds := by
 intro r hr
 obtain ⟨i, hi, rfl⟩ := List.mem_map.1 hr
 obtain ⟨h0, h1⟩ := h i hi
 have hlt : i.toNat < rds.length := by omega
 rw [List.getD_eq_getElem?_getD, List.getElem?_eq_getElem hlt]
 exact List.getElem_mem hlt
def Pic.with (p : Pic) (rds : List Rd) : Pic := { p with rds := rds }
def anyB (p : Pic) : Bool := (List.range p.hs.length).any fun h => (upTo p.tl p.th).any fun t => (upTo p.al p.ah).any fun a => !(fitL p.rds (p.lift h) t a).isEmpty
theorem anyB_iff {p : Pic} : anyB p = true ↔ foundL p ≠ [] := by
 unfold anyB foundL
 simp only [List.any_eq_true, ne_eq, List.flatMap_eq_nil_iff, Classical.not_forall, exists_prop, foundA, List.map_eq_nil_iff, Bool.not_eq_true', List.isEmpty_eq_false_iff]
def someP (p : Pic) (l : List Int) : Bool := anyB (p.with (subR p.rds l))
def idxL (n : Nat) : List Int := (List.range n).map fun (k : Nat) => (k : Int)
def confGo (p : Pic) : Nat → List Int → List Int
 | 0, l => l
 | k + 1, l => confGo p k (if someP p (l.eraseIdx k) then l else l.eraseIdx k)
def confE (p : Pic) : Int := if picB p then (if someP p (idxL p.rds.length) then 6 else 0) else 90
def confL (p : Pic) : List Int := if confE p = 0 then confGo p p.rds.length (idxL p.rds.length) else []
def riseB (n : Int) : Int → List Int → Bool
 | _, [] => true
 | last, i :: l => decide (last < i) && (decide (i < n) && riseB n i l)
theorem riseB_mem {n : Int} : ∀ {l : List Int} {last : Int}, riseB n last l = true → ∀ i ∈ l, last < i ∧ i < n
 | [], _, _, i, hi => by cases hi
 | a :: l, last, h, i, hi => by
  unfold riseB at h
  simp only [Bool.and_eq_true, decide_eq_true_eq] at h
  rcases List.mem_cons.1 hi with rfl | hi
  ·exact ⟨h.1, h.2.1⟩
  ·have := riseB_mem h.2.2 i hi
   omega
theorem riseB_length {n : Int} : ∀ {l : List Int} {last : Int}, -1 ≤ last → riseB n last l = true → (l.length : Int) ≤ n - 1 - last ∨ l = []
 | [], _, _, _ => .inr rfl
 | a :: l, last, h0, h => by
  unfold riseB at h
  simp only [Bool.and_eq_true, decide_eq_true_eq] at h
  rcases riseB_length (last := a) (by omega) h.2.2 with h1 | rfl
  ·left; simp only [List.length_cons]; omega
  ·left; simp only [List.length_cons, List.length_nil]; omega
def ccE (p : Pic) (l : List Int) : Int := if picB p then (if riseB p.rds.length (-1) l then (if someP p l then 8 else if (List.range l.length).all (fun k => someP p (l.eraseIdx k)) then 0 else 8) else 8) else 90
theorem eraseIdx_split (l : List Int) (k : Nat) : l.eraseIdx k = l.take k ++ l.drop (k + 1) := List.eraseIdx_eq_take_drop_succ l k
end Go.Proofs.YtphdalgaemefoaaGreat
namespace Go.Proofs.YtphdalgaemefoaaGreat
set_option maxRecDepth 100000
set_option linter.unusedVariables false
def okR (lift : List Int) (throw adv cut : Int) (ph : Nat) (x : Int) (r : Rd) : Bool := decide (r.cut ≠ cut) || (decide (r.lo ≤ x + (cut * adv + throw * hAt lift r ph)) && decide (x + (cut * adv + throw * hAt lift r ph) ≤ r.hi))
def okA (rds : List Rd) (lift : List Int) (throw adv cut : Int) (ph : Nat) (x : Int) (k : Nat) : Bool := (rds.take k).all (okR lift throw adv cut ph x)
def okP (rds : List Rd) (lift : List Int) (throw adv cut : Int) (x : Int) (k : Nat) : Bool := (List.range k).any fun ph => okA rds lift throw adv cut ph x rds.length
theorem okA_zero (rds : List Rd) (lift : List Int) (throw adv cut : Int) (ph : Nat) (x : Int) : okA rds lift throw adv cut ph x 0 = true := rfl
theorem okA_succ {rds : List Rd} {lift : List Int} {throw adv cut : Int} {ph : Nat} {x : Int} {k : Nat} (h : k < rds.length) : okA rds lift throw adv cut ph x (k + 1) = (okA rds lift throw adv cut ph x k && okR lift throw adv cut ph x rds[k]) := by
 unfold okA
 rw [List.take_succ_eq_append_getElem h, List.all_append]
 simp
theorem okP_zero (rds : List Rd) (lift : List Int) (throw adv cut : Int) (x : Int) : okP rds lift throw adv cut x 0 = false := rfl
theorem okP_succ (rds : List Rd) (lift : List Int) (throw adv cut : Int) (x : Int) (k : Nat) : okP rds lift throw adv cut x (k + 1) = (okP rds lift throw adv cut x k || okA rds lift throw adv cut k x rds.length) := by
 unfold okP
 rw [List.range_succ, List.any_append]
 simp
theorem fitAt_iff {rds : List Rd} {lift : List Int} {throw adv cut : Int} {ph : Nat} {x : Int} : FitAt rds lift throw adv cut ph x ↔ okA rds lift throw adv cut ph x rds.length = true := by
 unfold FitAt okA okR
 rw [List.take_length, List.all_eq_true]
 constructor
 ·intro h r hr
  have := h r hr
  by_cases e : r.cut = cut
  ·obtain ⟨h1, h2⟩ := this e
   simp [h1, h2]
  ·simp [e]
 ·intro h r hr e
  have := h r hr
  simp only [e, ne_eq, not_true_eq_false, decide_false, Bool.false_or, Bool.and_eq_true, decide_eq_true_eq] at this
  exact this
theorem allFit_iff {rds : List Rd} {lift : List Int} {throw adv x : Int} : AllFit rds lift throw adv x ↔ ∀ cut : Nat, cut < 12 → okP rds lift throw adv (cut : Int) x lift.length = true := by
 unfold AllFit okP
 constructor
 ·intro h cut hc
  obtain ⟨ph, h1, h2⟩ := h cut hc
  exact List.any_eq_true.2 ⟨ph, List.mem_range.2 h1, fitAt_iff.1 h2⟩
 ·intro h cut hc
  obtain ⟨ph, h1, h2⟩ := List.any_eq_true.1 (h cut hc)
  exact ⟨ph, List.mem_range.1 h1, fitAt_iff.2 h2⟩
end Go.Proofs.YtphdalgaemefoaaGreat

/-
  Texts in order, on: the merge of two rising rows; a text put into its place; ranks; those between two; those that begin so. Plain laws. No condition.
-/
import Derived.Test.YtcabmibcgedhhaaStrO
namespace Go.Cd

/-- In which of two lists a text is: 1 the first, 2 the second, 3 both. -/
def kd (a b : List Txt) (x : Txt) : Nat := (if x ∈ a then 1 else 0) + (if x ∈ b then 2 else 0)
theorem kd_congr {a b a' b' : List Txt} {x : Txt} (h1 : x ∈ a ↔ x ∈ a') (h2 : x ∈ b ↔ x ∈ b') : kd a b x = kd a' b' x := by
  unfold kd; simp only [h1, h2]

def opt (p : Bool) (x : Txt) (l : List Txt) : List Txt := if p then x :: l else l
theorem mem_opt {p : Bool} {x z : Txt} {l : List Txt} : z ∈ opt p x l ↔ (p = true ∧ z = x) ∨ z ∈ l := by
  cases p <;> simp [opt]
theorem inc_opt {p : Bool} {x : Txt} {l : List Txt} (h : inc l) (hx : ∀ y ∈ l, x < y) : inc (opt p x l) := by
  cases p
  · simpa [opt] using h
  · simpa [opt] using inc_cons.2 ⟨hx, h⟩

/-- The merge as the code has it: 1, 2, 3 for the left, the right, both. -/
def mg (k : List Nat) : List Txt → List Txt → List Txt
  | [], [] => []
  | x :: a, [] => opt (k.contains 1) x (mg k a [])
  | [], y :: b => opt (k.contains 2) y (mg k [] b)
  | x :: a, y :: b =>
    if x < y then opt (k.contains 1) x (mg k a (y :: b))
    else if y < x then opt (k.contains 2) y (mg k (x :: a) b)
    else opt (k.contains 3) y (mg k a b)
termination_by a b => a.length + b.length

def MgS (k : List Nat) (a b m : List Txt) : Prop := inc m ∧ ∀ x, x ∈ m ↔ (x ∈ a ∨ x ∈ b) ∧ kd a b x ∈ k

theorem mg_step {k : List Nat} {A B A' B' m : List Txt} {z : Txt} {c : Nat} (hm : MgS k A B m) (h1 : ∀ y ∈ A, z < y) (h2 : ∀ y ∈ B, z < y)
    (e1 : ∀ y, y ≠ z → (y ∈ A' ↔ y ∈ A)) (e2 : ∀ y, y ≠ z → (y ∈ B' ↔ y ∈ B)) (hz : z ∈ A' ∨ z ∈ B') (hc : kd A' B' z = c) :
    MgS k A' B' (opt (k.contains c) z m) := by
  obtain ⟨hi, hx⟩ := hm
  refine ⟨inc_opt hi fun y hy => ((hx y).1 hy).1.elim (h1 y) (h2 y), fun y => ?_⟩
  rw [mem_opt]
  by_cases hy : y = z
  · subst hy
    have hn : y ∉ m := fun h => ((hx y).1 h).1.elim (fun h => List.lt_irrefl _ (h1 y h)) (fun h => List.lt_irrefl _ (h2 y h))
    rw [hc, List.contains_iff_mem]
    constructor
    · rintro (⟨h, _⟩ | h)
      · exact ⟨hz, h⟩
      · exact absurd h hn
    · rintro ⟨_, h⟩; exact .inl ⟨h, rfl⟩
  · rw [kd_congr (e1 y hy) (e2 y hy), e1 y hy, e2 y hy, hx]
    constructor
    · rintro (⟨_, h⟩ | h)
      · exact absurd h hy
      · exact h
    · exact .inr

theorem mem_cons_ne {x y : Txt} {l : List Txt} (h : y ≠ x) : y ∈ x :: l ↔ y ∈ l := by
  rw [List.mem_cons]; exact ⟨fun h' => h'.resolve_left h, .inr⟩

theorem mg_spec (k : List Nat) : ∀ a b : List Txt, inc a → inc b → MgS k a b (mg k a b)
  | [], [], _, _ => by
    unfold mg
    exact ⟨by simp [inc], fun x => by simp⟩
  | x :: a, [], ha, hb => by
    obtain ⟨h1, h2⟩ := inc_cons.1 ha
    have hx : x ∉ a := fun h => List.lt_irrefl _ (h1 x h)
    unfold mg
    exact mg_step (mg_spec k a [] h2 hb) h1 (by simp) (fun y hy => mem_cons_ne hy) (fun _ _ => Iff.rfl) (.inl (by simp)) (by simp [kd])
  | [], y :: b, ha, hb => by
    obtain ⟨h1, h2⟩ := inc_cons.1 hb
    unfold mg
    exact mg_step (mg_spec k [] b ha h2) (by simp) h1 (fun _ _ => Iff.rfl) (fun z hz => mem_cons_ne hz) (.inr (by simp)) (by simp [kd])
  | x :: a, y :: b, ha, hb => by
    obtain ⟨h1, h2⟩ := inc_cons.1 ha
    obtain ⟨h3, h4⟩ := inc_cons.1 hb
    unfold mg
    by_cases hxy : x < y
    · rw [if_pos hxy]
      have hby : ∀ z ∈ y :: b, x < z := by
        intro z hz
        rcases List.mem_cons.1 hz with rfl | hz
        · exact hxy
        · exact List.lt_trans hxy (h3 z hz)
      have hn : x ∉ y :: b := fun h => List.lt_irrefl _ (hby x h)
      exact mg_step (mg_spec k a (y :: b) h2 hb) h1 hby (fun z hz => mem_cons_ne hz) (fun _ _ => Iff.rfl) (.inl (by simp)) (by simp [kd, -List.mem_cons, hn]; simp)
    · rw [if_neg hxy]
      by_cases hyx : y < x
      · rw [if_pos hyx]
        have hax : ∀ z ∈ x :: a, y < z := by
          intro z hz
          rcases List.mem_cons.1 hz with rfl | hz
          · exact hyx
          · exact List.lt_trans hyx (h1 z hz)
        have hn : y ∉ x :: a := fun h => List.lt_irrefl _ (hax y h)
        exact mg_step (mg_spec k (x :: a) b ha h4) hax h3 (fun _ _ => Iff.rfl) (fun z hz => mem_cons_ne hz) (.inr (by simp)) (by simp [kd, -List.mem_cons, hn]; simp)
      · rw [if_neg hyx]
        have : x = y := List.le_antisymm (List.not_lt.1 hyx) (List.not_lt.1 hxy)
        subst this
        exact mg_step (mg_spec k a b h2 h4) h1 h3 (fun z hz => mem_cons_ne hz) (fun z hz => mem_cons_ne hz) (.inl (by simp)) (by simp [kd])
termination_by a b => a.length + b.length

/-- A text put into its place. -/
def ins (s : Txt) : List Txt → List Txt
  | [] => [s]
  | t :: l => if s < t then s :: t :: l else t :: ins s l
theorem mem_ins {s x : Txt} : ∀ {l : List Txt}, x ∈ ins s l ↔ x = s ∨ x ∈ l
  | [] => by simp [ins]
  | t :: l => by
    unfold ins
    split
    · simp
    · rw [List.mem_cons, mem_ins, List.mem_cons]
      constructor
      · rintro (h | h | h) <;> simp [h]
      · rintro (h | h | h) <;> simp [h]
theorem length_ins {s : Txt} : ∀ {l : List Txt}, (ins s l).length = l.length + 1
  | [] => rfl
  | t :: l => by
    unfold ins
    split
    · rfl
    · rw [List.length_cons, length_ins, List.length_cons]
theorem inc_ins {s : Txt} : ∀ {l : List Txt}, inc l → s ∉ l → inc (ins s l)
  | [], _, _ => by simp [ins, inc]
  | t :: l, h, hs => by
    obtain ⟨h1, h2⟩ := inc_cons.1 h
    unfold ins
    by_cases hst : s < t
    · rw [if_pos hst]
      refine inc_cons.2 ⟨fun y hy => ?_, h⟩
      rcases List.mem_cons.1 hy with rfl | hy
      · exact hst
      · exact List.lt_trans hst (h1 y hy)
    · rw [if_neg hst]
      refine inc_cons.2 ⟨fun y hy => ?_, inc_ins h2 fun h => hs (List.mem_cons_of_mem _ h)⟩
      rcases mem_ins.1 hy with rfl | hy
      · rcases tri y t with h | h | h
        · exact absurd h hst
        · exact absurd (h ▸ List.mem_cons_self) hs
        · exact h
      · exact h1 y hy

/-- How many of a rising row are less. -/
def rank (l : List Txt) (x : Txt) : Nat := l.countP fun y => decide (y < x)

theorem rank_le (l : List Txt) (x : Txt) : rank l x ≤ l.length := List.countP_le_length
theorem rank_split : ∀ (l : List Txt) (x : Txt), inc l → ∃ p q, l = p ++ q ∧ p.length = rank l x ∧ (∀ y ∈ p, y < x) ∧ (∀ y ∈ q, ¬ y < x)
  | [], _, _ => ⟨[], [], rfl, rfl, by simp, by simp⟩
  | a :: l, x, h => by
    obtain ⟨h1, h2⟩ := inc_cons.1 h
    by_cases hax : a < x
    · obtain ⟨p, q, e, hp, h3, h4⟩ := rank_split l x h2
      refine ⟨a :: p, q, by rw [e]; rfl, ?_, ?_, h4⟩
      · have : rank (a :: l) x = rank l x + 1 := List.countP_cons_of_pos (by simpa using hax)
        rw [this, ← hp]; rfl
      · intro y hy
        rcases List.mem_cons.1 hy with rfl | hy
        · exact hax
        · exact h3 y hy
    · refine ⟨[], a :: l, rfl, ?_, by simp, ?_⟩
      · have hall : ∀ y ∈ a :: l, ¬ y < x := by
          intro y hy
          rcases List.mem_cons.1 hy with rfl | hy
          · exact hax
          · exact fun hyx => hax (List.lt_trans (h1 y hy) hyx)
        unfold rank
        rw [List.countP_eq_zero.2 (fun y hy => by simpa using hall y hy)]; rfl
      · intro y hy
        rcases List.mem_cons.1 hy with rfl | hy
        · exact hax
        · exact fun hyx => hax (List.lt_trans (h1 y hy) hyx)
/-- A text that is in a rising row stands at its rank. -/
theorem rank_at {l : List Txt} {x : Txt} (h : inc l) : l[rank l x]? = some x ↔ x ∈ l := by
  obtain ⟨p, q, e, hp, h1, h2⟩ := rank_split l x h
  constructor
  · intro hx; exact List.mem_of_getElem? hx
  · intro hx
    rw [← hp]
    have hq : x ∈ q := by
      rw [e] at hx
      rcases List.mem_append.1 hx with hx | hx
      · exact absurd (h1 x hx) (List.lt_irrefl _)
      · exact hx
    rw [e, List.getElem?_append_right (Nat.le_refl _), Nat.sub_self]
    rw [e] at h
    obtain ⟨_, h4, _⟩ := inc_append.1 h
    cases q with
    | nil => simp at hq
    | cons y q =>
      rcases List.mem_cons.1 hq with rfl | hq
      · rfl
      · exact absurd ((inc_cons.1 h4).1 x hq) (h2 y (by simp))
theorem inc_at {l : List Txt} (h : inc l) {i j : Nat} (hij : i < j) (hj : j < l.length) : l[i] < l[j] := List.pairwise_iff_getElem.1 h i j (by omega) hj hij
theorem inc_inj {l : List Txt} (h : inc l) {i j : Nat} (hi : i < l.length) (hj : j < l.length) (e : l[i] = l[j]) : i = j := by
  rcases Nat.lt_trichotomy i j with hij | hij | hij
  · have := inc_at h hij hj; rw [e] at this; exact absurd this (List.lt_irrefl _)
  · exact hij
  · have := inc_at h hij hi; rw [e] at this; exact absurd this (List.lt_irrefl _)
theorem rank_getElem {l : List Txt} (h : inc l) {i : Nat} (hi : i < l.length) : rank l l[i] = i := by
  have h1 := (rank_at h).2 (List.getElem_mem hi)
  obtain ⟨h2, h3⟩ := List.getElem?_eq_some_iff.1 h1
  exact inc_inj h h2 hi h3

theorem inc_filter {l : List Txt} (p : Txt → Bool) (h : inc l) : inc (l.filter p) := List.Pairwise.filter p h
theorem take_rank {l : List Txt} (x : Txt) (h : inc l) : l.take (rank l x) = l.filter fun y => decide (y < x) := by
  obtain ⟨p, q, e, hp, h1, h2⟩ := rank_split l x h
  rw [← hp, e, List.take_left', List.filter_append, List.filter_eq_self.2 (fun y hy => by simpa using h1 y hy), List.filter_eq_nil_iff.2 (fun y hy => by simpa using h2 y hy), List.append_nil]
  rfl
theorem drop_rank {l : List Txt} (x : Txt) (h : inc l) : l.drop (rank l x) = l.filter fun y => !decide (y < x) := by
  obtain ⟨p, q, e, hp, h1, h2⟩ := rank_split l x h
  rw [← hp, e, List.drop_left', List.filter_append, List.filter_eq_nil_iff.2 (fun y hy => by simpa using h1 y hy), List.filter_eq_self.2 (fun y hy => by simpa using h2 y hy), List.nil_append]
  rfl
theorem rank_mono (l : List Txt) {x y : Txt} (h : ¬ y < x) : rank l x ≤ rank l y := by
  refine List.countP_mono_left fun z _ hz => ?_
  simp only [decide_eq_true_eq] at hz ⊢
  rcases tri x y with h' | h' | h'
  · exact List.lt_trans hz h'
  · exact h' ▸ hz
  · exact absurd h' h
theorem rank_two (l : List Txt) (x y : Txt) : rank (l.filter fun z => decide (z < y)) x = min (rank l x) (rank l y) := by
  have e : rank (l.filter fun z => decide (z < y)) x = l.countP fun z => decide (z < x) && decide (z < y) := by
    unfold rank; rw [List.countP_filter]
  rw [e]
  by_cases h : y < x
  · rw [Nat.min_eq_right (rank_mono l (fun h' => List.lt_irrefl _ (List.lt_trans h h')))]
    unfold rank
    refine List.countP_congr fun z _ => ?_
    simp only [Bool.and_eq_true, decide_eq_true_eq]
    exact ⟨fun h' => h'.2, fun h' => ⟨List.lt_trans h' h, h'⟩⟩
  · rw [Nat.min_eq_left (rank_mono l h)]
    unfold rank
    refine List.countP_congr fun z _ => ?_
    simp only [Bool.and_eq_true, decide_eq_true_eq]
    refine ⟨fun h' => h'.1, fun h' => ⟨h', ?_⟩⟩
    rcases tri x y with h2 | h2 | h2
    · exact List.lt_trans h' h2
    · exact h2 ▸ h'
    · exact absurd h2 h
/-- Those between two. -/
theorem between {l : List Txt} (f t : Txt) (h : inc l) : (l.take (rank l t)).drop (min (rank l f) (rank l t)) = l.filter fun z => !decide (z < f) && decide (z < t) := by
  rw [take_rank t h, ← rank_two, drop_rank f (inc_filter _ h), List.filter_filter]

/-- A text ahead of another one begins it: so the other one is not less. -/
theorem pre_le : ∀ {x y : Txt}, x.isPrefixOf y = true → ¬ y < x
  | [], y, _ => by simp
  | a :: x, [], h => by simp [List.isPrefixOf] at h
  | a :: x, b :: y, h => by
    simp only [List.isPrefixOf, Bool.and_eq_true, beq_iff_eq] at h
    obtain ⟨rfl, h⟩ := h
    rw [List.cons_lt_cons_iff]
    rintro (h' | ⟨_, h'⟩)
    · exact UInt8.lt_irrefl _ h'
    · exact pre_le h h'
theorem pre_mid : ∀ {x y z : Txt}, ¬ y < x → y < z → x.isPrefixOf z = true → x.isPrefixOf y = true
  | [], _, _, _, _, _ => by simp [List.isPrefixOf]
  | a :: x, _, [], _, _, h => by simp [List.isPrefixOf] at h
  | a :: x, [], _ :: _, h, _, _ => by simp at h
  | a :: x, b :: y, c :: z, h1, h2, h => by
    simp only [List.isPrefixOf, Bool.and_eq_true, beq_iff_eq] at h
    obtain ⟨rfl, h⟩ := h
    rw [List.cons_lt_cons_iff] at h1 h2
    have hab : a = b := by
      rcases h2 with h2 | ⟨h2, _⟩
      · exact absurd (.inl h2) h1
      · exact h2.symm
    subst hab
    have h3 : ¬ y < x := fun h' => h1 (.inr ⟨rfl, h'⟩)
    have h4 : y < z := by
      rcases h2 with h2 | ⟨_, h2⟩
      · exact absurd h2 (UInt8.lt_irrefl _)
      · exact h2
    simp [List.isPrefixOf, pre_mid h3 h4 h]
theorem begin_ge {x : Txt} : ∀ {l : List Txt}, inc l → (∀ y ∈ l, ¬ y < x) → l.takeWhile (x.isPrefixOf ·) = l.filter (x.isPrefixOf ·)
  | [], _, _ => rfl
  | y :: l, h, hx => by
    obtain ⟨h1, h2⟩ := inc_cons.1 h
    by_cases hp : x.isPrefixOf y = true
    · rw [List.takeWhile_cons_of_pos hp, List.filter_cons_of_pos hp, begin_ge h2 fun z hz => hx z (List.mem_cons_of_mem _ hz)]
    · rw [List.takeWhile_cons_of_neg hp, List.filter_cons_of_neg hp]
      symm
      refine List.filter_eq_nil_iff.2 fun z hz hpz => hp ?_
      exact pre_mid (hx y List.mem_cons_self) (h1 z hz) hpz
/-- Those that begin so. -/
theorem begin_law {l : List Txt} (x : Txt) (h : inc l) : (l.drop (rank l x)).takeWhile (x.isPrefixOf ·) = l.filter (x.isPrefixOf ·) := by
  rw [drop_rank x h, begin_ge (inc_filter _ h) (fun y hy => by simpa using (List.mem_filter.1 hy).2), List.filter_filter]
  refine List.filter_congr fun y _ => ?_
  by_cases hp : x.isPrefixOf y = true
  · simp [hp, pre_le hp]
  · simp [hp]
/-- 'len(y) >= len(x) and y[:len(x)] == x' -/
theorem pre_take {x y : Txt} : x.isPrefixOf y = true ↔ x.length ≤ y.length ∧ y.take x.length = x := by
  rw [List.isPrefixOf_iff_prefix]
  constructor
  · rintro ⟨s, rfl⟩; simp
  · rintro ⟨_, h⟩
    have e := List.take_append_drop x.length y
    rw [h] at e
    exact ⟨_, e⟩
end Go.Cd

/-
  The document's list of two lists (ref.Sorted): what its loops keep. Plain laws. No condition.
-/
import Derived.Test.YtcabmibcgedhhaaStrP
namespace Go.Cd

/-- What is listed after i of the texts c. -/
def SoS (k : List Nat) (a b : List Txt) (c : List Txt) (i : Nat) (m : List Txt) : Prop := inc m ∧ m.length ≤ i ∧ ∀ x, x ∈ m ↔ x ∈ c.take i ∧ kd a b x ∈ k
theorem so_start (k : List Nat) (a b c : List Txt) : SoS k a b c 0 [] := ⟨by simp [inc], Nat.le_refl _, fun x => by simp⟩
theorem mem_take_succ {c : List Txt} {i : Nat} (hi : i < c.length) {x : Txt} : x ∈ c.take (i + 1) ↔ x ∈ c.take i ∨ x = c[i] := by
  rw [List.take_succ_eq_append_getElem hi, List.mem_append, List.mem_singleton]
theorem so_skip {k : List Nat} {a b c : List Txt} {i : Nat} {m : List Txt} (h : SoS k a b c i m) (hi : i < c.length) (hs : kd a b c[i] ∉ k ∨ c[i] ∈ m) : SoS k a b c (i + 1) m := by
  obtain ⟨h1, h2, h3⟩ := h
  refine ⟨h1, by omega, fun x => ?_⟩
  rw [h3, mem_take_succ hi]
  constructor
  · rintro ⟨h, h'⟩; exact ⟨.inl h, h'⟩
  · rintro ⟨h | rfl, h'⟩
    · exact ⟨h, h'⟩
    · rcases hs with hs | hs
      · exact absurd h' hs
      · exact (h3 _).1 hs
theorem so_put {k : List Nat} {a b c : List Txt} {i : Nat} {m : List Txt} (h : SoS k a b c i m) (hi : i < c.length) (hk : kd a b c[i] ∈ k) (hs : c[i] ∉ m) : SoS k a b c (i + 1) (ins c[i] m) := by
  obtain ⟨h1, h2, h3⟩ := h
  refine ⟨inc_ins h1 hs, by rw [length_ins]; omega, fun x => ?_⟩
  rw [mem_ins, h3, mem_take_succ hi]
  constructor
  · rintro (rfl | ⟨h, h'⟩)
    · exact ⟨.inr rfl, hk⟩
    · exact ⟨.inl h, h'⟩
  · rintro ⟨h | rfl, h'⟩
    · exact .inr ⟨h, h'⟩
    · exact .inl rfl
theorem so_end {k : List Nat} {a b : List Txt} {m : List Txt} (h : SoS k a b (a ++ b) (a ++ b).length m) : MgS k a b m := by
  obtain ⟨h1, _, h3⟩ := h
  refine ⟨h1, fun x => ?_⟩
  rw [h3, List.take_length, List.mem_append]

theorem ins_cons (s t : Txt) (l : List Txt) : ins s (t :: l) = if s < t then s :: t :: l else t :: ins s l := rfl
/-- What is written after j of the texts m: s is among it once it is done. -/
def InS (s : Txt) (m : List Txt) (j : Nat) (done : Bool) (next : List Txt) : Prop := next ++ (if done then m.drop j else ins s (m.drop j)) = ins s m
theorem in_start (s : Txt) (m : List Txt) : InS s m 0 false [] := by simp [InS]
theorem in_len {s : Txt} {m : List Txt} {j : Nat} {done : Bool} {next : List Txt} (h : InS s m j done next) : next.length ≤ m.length + 1 := by
  have := congrArg List.length h
  rw [length_ins, List.length_append] at this
  omega
theorem in_done {s : Txt} {m : List Txt} {j : Nat} {next : List Txt} (h : InS s m j true next) (hj : j < m.length) : InS s m (j + 1) true (next ++ [m[j]]) := by
  unfold InS at h ⊢
  rw [if_pos rfl] at h ⊢
  rw [← h, List.drop_eq_getElem_cons hj]
  simp
theorem in_put {s : Txt} {m : List Txt} {j : Nat} {next : List Txt} (h : InS s m j false next) (hj : j < m.length) (hs : s < m[j]) : InS s m (j + 1) true (next ++ [s] ++ [m[j]]) := by
  unfold InS at h ⊢
  rw [if_neg (by decide), List.drop_eq_getElem_cons hj] at h
  rw [ins_cons, if_pos hs] at h
  rw [if_pos rfl, ← h]
  simp
theorem in_skip {s : Txt} {m : List Txt} {j : Nat} {next : List Txt} (h : InS s m j false next) (hj : j < m.length) (hs : ¬ s < m[j]) : InS s m (j + 1) false (next ++ [m[j]]) := by
  unfold InS at h ⊢
  rw [if_neg (by decide), List.drop_eq_getElem_cons hj] at h
  rw [ins_cons, if_neg hs] at h
  rw [if_neg (by decide), ← h]
  simp
theorem in_end {s : Txt} {m next : List Txt} (h : InS s m m.length true next) : next = ins s m := by
  unfold InS at h
  rw [if_pos rfl, List.drop_length, List.append_nil] at h
  exact h
theorem in_end' {s : Txt} {m next : List Txt} (h : InS s m m.length false next) : next ++ [s] = ins s m := by
  unfold InS at h
  rw [if_neg (by decide), List.drop_length] at h
  exact h

/-- Two that hold the same, rising, are one. -/
theorem mgs_eq {k : List Nat} {a b m n : List Txt} (h : MgS k a b m) (h' : MgS k a b n) : m = n := inc_ext _ _ h.1 h'.1 fun x => (h.2 x).trans (h'.2 x).symm
/-- Sets and the lists that they were made of have the same kinds. -/
theorem mgs_of {k : List Nat} {a b a' b' m : List Txt} (h : MgS k a b m) (ha : ∀ x, x ∈ a ↔ x ∈ a') (hb : ∀ x, x ∈ b ↔ x ∈ b') : MgS k a' b' m := by
  refine ⟨h.1, fun x => ?_⟩
  rw [h.2, kd_congr (ha x) (hb x), ha, hb]
/-- Of one list alone. -/
theorem mgs_one {a m : List Txt} (h : MgS [1] a [] m) : ∀ x, x ∈ m ↔ x ∈ a := by
  intro x
  rw [h.2]
  constructor
  · rintro ⟨h | h, _⟩
    · exact h
    · simp at h
  · intro h; exact ⟨.inl h, by simp [kd, h]⟩
/-- Nothing is of the first alone: all of it is in the other. -/
theorem mgs_left_nil {a b m : List Txt} (h : MgS [1] a b m) : m = [] ↔ ∀ x ∈ a, x ∈ b := by
  constructor
  · rintro rfl x hx
    by_cases hb : x ∈ b
    · exact hb
    · have := (h.2 x).2 ⟨.inl hx, by simp [kd, hx, hb]⟩
      simp at this
  · intro hab
    refine List.eq_nil_iff_forall_not_mem.2 fun x hx => ?_
    obtain ⟨h1, h2⟩ := (h.2 x).1 hx
    unfold kd at h2
    by_cases ha : x ∈ a
    · simp [ha, hab x ha] at h2
    · by_cases hb : x ∈ b <;> simp [ha, hb] at h2
/-- Nothing is of one alone: they hold the same. -/
theorem mgs_xor_nil {a b m : List Txt} (h : MgS [1, 2] a b m) : m = [] ↔ ∀ x, x ∈ a ↔ x ∈ b := by
  constructor
  · rintro rfl x
    have := h.2 x
    by_cases ha : x ∈ a <;> by_cases hb : x ∈ b <;> simp [kd, ha, hb] at this ⊢
  · intro hab
    refine List.eq_nil_iff_forall_not_mem.2 fun x hx => ?_
    obtain ⟨h1, h2⟩ := (h.2 x).1 hx
    unfold kd at h2
    by_cases ha : x ∈ a
    · simp [ha, (hab x).1 ha] at h2
    · have hb : x ∉ b := fun h => ha ((hab x).2 h)
      simp [ha, hb] at h2
end Go.Cd

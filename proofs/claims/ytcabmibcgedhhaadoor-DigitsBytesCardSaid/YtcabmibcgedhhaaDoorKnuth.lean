/-
  The long division's guess: plain numbers, no program in sight.
-/
namespace Go.Cd

/-- As long as the guess is known to be too great, it is greater than the quotient. -/
theorem kn_over {b P v1 v0 vlo u2 u1 u0 ulo qh r U V : Nat} (hV : V = (v1 * b + v0) * P + vlo) (hU : U = ((u2 * b + u1) * b + u0) * P + ulo) (hulo : ulo < P)
    (heq : qh * v1 + r = u2 * b + u1) (hlt : U < V * b) (h : b ≤ qh ∨ r * b + u0 < qh * v0) : U < qh * V := by
  rcases h with h | h
  · have := Nat.mul_le_mul_left V h
    rw [Nat.mul_comm qh V]; omega
  · have h1 : (u2 * b + u1) * b + u0 + 1 ≤ qh * (v1 * b + v0) := by
      rw [Nat.mul_add, ← Nat.mul_assoc, ← heq, Nat.add_mul]; omega
    have h2 := Nat.mul_le_mul_right P h1
    have h3 : qh * V = qh * (v1 * b + v0) * P + qh * vlo := by rw [hV, Nat.mul_add, Nat.mul_assoc]
    rw [Nat.add_mul, Nat.one_mul] at h2
    omega

/-- The first guess is not too small. -/
theorem kn_first {b P v1 v0 vlo u2 u1 u0 ulo U V : Nat} (hV : V = (v1 * b + v0) * P + vlo) (hU : U = ((u2 * b + u1) * b + u0) * P + ulo) (hulo : ulo < P) (hu0 : u0 < b) (hv1 : 0 < v1) : U / V ≤ (u2 * b + u1) / v1 := by
  have h1 : u2 * b + u1 + 1 ≤ ((u2 * b + u1) / v1 + 1) * v1 := by
    have := Nat.lt_div_mul_add (a := u2 * b + u1) hv1
    rw [Nat.add_mul, Nat.one_mul]; omega
  generalize (u2 * b + u1) / v1 = q0 at *
  generalize u2 * b + u1 = s at *
  refine Nat.lt_succ_iff.1 (Nat.div_lt_of_lt_mul ?_)
  have h2 : (s * b + u0 + 1) * P ≤ (q0 + 1) * v1 * b * P := by
    refine Nat.mul_le_mul_right P ?_
    have := Nat.mul_le_mul_right b h1
    rw [Nat.add_mul, Nat.one_mul] at this
    omega
  have h3 : V * (q0 + 1) = (q0 + 1) * v1 * b * P + (q0 + 1) * (v0 * P + vlo) := by
    rw [hV, Nat.mul_comm, Nat.add_mul (v1 * b) v0 P, Nat.add_assoc, Nat.mul_add (q0 + 1) (v1 * b * P), ← Nat.mul_assoc, ← Nat.mul_assoc]
  rw [Nat.add_mul, Nat.one_mul] at h2
  show U < V * (q0 + 1)
  omega

/-- Where the correction stops the guess is at most one too great, and one word. -/
theorem kn_stop {b P v1 v0 vlo u2 u1 u0 ulo qh r U V : Nat} (hV : V = (v1 * b + v0) * P + vlo) (hU : U = ((u2 * b + u1) * b + u0) * P + ulo) (hvlo : vlo < P) (hv0 : v0 < b) (hu1 : u1 < b) (hv1 : 0 < v1) (hu2 : u2 ≤ v1)
    (heq : qh * v1 + r = u2 * b + u1) (h : ¬ (r < b ∧ (b ≤ qh ∨ r * b + u0 < qh * v0))) : qh < b ∧ qh * V ≤ U + V := by
  have hq : qh < b ∧ qh * v0 ≤ r * b + u0 := by
    by_cases hr : r < b
    · constructor
      · exact Nat.lt_of_not_le fun hh => h ⟨hr, .inl hh⟩
      · exact Nat.le_of_not_lt fun hh => h ⟨hr, .inr hh⟩
    · have h1 := Nat.mul_le_mul_right b hu2
      have h2 : qh * v1 < b * v1 := by rw [Nat.mul_comm b v1]; omega
      have h3 : qh < b := Nat.lt_of_mul_lt_mul_right h2
      refine ⟨h3, ?_⟩
      have h4 : qh * v0 ≤ b * b := Nat.mul_le_mul (by omega) (by omega)
      have h5 := Nat.mul_le_mul_right b (Nat.le_of_not_lt hr)
      omega
  obtain ⟨h1, h2⟩ := hq
  refine ⟨h1, ?_⟩
  have h3 : qh * (v1 * b + v0) ≤ (u2 * b + u1) * b + u0 := by
    rw [Nat.mul_add, ← Nat.mul_assoc, ← heq, Nat.add_mul]; omega
  have h4 := Nat.mul_le_mul_right P h3
  have h5 : qh * V = qh * (v1 * b + v0) * P + qh * vlo := by rw [hV, Nat.mul_add, Nat.mul_assoc]
  have h6 : qh * vlo ≤ b * P := Nat.mul_le_mul (by omega) (by omega)
  have h7 : b * P ≤ V := by
    have : 1 * b * P ≤ v1 * b * P := Nat.mul_le_mul_right P (Nat.mul_le_mul_right b hv1)
    rw [Nat.one_mul] at this
    rw [hV, Nat.add_mul]; omega
  omega

/-- One correction of the guess. -/
theorem kn_dec {v1 qh r top U V : Nat} (heq : qh * v1 + r = top) (h : U < qh * V) : 0 < qh ∧ (qh - 1) * v1 + (r + v1) = top ∧ U / V ≤ qh - 1 := by
  have h0 : 0 < qh := by
    rcases Nat.eq_zero_or_pos qh with h0 | h0
    · rw [h0, Nat.zero_mul] at h; omega
    · exact h0
  obtain ⟨q, rfl⟩ : ∃ q, qh = q + 1 := ⟨qh - 1, by omega⟩
  refine ⟨h0, ?_, ?_⟩
  · rw [Nat.add_mul, Nat.one_mul] at heq
    rw [Nat.add_sub_cancel]; omega
  · rw [Nat.add_sub_cancel]
    exact Nat.lt_succ_iff.1 (Nat.div_lt_of_lt_mul (by rw [Nat.mul_comm]; exact h))

end Go.Cd

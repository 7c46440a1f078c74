/-
  The long division's round: plain numbers, no program in sight.
-/
import Derived.Test.YtcabmibcgedhhaaDoorLong
namespace Go.Proofs.YtcabmibcgedhhaaDoor
open Go.RowKit Go.Cd

theorem corr0 {U V d m : Nat} (hV : 0 < V) (hd : U / V ≤ d) (h : m + d * V = U) : U = d * V + m ∧ m < V := by
  have h1 : d ≤ U / V := (Nat.le_div_iff_mul_le hV).2 (by omega)
  have h2 : d = U / V := by omega
  refine ⟨by omega, ?_⟩
  have h3 := Nat.div_add_mod U V
  have h4 := Nat.mod_lt U hV
  rw [← h2, Nat.mul_comm V d] at h3
  omega

theorem corr1 {U V d m W m2 b2 : Nat} (hVW : V ≤ W) (hd2 : d * V ≤ U + V) (h : m + d * V = U + W) (hm : m < W) (h2 : m2 + b2 * W = m + V) (hm2 : m2 < W) :
    0 < d ∧ U = (d - 1) * V + m2 ∧ m2 < V := by
  have h0 : 0 < d := by
    rcases Nat.eq_zero_or_pos d with h0 | h0
    · subst h0; rw [Nat.zero_mul] at h; omega
    · exact h0
  obtain ⟨e, rfl⟩ : ∃ e, d = e + 1 := ⟨d - 1, by omega⟩
  rw [Nat.add_mul, Nat.one_mul] at h hd2
  rw [Nat.add_sub_cancel]
  have hb : b2 = 1 := by
    match b2, h2 with
    | 0, h2 => rw [Nat.zero_mul] at h2; omega
    | 1, _ => rfl
    | b + 2, h2 => rw [Nat.add_mul] at h2; omega
  subst hb
  omega

theorem long_split {p M C z V Bj b : Nat} (h : p + Bj * (M + C * z) < V * (Bj * b)) (hC : V * b ≤ C) : z = 0 ∧ M < V * b := by
  have e1 : V * (Bj * b) = Bj * (V * b) := by rw [Nat.mul_left_comm]
  rw [e1] at h
  have h1 : Bj * (M + C * z) < Bj * (V * b) := by omega
  have h2 : M + C * z < V * b := Nat.lt_of_mul_lt_mul_left h1
  match z, h2 with
  | 0, h2 => exact ⟨rfl, by omega⟩
  | z + 1, h2 => rw [Nat.mul_add] at h2; omega

theorem long_next {p Bj M m d V b Q T : Nat} (h : p + Bj * M + V * (Bj * b) * Q = T) (hm : M = d * V + m) (hp : p < Bj) (hmV : m < V) : p + Bj * m < V * Bj ∧ p + Bj * m + V * Bj * (d + b * Q) = T := by
  constructor
  · have h1 := Nat.mul_le_mul_left Bj (show m + 1 ≤ V from hmV)
    rw [Nat.mul_add, Nat.mul_one] at h1
    rw [Nat.mul_comm V Bj]; omega
  · rw [← h, hm, Nat.mul_add, Nat.mul_add]
    have e1 : Bj * (d * V) = V * Bj * d := by rw [Nat.mul_comm d V, ← Nat.mul_assoc, Nat.mul_comm Bj V]
    have e2 : V * (Bj * b) * Q = V * Bj * (b * Q) := by rw [Nat.mul_assoc, Nat.mul_assoc, Nat.mul_assoc]
    rw [e1, e2]; omega

/-- The divisor, moved to the left till its first bit is 1. -/
theorem norm {Y : List Nat} {m : Nat} (hn : Y.length = m + 2) (hY : ∀ d ∈ Y, d < B) (ht : Y[m + 1]?.getD 0 ≠ 0) :
    ∃ k, k = 32 - (digs 2 (Y[m + 1]?.getD 0)).length ∧ (digs 2 (Y[m + 1]?.getD 0)).length ≤ 32 ∧ k ≤ 31 ∧ val B Y * 2 ^ k < B ^ (m + 2) ∧ 2147483648 * B ^ (m + 1) ≤ val B Y * 2 ^ k := by
  have hs := val_take_succ B Y (m + 1) (by omega)
  rw [List.take_of_length_le (by omega)] at hs
  have hlo := val_lt (b := B) (Y.take (m + 1)) (fun d hd => hY d (List.mem_of_mem_take hd))
  rw [List.length_take, hn, Nat.min_eq_left (by omega)] at hlo
  have htt : Y[m + 1]?.getD 0 = Y[m + 1] := by rw [List.getElem?_eq_getElem (by omega)]; rfl
  have htB : Y[m + 1] < B := hY _ (List.getElem_mem _)
  rw [htt] at ht ⊢
  generalize Y[m + 1] = t at *
  have hL := (len_digs_le (b := 2) (by omega) (x := t)).1 (Nat.le_refl _)
  have hL32 : (digs 2 t).length ≤ 32 := (len_digs_le (by omega)).2 htB
  have hL0 : 0 < (digs 2 t).length := by
    rcases Nat.eq_zero_or_pos (digs 2 t).length with h | h
    · exact absurd ((digs_eq_nil (by omega)).1 (List.length_eq_zero_iff.1 h)) ht
    · exact h
  have hLl := le_of_len (b := 2) (by omega) (x := t) (n := (digs 2 t).length - 1) (by omega)
  generalize (digs 2 t).length = L at *
  refine ⟨32 - L, rfl, hL32, by omega, ?_, ?_⟩
  · have h1 : val B Y < (t + 1) * B ^ (m + 1) := by rw [Nat.add_mul]; omega
    have h2 : (t + 1) * B ^ (m + 1) ≤ 2 ^ L * B ^ (m + 1) := Nat.mul_le_mul_right _ hL
    have h3 : val B Y * 2 ^ (32 - L) < 2 ^ L * B ^ (m + 1) * 2 ^ (32 - L) := Nat.mul_lt_mul_of_pos_right (by omega) (Nat.two_pow_pos _)
    have e : 2 ^ L * B ^ (m + 1) * 2 ^ (32 - L) = B ^ (m + 2) := by
      rw [Nat.mul_right_comm, ← two_split hL32, Nat.pow_succ B (m + 1), Nat.mul_comm]
    omega
  · have h1 : 2 ^ (L - 1) * B ^ (m + 1) ≤ val B Y := by
      rw [hs]
      have := Nat.mul_le_mul_right (B ^ (m + 1)) hLl
      omega
    have h2 := Nat.mul_le_mul_right (2 ^ (32 - L)) h1
    have e : 2 ^ (L - 1) * B ^ (m + 1) * 2 ^ (32 - L) = 2147483648 * B ^ (m + 1) := by
      rw [Nat.mul_right_comm, ← Nat.pow_add, show L - 1 + (32 - L) = 31 from by omega]
    omega

/-- The three first digits of a row. -/
theorem top3 {M : List Nat} {m : Nat} (hn : M.length = m + 3) (hM : ∀ d ∈ M, d < B) :
    val B M = ((M[m + 2] * B + M[m + 1]) * B + M[m]) * B ^ m + val B (M.take m) ∧ val B (M.take m) < B ^ m := by
  have h1 := val_take_succ B M (m + 2) (by omega)
  have h2 := val_take_succ B M (m + 1) (by omega)
  have h3 := val_take_succ B M m (by omega)
  rw [List.take_of_length_le (by omega)] at h1
  have hlo := val_lt (b := B) (M.take m) (fun d hd => hM d (List.mem_of_mem_take hd))
  rw [List.length_take, hn, Nat.min_eq_left (by omega)] at hlo
  refine ⟨?_, hlo⟩
  rw [h1, h2, h3, Nat.add_mul, Nat.add_mul, Nat.add_mul, show B ^ (m + 2) = B ^ m * B * B from by rw [Nat.pow_succ, Nat.pow_succ], Nat.pow_succ]
  have e : ∀ a : Nat, a * (B ^ m * B) = a * B * B ^ m := fun a => by rw [Nat.mul_comm (B ^ m) B, Nat.mul_assoc]
  have e2 : ∀ a : Nat, a * (B ^ m * B * B) = a * B * B * B ^ m := fun a => by rw [Nat.mul_right_comm (B ^ m) B B, ← Nat.mul_assoc, e, Nat.mul_right_comm]
  rw [e, e2]
  omega

theorem top2 {M : List Nat} {m : Nat} (hn : M.length = m + 2) (hM : ∀ d ∈ M, d < B) :
    val B M = (M[m + 1] * B + M[m]) * B ^ m + val B (M.take m) ∧ val B (M.take m) < B ^ m := by
  have h2 := val_take_succ B M (m + 1) (by omega)
  have h3 := val_take_succ B M m (by omega)
  rw [List.take_of_length_le (by omega)] at h2
  have hlo := val_lt (b := B) (M.take m) (fun d hd => hM d (List.mem_of_mem_take hd))
  rw [List.length_take, hn, Nat.min_eq_left (by omega)] at hlo
  refine ⟨?_, hlo⟩
  rw [h2, h3, Nat.add_mul, Nat.pow_succ]
  have e : ∀ a : Nat, a * (B ^ m * B) = a * B * B ^ m := fun a => by rw [Nat.mul_comm (B ^ m) B, Nat.mul_assoc]
  rw [e]
  omega

/-- The first digit of the rest is not above the divisor's. -/
theorem top_le {u2 u1 u0 v1 v0 P ulo vlo : Nat} (hv0 : v0 < B) (hvlo : vlo < P) (h : ((u2 * B + u1) * B + u0) * P + ulo < ((v1 * B + v0) * P + vlo) * B) : u2 ≤ v1 := by
  refine Nat.le_of_not_lt fun hlt => ?_
  have h1 : (v1 * B + v0) * P + vlo < (v1 + 1) * B * P := by
    have : (v1 * B + v0 + 1) * P ≤ (v1 + 1) * B * P := Nat.mul_le_mul_right P (by rw [Nat.add_mul]; omega)
    rw [Nat.add_mul (v1 * B + v0), Nat.one_mul] at this
    omega
  have h2 : ((v1 * B + v0) * P + vlo) * B < (v1 + 1) * B * P * B := Nat.mul_lt_mul_of_pos_right h1 (by decide)
  have h3 : (v1 + 1) * B * P * B ≤ ((u2 * B + u1) * B + u0) * P := by
    rw [Nat.mul_right_comm _ P B]
    refine Nat.mul_le_mul_right P ?_
    have := Nat.mul_le_mul_right B (Nat.mul_le_mul_right B (show v1 + 1 ≤ u2 from hlt))
    rw [Nat.add_mul (u2 * B)]
    omega
  omega

theorem vfacts {lv : List Nat} {m V : Nat} (hl : lv.length = m + 2 + 1) (hB : ∀ d ∈ lv, d < B) (hV : val B lv = V) (h1 : V < B ^ (m + 2)) (h2 : 2147483648 * B ^ (m + 1) ≤ V) :
    ∃ v : List Nat, v = lv.take (m + 2) ∧ v.length = m + 2 ∧ (∀ d ∈ v, d < B) ∧ val B v = V ∧ ∃ v1 v0 vlo : Nat, v[m + 1]? = some v1 ∧ v[m]? = some v0 ∧ V = (v1 * B + v0) * B ^ m + vlo ∧ vlo < B ^ m ∧ v1 < B ∧ v0 < B ∧ B ≤ 2 * v1 := by
  have hs := val_take_succ B lv (m + 2) (by omega)
  rw [List.take_of_length_le (by omega), hV] at hs
  have hz : lv[m + 2] = 0 := by
    rcases Nat.eq_zero_or_pos lv[m + 2] with h | h
    · exact h
    · have := Nat.mul_le_mul_right (B ^ (m + 2)) h
      omega
  rw [hz, Nat.zero_mul, Nat.add_zero] at hs
  have hvl : (lv.take (m + 2)).length = m + 2 := by simp; omega
  have hvB : ∀ d ∈ lv.take (m + 2), d < B := fun d hd => hB d (List.mem_of_mem_take hd)
  obtain ⟨e1, e2⟩ := top2 hvl hvB
  generalize lv.take (m + 2) = v at *
  refine ⟨v, rfl, hvl, hvB, hs.symm, v[m + 1], v[m], val B (v.take m), List.getElem?_eq_getElem _, List.getElem?_eq_getElem _, by rw [← e1]; exact hs, e2, hvB _ (List.getElem_mem _), hvB _ (List.getElem_mem _), ?_⟩
  have hv0 : v[m] < B := hvB _ (List.getElem_mem _)
  rw [hs, e1] at h2
  generalize v[m + 1] = v1 at *
  generalize v[m] = v0 at *
  have h3 : (v1 * B + v0 + 1) * B ^ m ≤ (v1 + 1) * B ^ (m + 1) := by
    rw [Nat.pow_succ, Nat.mul_comm (B ^ m) B, ← Nat.mul_assoc]
    exact Nat.mul_le_mul_right _ (by rw [Nat.add_mul]; omega)
  rw [Nat.add_mul (v1 * B + v0), Nat.one_mul] at h3
  have h4 : 2147483648 * B ^ (m + 1) < (v1 + 1) * B ^ (m + 1) := by omega
  have h5 := Nat.lt_of_mul_lt_mul_right h4
  unfold B; omega

theorem div_scale {x y p q u : Nat} (hp : 0 < p) (h : u + y * p * q = x * p) (hu : u < y * p) : q = x / y ∧ u / p = x % y := by
  have hy : 0 < y := by
    rcases Nat.eq_zero_or_pos y with h0 | h0
    · subst h0; rw [Nat.zero_mul] at hu; omega
    · exact h0
  have h1 : q = (x * p) / (y * p) := by
    rw [← h, Nat.add_mul_div_left _ _ (by omega), Nat.div_eq_of_lt hu, Nat.zero_add]
  have h2 : u = (x * p) % (y * p) := by
    rw [← h, Nat.add_mul_mod_self_left, Nat.mod_eq_of_lt hu]
  rw [Nat.mul_div_mul_right _ _ hp] at h1
  rw [Nat.mul_mod_mul_right] at h2
  exact ⟨h1, by rw [h2, Nat.mul_div_cancel _ hp]⟩

end Go.Proofs.YtcabmibcgedhhaaDoor

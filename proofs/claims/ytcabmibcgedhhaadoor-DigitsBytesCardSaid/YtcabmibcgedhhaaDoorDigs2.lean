/-
  More plain laws of digits: a product with a small number. No condition.
-/
import Derived.Test.YtcabmibcgedhhaaDoorDigs
namespace Go.Cd

/-- What is carried into digit i of x * m + r. -/
def tcar (b x m r i : Nat) : Nat := (m * (x % b ^ i) + r) / b ^ i

theorem tcar_zero (b x m r : Nat) : tcar b x m r 0 = r := by simp [tcar, Nat.mod_one]

theorem tcar_succ {b : Nat} (hb : 2 ≤ b) (x m r i : Nat) : (dig b x i * m + tcar b x m r i) / b = tcar b x m r (i + 1) := by
  have hp : 0 < b ^ i := Nat.pow_pos (by omega)
  have e : m * (x % b ^ (i + 1)) + r = (m * (x % b ^ i) + r) + b ^ i * (dig b x i * m) := by
    rw [mod_succ, Nat.mul_add, Nat.mul_left_comm, Nat.mul_comm m (dig b x i)]; omega
  unfold tcar
  rw [e, Nat.pow_succ, ← Nat.div_div_eq_div_mul, Nat.add_mul_div_left _ _ hp, Nat.add_comm]

theorem tdiv {b : Nat} (hb : 2 ≤ b) (x m r i : Nat) : (x * m + r) / b ^ i = m * (x / b ^ i) + tcar b x m r i := by
  have hp : 0 < b ^ i := Nat.pow_pos (by omega)
  have e : x * m + r = (m * (x % b ^ i) + r) + b ^ i * (m * (x / b ^ i)) := by
    conv => lhs; rw [← Nat.mod_add_div x (b ^ i)]
    rw [Nat.add_mul, Nat.mul_comm (x % b ^ i) m, Nat.mul_assoc, Nat.mul_comm (x / b ^ i) m]; omega
  rw [e, Nat.add_mul_div_left _ _ hp]
  unfold tcar
  omega

theorem tdig {b : Nat} (hb : 2 ≤ b) (x m r i : Nat) : (dig b x i * m + tcar b x m r i) % b = dig b (x * m + r) i := by
  unfold dig
  rw [tdiv hb, Nat.add_mod, Nat.mod_mul_mod, ← Nat.add_mod, Nat.mul_comm (x / b ^ i) m]

theorem tcar_le {b : Nat} (hb : 2 ≤ b) (x m r i : Nat) : tcar b x m r i ≤ m + r := by
  have hp : 0 < b ^ i := Nat.pow_pos (by omega)
  unfold tcar
  apply Nat.div_le_of_le_mul
  have h1 : m * (x % b ^ i) ≤ m * b ^ i := Nat.mul_le_mul_left _ (Nat.le_of_lt (Nat.mod_lt _ hp))
  have h2 : r ≤ r * b ^ i := Nat.le_mul_of_pos_right _ hp
  rw [Nat.mul_add, Nat.mul_comm (b ^ i) m, Nat.mul_comm (b ^ i) r]; omega

theorem div_zero_of_len {b : Nat} (hb : 2 ≤ b) {x i : Nat} (h : (digs b x).length ≤ i) : x / b ^ i = 0 := Nat.div_eq_of_lt ((len_digs_le hb).1 h)

theorem digL_all {b : Nat} (hb : 2 ≤ b) {x n : Nat} (h : x / b ^ n = 0) : val b (digL b x n) = x := by
  rw [val_digL]
  apply Nat.mod_eq_of_lt
  rcases Nat.lt_or_ge x (b ^ n) with h1 | h1
  · exact h1
  · have : 1 ≤ x / b ^ n := (Nat.le_div_iff_mul_le (Nat.pow_pos (by omega))).2 (by omega)
    omega

theorem len_pos_of_div {b : Nat} (hb : 2 ≤ b) {x i : Nat} (h : x / b ^ i ≠ 0) : i < (digs b x).length := by
  rcases Nat.lt_or_ge i (digs b x).length with h1 | h1
  · exact h1
  · exact absurd (div_zero_of_len hb h1) h

end Go.Cd

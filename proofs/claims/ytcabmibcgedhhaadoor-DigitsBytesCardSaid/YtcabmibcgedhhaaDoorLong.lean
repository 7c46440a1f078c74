/-
  The long division's steps on lists of digits: plain numbers, no program in sight.
-/
import Derived.Test.YtcabmibcgedhhaaDoorProd2
import Derived.Test.YtcabmibcgedhhaaDoorKnuth
namespace Go.Proofs.YtcabmibcgedhhaaDoor
open Go.RowKit Go.Cd

theorem vint {k : IntKind} {a b : Int} (h : a = b) : Value.int k a = Value.int k b := by rw [h]

theorem two_split {k : Nat} (hk : k ≤ 32) : B = 2 ^ k * 2 ^ (32 - k) := by
  rw [← Nat.pow_add, show k + (32 - k) = 32 from by omega]; rfl

/-- One step of left: the two halves of a digit that is shifted. -/
theorem left_split {k d : Nat} (hk : k ≤ 31) (hd : d < B) : (d * 2 ^ k) % B + B * (d / 2 ^ (32 - k)) = d * 2 ^ k ∧ d / 2 ^ (32 - k) < 2 ^ k ∧ ∀ x, x < 2 ^ k → x + (d * 2 ^ k) % B < B := by
  have hB := two_split (k := k) (by omega)
  have hp : 0 < 2 ^ k := Nat.two_pow_pos k
  have hr : 0 < 2 ^ (32 - k) := Nat.two_pow_pos _
  generalize 2 ^ k = p at *
  generalize 2 ^ (32 - k) = r at *
  have e1 : d * p / B = d / r := by rw [hB, Nat.mul_comm d p]; exact Nat.mul_div_mul_left _ _ hp
  have e2 : d * p % B = p * (d % r) := by rw [hB, Nat.mul_comm d p]; exact Nat.mul_mod_mul_left _ _ _
  refine ⟨?_, ?_, fun x hx => ?_⟩
  · have := Nat.div_add_mod (d * p) B
    rw [e1] at this; omega
  · exact Nat.div_lt_of_lt_mul (by rw [Nat.mul_comm, ← hB]; exact hd)
  · rw [e2]
    have h1 := Nat.mul_le_mul_left p (show d % r + 1 ≤ r from Nat.mod_lt _ hr)
    rw [← hB, Nat.mul_add] at h1
    omega

theorem left_step {l : List Nat} {i d k : Nat} (hk : k ≤ 31) (hd : d < B) (hi : i + 1 < l.length) (hz : l[i + 1]?.getD 0 = 0) :
    val B ((l.set i (l[i]?.getD 0 + (d * 2 ^ k) % B)).set (i + 1) (d / 2 ^ (32 - k))) = val B l + d * 2 ^ k * B ^ i := by
  have h1 := val_set B l i (l[i]?.getD 0 + (d * 2 ^ k) % B) (by omega)
  have h2 := val_set B (l.set i (l[i]?.getD 0 + (d * 2 ^ k) % B)) (i + 1) (d / 2 ^ (32 - k)) (by simpa using hi)
  rw [getD_set_ne (by omega), hz, Nat.zero_mul, Nat.add_zero] at h2
  have h3 := (left_split hk hd).1
  generalize (d * 2 ^ k) % B = lo at *
  generalize d / 2 ^ (32 - k) = hi at *
  have h4 : hi * (B ^ i * B) = B * hi * B ^ i := by rw [Nat.mul_comm (B ^ i) B, ← Nat.mul_assoc, Nat.mul_comm hi B]
  rw [h2, ← h3, Nat.pow_succ, Nat.add_mul, h4]
  rw [Nat.add_mul] at h1
  omega

theorem right_dig {l : List Nat} {i k : Nat} (hk : k ≤ 31) (hi : i + 1 < l.length) (hl : ∀ d ∈ l, d < B) : (B * l[i + 1] + l[i]) / 2 ^ k % B = dig B (val B l / 2 ^ k) i := by
  unfold dig
  rw [Nat.div_div_eq_div_mul, Nat.mul_comm (2 ^ k), ← Nat.div_div_eq_div_mul]
  have e1 : val B l / B ^ i = val B (l.drop i) := by
    have h1 : val B l = val B (l.take i) + B ^ i * val B (l.drop i) := by
      have := val_append B (l.take i) (l.drop i)
      rw [List.take_append_drop, List.length_take, Nat.min_eq_left (by omega)] at this
      exact this
    have h2 : val B (l.take i) < B ^ i := by
      have := val_lt (b := B) (l.take i) (fun d hd => hl d (List.mem_of_mem_take hd))
      rw [List.length_take, Nat.min_eq_left (by omega)] at this
      exact this
    rw [h1, Nat.add_comm, Nat.mul_add_div (Nat.pow_pos (by decide)), Nat.div_eq_of_lt h2, Nat.add_zero]
  rw [e1, drop_val B l i (by omega), drop_val B l (i + 1) (by omega)]
  have hB := two_split (k := k) (by omega)
  have hp : 0 < 2 ^ k := Nat.two_pow_pos k
  generalize val B (l.drop (i + 1 + 1)) = r
  have e2 : l[i] + B * (l[i + 1] + B * r) = 2 ^ k * (B * (2 ^ (32 - k) * r)) + (B * l[i + 1] + l[i]) := by
    have : B * (B * r) = 2 ^ k * (B * (2 ^ (32 - k) * r)) := by
      conv => lhs; arg 2; rw [hB]
      rw [Nat.mul_assoc, Nat.mul_left_comm]
    rw [Nat.mul_add, this]; omega
  rw [e2, Nat.mul_add_div hp, Nat.mul_add_mod]

/-- One step of take. -/
theorem take_step {l v : List Nat} {i q vi c b lo c' b' x u U : Nat} (hi : i < l.length) (hx : l[i]?.getD 0 = x) (hv : val B (v.take (i + 1)) = val B (v.take i) + vi * B ^ i)
    (hp : c + q * vi = B * c' + lo) (hr : u + lo + b = x + B * b') (h : val B l + q * val B (v.take i) = U + (b + c) * B ^ i) :
    val B (l.set i u) + q * val B (v.take (i + 1)) = U + (b' + c') * B ^ (i + 1) := by
  have h1 := val_set B l i u hi
  rw [hx] at h1
  rw [hv, Nat.pow_succ, Nat.mul_add, ← Nat.mul_assoc]
  generalize B ^ i = W at *
  have e1 : (b' + c') * (W * B) = (B * b' + B * c') * W := by
    rw [← Nat.mul_add, Nat.mul_comm W B, ← Nat.mul_assoc, Nat.mul_comm (b' + c') B]
  rw [e1]
  have h2 : (u + lo + b + (c + q * vi)) * W = (x + B * b' + (B * c' + lo)) * W := by rw [hr, hp]
  simp only [Nat.add_mul] at h2 h ⊢
  omega

/-- One step of back. -/
theorem back_step {l v : List Nat} {i vi c c' x u U : Nat} (hi : i < l.length) (hx : l[i]?.getD 0 = x) (hv : val B (v.take (i + 1)) = val B (v.take i) + vi * B ^ i)
    (hp : c + vi + x = B * c' + u) (h : val B l + c * B ^ i = U + val B (v.take i)) :
    val B (l.set i u) + c' * B ^ (i + 1) = U + val B (v.take (i + 1)) := by
  have h1 := val_set B l i u hi
  rw [hx] at h1
  rw [hv, Nat.pow_succ]
  generalize B ^ i = W at *
  have e1 : c' * (W * B) = B * c' * W := by rw [Nat.mul_comm W B, ← Nat.mul_assoc, Nat.mul_comm c' B]
  rw [e1]
  have h2 : (c + vi + x) * W = (B * c' + u) * W := by rw [hp]
  simp only [Nat.add_mul] at h2 ⊢
  omega

theorem take_val (b : Nat) (v : List Nat) (i : Nat) : val b (v.take (i + 1)) = val b (v.take i) + v[i]?.getD 0 * b ^ i := by
  by_cases h : i < v.length
  · rw [val_take_succ b v i h, List.getElem?_eq_getElem h]; rfl
  · rw [List.take_of_length_le (by omega), List.take_of_length_le (by omega), List.getElem?_eq_none (by omega)]; simp


end Go.Proofs.YtcabmibcgedhhaaDoor

/-
  The walk of cedillaref02.Mul.
-/
import Derived.Test.YtcabmibcgedhhaaDoorProd1
import Derived.Test.YtcabmibcgedhhaaDoorRef4
namespace Go.Proofs.YtcabmibcgedhhaaDoor
open Go.RowKit Go.Cd

theorem Sl.outD {w : World} {v : Value} {l : List Nat} (h : Sl eInt w v (ds l)) : ∃ a cap, v = .slice a l.length cap ∧ l.length ≤ cap ∧ ∀ i (hi : i < l.length), ∃ b off, a = some ⟨b, off, none⟩ ∧ b < w.heap.size ∧ w.cell? ⟨b, off + i, none⟩ = some (.int .i64 (l[i] : Nat)) := by
  obtain ⟨a, cap, hv, hc, hx⟩ := Sl.out h
  refine ⟨a, cap, by rw [hv, length_ds], by rw [length_ds] at hc; exact hc, fun i hi => ?_⟩
  obtain ⟨b, off, h1, h2, h3⟩ := hx i (by rw [length_ds]; exact hi)
  rw [ds_getElem _ _ hi] at h3
  exact ⟨b, off, h1, h2, h3⟩

theorem val_ge (b : Nat) (l : List Nat) (j : Nat) (h : j < l.length) : l[j] * b ^ j ≤ val b l := by
  have := val_set b l j 0 h
  rw [List.getElem?_eq_getElem h, Option.getD_some, Nat.zero_mul] at this
  omega

theorem ds_set (l : List Nat) (i d : Nat) : (ds l).set i (.int .i64 d) = ds (l.set i d) := by simp [ds, List.map_set]

theorem le_of_mem_set {l : List Nat} {i v b : Nat} (hl : ∀ d ∈ l, d ≤ b) (hv : v ≤ b) : ∀ d ∈ l.set i v, d ≤ b := fun d hd => by
  rcases List.mem_or_eq_of_mem_set hd with h | rfl
  · exact hl d h
  · exact hv

theorem getD_set_eq {l : List Nat} {i v : Nat} (h : i < l.length) : (l.set i v)[i]?.getD 0 = v := by simp [h]

/-- A carry handed on. -/
theorem carry_on (b : Nat) (l : List Nat) (t : Nat) (h : t + 1 < l.length) : val b ((l.set (t + 1) (l[t + 1]?.getD 0 + l[t]?.getD 0 / b)).set t (l[t]?.getD 0 % b)) = val b l := by
  have h1 := val_set b l (t + 1) (l[t + 1]?.getD 0 + l[t]?.getD 0 / b) h
  have h2 := val_set b (l.set (t + 1) (l[t + 1]?.getD 0 + l[t]?.getD 0 / b)) t (l[t]?.getD 0 % b) (by simp; omega)
  rw [getD_set_ne (by omega)] at h2
  generalize l[t]?.getD 0 = c at *
  generalize l[t + 1]?.getD 0 = d at *
  generalize val b (l.set (t + 1) (d + c / b)) = v1 at *
  have h3 : b * (c / b) + c % b = c := Nat.div_add_mod _ _
  have h4 : (b * (c / b) + c % b) * b ^ t = c * b ^ t := by rw [h3]
  rw [Nat.add_mul] at h4
  rw [Nat.add_mul] at h1
  have h5 : c / b * b ^ (t + 1) = b * (c / b) * b ^ t := by rw [Nat.pow_succ, Nat.mul_comm (b ^ t) b, ← Nat.mul_assoc, Nat.mul_comm (c / b) b]
  rw [h5] at h1
  omega

end Go.Proofs.YtcabmibcgedhhaaDoor

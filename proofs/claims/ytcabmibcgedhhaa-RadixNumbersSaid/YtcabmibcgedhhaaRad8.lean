/-
  radix.New at whatever ints.
-/
import Derived.Test.YtcabmibcgedhhaaRad6
import Derived.Test.YtcabmibcgedhhaaRad7
namespace Go.Proofs.Ytcabmibcgedhhaa
open Go.RowKit Go.Cd

theorem SlA.cutA {w : World} {a : Option Addr} {n cap k : Nat} {xs : List Value} (h : SlA w (.slice a n cap) xs) (hk : k ≤ xs.length) : SlA w (.slice a k cap) (xs.take k) := by
  obtain ⟨a', cap', hv, hc, hr⟩ := h
  simp only [Value.slice.injEq] at hv
  obtain ⟨rfl, _, rfl⟩ := hv
  have hlen : (xs.take k).length = k := by simp; omega
  refine ⟨a, cap, by rw [hlen], by rw [hlen]; omega, ?_⟩
  rcases hr with ⟨hr, h0⟩ | ⟨b, off, cs, e, fr, ha, hh, hx⟩
  · exact .inl ⟨by rw [hr]; simp, h0⟩
  · refine .inr ⟨b, off, cs, e, fr, ha, hh, fun i hi => ?_⟩
    rw [hlen] at hi
    rw [hx i (by omega)]
    simp

def natL (l : List Int) : List Nat := l.map Int.toNat
@[simp] theorem length_natL (l : List Int) : (natL l).length = l.length := by simp [natL]
theorem natL_ds {l : List Int} (h : (l.any fun b => decide (b < 1)) = false) : ds (natL l) = i64s l ∧ ∀ b ∈ natL l, 1 ≤ b := by
  rw [List.any_eq_false] at h
  have h' : ∀ b ∈ l, 1 ≤ b := fun b hb => by have := h b hb; simp at this; omega
  constructor
  · simp only [ds, natL, i64s, List.map_map]
    refine List.map_congr_left fun b hb => ?_
    have := h' b hb
    simp only [Function.comp]
    congr 1
    omega
  · intro b hb
    obtain ⟨c, hc, rfl⟩ := List.mem_map.1 hb
    have := h' c hc
    omega

theorem new_all {w : World} {v : Value} {l : List Int} (h : SlA w v (i64s l)) (hmax : l.length < 1099511627776) (hb : ∀ b ∈ l, b < 9223372036854775808) :
    Calls Try.prog 20 #[v] w fun e w' => ∃ (a1 a2 : Option Addr) (n1 c1 n2 c2 : Nat) (z e0 : Int), e = .returned (.tuple #[.agg #[.slice a1 n1 c1, .slice a2 n2 c2, .int .i64 z], .int .i64 e0]) ∧ Below w.heap.size w w' ∧
      (((l.any fun b => decide (b < 1)) = true ∧ e0 = 1) ∨ ((l.any fun b => decide (b < 1)) = false ∧ ((prodN (natL l) ≤ 1073741824 ∧ e0 = 0 ∧ RadixV w' (.agg #[.slice a1 n1 c1, .slice a2 n2 c2, .int .i64 z]) (natL l)) ∨ (1073741824 < prodN (natL l) ∧ e0 = 4)))) := by
  cases ha : l.any fun b => decide (b < 1) with
  | true =>
    refine (new_bad h hmax ha).mono ?_
    rintro e w' ⟨rfl, hb'⟩
    exact ⟨none, none, 0, 0, 0, 0, 0, 1, rfl, hb', .inl ⟨rfl, rfl⟩⟩
  | false =>
    obtain ⟨h1, h2⟩ := natL_ds ha
    rw [← h1] at h
    refine (new_walk h (by simpa using hmax) h2 (fun b hb' => ?_)).mono ?_
    · obtain ⟨c, hc, rfl⟩ := List.mem_map.1 hb'
      have := hb c hc
      omega
    · rintro e w' ⟨r, e0, rfl, hb', hr⟩
      rcases hr with ⟨k1, rfl, k2⟩ | ⟨k1, rfl, rfl⟩
      · obtain ⟨a1, c1, a2, c2, rfl, _⟩ := k2.out
        exact ⟨a1, a2, _, c1, _, c2, _, 0, rfl, hb', .inr ⟨rfl, .inl ⟨k1, rfl, k2⟩⟩⟩
      · exact ⟨none, none, 0, 0, 0, 0, 0, 4, rfl, hb', .inr ⟨rfl, .inr ⟨k1, rfl⟩⟩⟩
end Go.Proofs.Ytcabmibcgedhhaa

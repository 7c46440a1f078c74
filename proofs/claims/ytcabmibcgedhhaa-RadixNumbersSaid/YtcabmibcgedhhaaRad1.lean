/-
  The walks of slices.ContainsFunc at radix.New's own question, and of slices.Clone at ints.
-/
import Derived.Test.YtcabmibcgedhhaaBase
import Derived.Test.YtcabmibcgedhhaaShelf
import Derived.Test.YtcabmibcgedhhaaMk
import Derived.Test.YtcabmibcgedhhaaFlow4
namespace Go.Proofs.Ytcabmibcgedhhaa
open Go.RowKit Go.Cd

theorem SlA.outI {w : World} {v : Value} {l : List Int} (h : SlA w v (i64s l)) : ∃ a cap, v = .slice a l.length cap ∧ l.length ≤ cap ∧ ∀ i (hi : i < l.length), ∃ b off, a = some ⟨b, off, none⟩ ∧ b < w.heap.size ∧ w.cell? ⟨b, off + i, none⟩ = some (.int .i64 l[i]) := by
  obtain ⟨a, cap, hv, hc, hx⟩ := SlA.out h
  refine ⟨a, cap, by rw [hv, length_i64s], by rw [length_i64s] at hc; exact hc, fun i hi => ?_⟩
  obtain ⟨b, off, h1, h2, h3⟩ := hx i (by rw [length_i64s]; exact hi)
  exact ⟨b, off, h1, h2, by rw [h3]; simp [i64s]⟩

set_option maxRecDepth 100000 in
theorem pred_ok (w : World) (b : Int) : Calls Try.prog 74 #[.int .i64 b] w fun e w' => e = .returned (.bool (decide (b < 1))) ∧ w' = w := by
  go_enter Try.func74, Try.ntmps74
  go_wp2
  go_ret
  exact ⟨rfl, rfl⟩

set_option maxRecDepth 100000 in
set_option maxHeartbeats 1600000 in
theorem indexFunc_ok {w : World} {v : Value} {l : List Int} (h : SlA w v (i64s l)) (hmax : l.length < 1099511627776) :
    Calls Try.prog 99 #[v, .func (.func 74) #[] #[]] w fun e w' => ∃ r : Int, e = .returned (.int .i64 r) ∧ (0 ≤ r ↔ ∃ b ∈ l, b < 1) ∧ Below w.heap.size w w' := by
  obtain ⟨x1, cp1, rfl, _, hx1⟩ := SlA.outI h
  have HX1 := Lib.hid hx1
  clear h hx1
  go_enter Try.func99, Try.ntmps99
  go_wp2_with fail
  go_loopw [8] (fun i wr => ∃ j : Nat, j ≤ l.length ∧ i = .int .i64 j ∧ (∀ t (ht : t < l.length), t < j → 1 ≤ l[t]) ∧ Below w.heap.size w wr)
    (fun i _ => l.length - (intOf i).toNat)
  case atStart => exact ⟨0, Nat.zero_le _, rfl, fun _ _ h => by omega, Below.refl _ _⟩
  case round =>
    obtain ⟨j, hj, rfl, hno, hE⟩ := hrel
    have HNO := Lib.hid hno
    clear hno
    by_cases hjl : j < l.length
    · obtain ⟨b1, off1, rfl, hb1, hc1⟩ := HX1.out j hjl
      have hc1 := (hE.cell (p := ⟨b1, off1 + j, none⟩) hb1).trans hc1
      have HB := Lib.hid (show ∃ b ∈ l, b = l[j] from ⟨_, List.getElem_mem _, rfl⟩)
      have HJ := Lib.hid (show ∀ t (ht : t < l.length), t = j → l[t] = l[j] from fun t ht e => by subst e; rfl)
      generalize l[j] = b at *
      go_wp2_with fail
      refine (pred_ok wr b).mono ?_
      rintro e w2 ⟨rfl, rfl⟩
      by_cases hb : b < 1
      · have hbd : decide (b < 1) = true := decide_eq_true hb
        rw [hbd]
        go_wp2
        go_ret
        obtain ⟨c, hc, rfl⟩ := HB.out
        exact ⟨j, rfl, ⟨fun _ => ⟨c, hc, hb⟩, fun _ => by omega⟩, hE⟩
      · have hbd : decide (b < 1) = false := decide_eq_false hb
        rw [hbd]
        go_wp2
        go_roundw
        case rel =>
          refine ⟨j + 1, by omega, rfl, fun t ht htj => ?_, hE⟩
          by_cases htj' : t = j
          · rw [HJ.out t ht htj']; exact hb
          · exact HNO.out t ht (by omega)
        case measure => simp [intOf]; omega
    · obtain rfl : j = l.length := by omega
      go_wp2
      go_ret
      refine ⟨-1, rfl, ⟨fun h => by omega, fun ⟨b, hb, h1⟩ => ?_⟩, hE⟩
      obtain ⟨t, ht, rfl⟩ := List.getElem_of_mem hb
      have := HNO.out t ht ht; omega

set_option maxRecDepth 100000 in
set_option maxHeartbeats 1600000 in
theorem containsFunc_ok {w : World} {v : Value} {l : List Int} (h : SlA w v (i64s l)) (hmax : l.length < 1099511627776) :
    Calls Try.prog 73 #[v, .func (.func 74) #[] #[]] w fun e w' => e = .returned (.bool (l.any fun b => decide (b < 1))) ∧ Below w.heap.size w w' := by
  obtain ⟨x1, cp1, hv, _, _⟩ := SlA.outI h
  subst hv
  have IF := Lib.hid (indexFunc_ok h hmax)
  have key : ∀ r : Int, (0 ≤ r ↔ ∃ b ∈ l, b < 1) → decide (0 ≤ r) = l.any fun b => decide (b < 1) := fun r hr => by
    rw [Bool.eq_iff_iff, decide_eq_true_iff, hr]
    simp
  have KEY := Lib.hid key
  clear key h
  go_enter Try.func73, Try.ntmps73
  go_wp2_with fail
  refine IF.out.mono ?_
  rintro e w2 ⟨r, rfl, hr, hb⟩
  have HR := Lib.hid hr
  clear hr
  go_wp2
  go_ret
  exact ⟨ret_bool (KEY.out r HR.out), hb⟩

/-- slices.Clone at ints. -/
theorem cloneI_ok {w : World} {v : Value} {l : List Int} (h : SlA w v (i64s l)) (hmax : l.length < 1099511627776) :
    Calls Try.prog 75 #[v] w fun e w' => ∃ r, e = .returned r ∧ w'.ownsRow w.heap.size eInt 1 r l.length (i64s l) ∧ Below w.heap.size w w' := by
  rcases h.cases with ⟨hn, a, cap, rfl, h0⟩ | ⟨b, off, cap, rfl, hc, hp, hb, hx⟩
  · have hl : l = [] := by simpa [i64s] using hn
    subst hl
    cases a with
    | none =>
      refine (Try.slices_Clone_int_nil 0 cap w).mono ?_
      rintro e w' ⟨rfl, rfl⟩
      exact ⟨_, rfl, World.ownsRow_nil _ _ _ _, Below.refl _ _⟩
    | some a =>
      refine (Try.slices_Clone_int_zero a cap w).mono ?_
      rintro e w' ⟨r, rfl, ho, _, hb⟩
      exact ⟨r, rfl, ho, hb⟩
  · rw [length_i64s] at *
    refine (Try.slices_Clone_int b off l.length cap l w (Nat.le_refl _) (by omega) (fun j hj => ?_)).mono ?_
    · rw [hx j (by rw [length_i64s]; exact hj)]
      simp [i64s, hj]
    · rintro e w' ⟨r, rfl, ho, _, hb⟩
      rw [List.take_length] at ho
      exact ⟨r, rfl, ho, hb⟩
end Go.Proofs.Ytcabmibcgedhhaa

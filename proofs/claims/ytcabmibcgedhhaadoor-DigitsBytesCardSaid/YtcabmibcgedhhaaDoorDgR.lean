/-
  The walk of cedillaref03.Take.
-/
import Derived.Test.YtcabmibcgedhhaaDoorDgK
namespace Go.Proofs.YtcabmibcgedhhaaDoor
open Go.RowKit Go.Cd

theorem nb4 {L : List Nat} (h : 4 ≤ L.length) : nb (L.take 4) = L[0] * 16777216 + L[1] * 65536 + L[2] * 256 + L[3] := by
  match L, h with
  | a :: b :: c :: d :: _, _ =>
    simp [nb]
    omega

set_option maxRecDepth 100000 in
set_option maxHeartbeats 3200000 in
theorem refTake_ok {w : World} (s : ByteArray) (hs : s.size < 1000000) :
    Calls Tryd.prog 14 #[.string s] w fun e w' => e = .returned (.tuple #[.string (str (tk (bts s)).2.1), .string (str (tk (bts s)).2.2), .int .i64 (tk (bts s)).1]) ∧ Below w.heap.size w w' := by
  have hlen : (bts s).length = s.size := length_bts s
  by_cases h4 : s.size < 4
  · have htk : tk (bts s) = (2, [], []) := by unfold tk; rw [if_pos (by omega)]
    rw [htk]
    have hd : decide ((s.size : Int) < 4) = true := decide_eq_true (by omega)
    go_enter Tryd.func14, Tryd.ntmps14
    go_wp2
    go_ret3
    exact ⟨rfl, Below.refl _ _⟩
  · have hnb := nb4 (L := bts s) (by omega)
    rw [bts_get s 0 (by omega), bts_get s 1 (by omega), bts_get s 2 (by omega), bts_get s 3 (by omega)] at hnb
    obtain ⟨c0, hc0⟩ : ∃ c0, (s[0]'(by omega)).toNat = c0 := ⟨_, rfl⟩
    obtain ⟨c1, hc1⟩ : ∃ c1, (s[1]'(by omega)).toNat = c1 := ⟨_, rfl⟩
    obtain ⟨c2, hc2⟩ : ∃ c2, (s[2]'(by omega)).toNat = c2 := ⟨_, rfl⟩
    obtain ⟨c3, hc3⟩ : ∃ c3, (s[3]'(by omega)).toNat = c3 := ⟨_, rfl⟩
    have l0 : c0 < 256 := by rw [← hc0]; exact (s[0]'(by omega)).toNat_lt
    have l1 : c1 < 256 := by rw [← hc1]; exact (s[1]'(by omega)).toNat_lt
    have l2 : c2 < 256 := by rw [← hc2]; exact (s[2]'(by omega)).toNat_lt
    have l3 : c3 < 256 := by rw [← hc3]; exact (s[3]'(by omega)).toNat_lt
    rw [hc0, hc1, hc2, hc3] at hnb
    by_cases hN : s.size - 4 < nb ((bts s).take 4)
    · have htk : tk (bts s) = (2, [], []) := by unfold tk; rw [if_neg (by omega), if_pos (by omega)]
      rw [htk]
      clear htk
      generalize nb ((bts s).take 4) = N at *
      have hNi : (c0 : Int) * 16777216 + c1 * 65536 + c2 * 256 + c3 = (N : Int) := by omega
      have hd1 : decide (((s.size : Int) - 4) < (N : Int)) = true := decide_eq_true (by omega)
      clear hnb
      go_enter Tryd.func14, Tryd.ntmps14
      go_wp2_with fail
      go_quiet (fail)
      go_wp2
      go_ret3
      exact ⟨rfl, ⟨rfl, rfl, rfl, Nat.le_refl _, fun _ _ => rfl⟩⟩
    · by_cases hz : 0 < nb ((bts s).take 4) ∧ (bts s)[4]?.getD 0 = 0
      · have htk : tk (bts s) = (3, [], []) := by unfold tk; rw [if_neg (by omega), if_neg (by omega), if_pos hz]
        rw [htk]
        clear htk
        obtain ⟨hz1, hz2⟩ := hz
        have h5 : 4 < s.size := by omega
        have hx4 : (s[4]'h5).toNat = 0 := by
          rw [← bts_get s 4 (by omega)]
          rw [List.getElem?_eq_getElem (by omega), Option.getD_some] at hz2
          exact hz2
        generalize nb ((bts s).take 4) = N at *
        have hNi : (c0 : Int) * 16777216 + c1 * 65536 + c2 * 256 + c3 = (N : Int) := by omega
        have hd1 : decide (((s.size : Int) - 4) < (N : Int)) = false := decide_eq_false (by omega)
        have hd2 : decide ((0 : Int) < (N : Int)) = true := decide_eq_true (by omega)
        have hd3 : decide (0 < N) = true := decide_eq_true hz1
        clear hnb
        go_enter Tryd.func14, Tryd.ntmps14
        go_wp2_with fail
        go_quiet (fail)
        go_wp2
        go_ret3
        exact ⟨rfl, ⟨rfl, rfl, rfl, Nat.le_refl _, fun _ _ => rfl⟩⟩
      · have htk : tk (bts s) = (0, ((bts s).drop 4).take (nb ((bts s).take 4)), (bts s).drop (4 + nb ((bts s).take 4))) := by unfold tk; rw [if_neg (by omega), if_neg (by omega), if_neg hz]
        rw [htk]
        clear htk
        have hx4 : ∀ h5 : 4 < s.size, 0 < nb ((bts s).take 4) → (s[4]'h5).toNat ≠ 0 := by
          intro h5 h hc
          refine hz ⟨h, ?_⟩
          rw [List.getElem?_eq_getElem (by omega), Option.getD_some, bts_get s 4 (by omega)]
          exact hc
        generalize nb ((bts s).take 4) = N at *
        have hA : s.extract 4 (4 + N) = str (((bts s).drop 4).take N) := by
          rw [extract_str]
          congr 2
          omega
        have hB : s.extract (4 + N) s.size = str ((bts s).drop (4 + N)) := by
          rw [extract_str, List.take_of_length_le (by simp)]
        have HA := Lib.hid hA
        have HB := Lib.hid hB
        have hNi : (c0 : Int) * 16777216 + c1 * 65536 + c2 * 256 + c3 = (N : Int) := by omega
        have hd1 : decide (((s.size : Int) - 4) < (N : Int)) = false := decide_eq_false (by omega)
        have hNs : N ≤ s.size - 4 := by omega
        clear hnb hA hB hz
        by_cases hN0 : 0 < N
        · have h5 : 4 < s.size := by omega
          have hx := hx4 h5 hN0
          obtain ⟨c4, hc4⟩ : ∃ c4, (s[4]'h5).toNat = c4 := ⟨_, rfl⟩
          rw [hc4] at hx
          have hcz : ((c4 : Int) == 0) = false := beq_eq_false_iff_ne.2 (by omega)
          have hcz2 : (c4 == 0) = false := beq_eq_false_iff_ne.2 hx
          have hd2 : decide ((0 : Int) < (N : Int)) = true := decide_eq_true (by omega)
          have hd3 : decide (0 < N) = true := decide_eq_true hN0
          clear hx4
          go_enter Tryd.func14, Tryd.ntmps14
          go_wp2_with fail
          go_quiet (fail)
          go_wp2_with fail
          go_quiet (fail)
          go_wp2
          go_ret3
          rw [← HA.out, ← HB.out]
          exact ⟨rfl, ⟨rfl, rfl, rfl, Nat.le_refl _, fun _ _ => rfl⟩⟩
        · have hd2 : decide ((0 : Int) < (N : Int)) = false := decide_eq_false (by omega)
          have hd3 : decide (0 < N) = false := decide_eq_false hN0
          clear hx4
          go_enter Tryd.func14, Tryd.ntmps14
          go_wp2_with fail
          go_quiet (fail)
          go_wp2_with fail
          go_quiet (fail)
          go_wp2
          go_ret3
          rw [← HA.out, ← HB.out]
          exact ⟨rfl, ⟨rfl, rfl, rfl, Nat.le_refl _, fun _ _ => rfl⟩⟩
end Go.Proofs.YtcabmibcgedhhaaDoor

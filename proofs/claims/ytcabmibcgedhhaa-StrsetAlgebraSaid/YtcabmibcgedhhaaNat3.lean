/-
  The walks of the layer nat: Compare.
-/
import Derived.Test.YtcabmibcgedhhaaNat2
namespace Go.Proofs.Ytcabmibcgedhhaa
open Go.RowKit Go.Cd

set_option maxHeartbeats 400000 in
theorem compare_ok {w : World} {v u : Value} {x y : Nat} (h : NatV w v x) (k : NatV w u y) (hx : (digs B x).length < 1099511627776) (hy : (digs B y).length < 1099511627776) :
    Calls Try.prog 32 #[v, u] w fun e w' => e = .returned (.int .i64 (cmpN x y)) ∧ Below w.heap.size w w' := by
  obtain ⟨a, n, cap, rfl, h⟩ := h.out
  obtain ⟨a2, n2, cap2, rfl, k⟩ := k.out
  have hn := h.len
  have hn2 := k.len
  rw [← hn] at hx
  rw [← hn2] at hy
  have HN := Lib.hid hn
  have HN2 := Lib.hid hn2
  have HX := Lib.hid h
  have HY := Lib.hid k
  have hstart : ∀ m, n ≤ m → n2 ≤ m → x / B ^ m = y / B ^ m := fun m h1 h2 => by
    rw [Nat.div_eq_of_lt ((len_digs_le two_le_B).1 (by omega)), Nat.div_eq_of_lt ((len_digs_le two_le_B).1 (by omega))]
  have HS := Lib.hid hstart
  clear hn hn2 h k hstart
  go_enter Try.func32, Try.ntmps32
  go_wp2_with fail
  all_goals
    go_loopw [5] (fun i wr => ∃ k : Nat, (k ≤ n ∨ k ≤ n2) ∧ i = .int .i64 ((k : Int) - 1) ∧ x / B ^ k = y / B ^ k ∧ Below w.heap.size w wr ∧ wr.cell? ⟨w.heap.size, 0, none⟩ = some (.slice a n cap) ∧ wr.cell? ⟨w.heap.size + 1, 0, none⟩ = some (.slice a2 n2 cap2) ∧ w.heap.size + 1 < wr.heap.size)
      (fun i _ => ((intOf i) + 1).toNat)
    case atStart =>
      first
        | exact ⟨n2, .inr (Nat.le_refl _), rfl, HS.out _ (by omega) (by omega), below2 _ _, by go_simp, by go_simp, by simp⟩
        | exact ⟨n, .inl (Nat.le_refl _), rfl, HS.out _ (by omega) (by omega), below2 _ _, by go_simp, by go_simp, by simp⟩
    case round =>
      obtain ⟨k, hk, rfl, hq, hb, hc1, hc2, hsz⟩ := hrel
      have HQ := Lib.hid hq
      clear hq
      by_cases hk0 : 0 < k
      · obtain ⟨j, rfl⟩ : ∃ j, k = j + 1 := ⟨k - 1, by omega⟩
        have e1 : ((j + 1 : Nat) : Int) - 1 = j := by omega
        rw [e1]
        clear e1
        go_wp2_with fail
        have hg1 : ∀ g : Gr wr.drew, g.to.cell? ⟨w.heap.size, 0, none⟩ = some (.slice a n cap) := fun g => (g.ext.cell (p := ⟨w.heap.size, 0, none⟩) (by simp; omega)).trans hc1
        have hg2 : ∀ g : Gr wr.drew, g.to.cell? ⟨w.heap.size + 1, 0, none⟩ = some (.slice a2 n2 cap2) := fun g => (g.ext.cell (p := ⟨w.heap.size + 1, 0, none⟩) (by simp; omega)).trans hc2
        refine wp_region_E (Array.replicate 8 true) 8 0 mixed (by rfl) ?_
        refine wpE_seg' [0, 1, 3, 4] 4 rfl (by kernel_rfl) ?_
        repeat (refine seg_cons rfl ?_; go_big_quiet_step (rfl))
        refine seg_nil ?_
        refine wpE_one 2 (by kernel_rfl) rfl ?_
        go_wp2_with fail
        refine (limb_ok (x := x) (HX.out.mono (ext_trans hb (ext_drew _))) j).mono ?_
        rintro e w1 ⟨rfl, hb1⟩
        go_wp2_with fail
        refine QE_intro hb1 ?_
        refine wpE_one 5 (by kernel_rfl) rfl ?_
        go_wp2_with fail
        refine (limb_ok (x := y) (HY.out.mono (ext_trans hb (ext_trans (ext_drew _) hb1))) j).mono ?_
        rintro e w2 ⟨rfl, hb2⟩
        go_wp2_with fail
        refine QE_intro hb2 ?_
        refine wpE_seg' [6, 7] 0 rfl (by kernel_rfl) ?_
        repeat (refine seg_cons rfl ?_; go_big_quiet_step (rfl))
        refine seg_nil ?_
        refine wpE_tail [] (by kernel_rfl) ?_
        refine tail_nil ?_
        have hE := ext_trans (ext_drew _) (ext_trans hb1 hb2)
        have hB := ext_trans hb hE
        have hd1 := (hE.cell (p := ⟨w.heap.size, 0, none⟩) (by show w.heap.size < wr.heap.size; omega)).trans hc1
        have hd2 := (hE.cell (p := ⟨w.heap.size + 1, 0, none⟩) hsz).trans hc2
        have hsz2 := Nat.lt_of_lt_of_le hsz hE.size
        clear hg1 hg2 hb1 hb2 hc1 hc2 hb hsz hE
        go_wp2
        · have hl : dig B x j < dig B y j := by assumption
          go_ret
          exact ⟨ret_int (cmp_of_lt (lt_of_dig HQ.out hl)).symm, hB⟩
        · have hl : dig B y j < dig B x j := by assumption
          go_ret
          exact ⟨ret_int (cmp_of_gt (lt_of_dig HQ.out.symm hl)).symm, hB⟩
        · have hl : dig B x j = dig B y j := by omega
          have hq : x / B ^ j = y / B ^ j := by rw [div_succ x j, div_succ y j, HQ.out, hl]
          go_roundw
          case rel => exact ⟨j, by omega, rfl, hq, hB, hd1, hd2, hsz2⟩
          case measure => simp [intOf]
      · obtain rfl : k = 0 := by omega
        have hxy : x = y := by have := HQ.out; simpa using this
        subst hxy
        go_wp2
        go_ret
        exact ⟨ret_int (cmp_self _).symm, hb⟩
end Go.Proofs.Ytcabmibcgedhhaa

/-
  The walks of the layer nat: Add.
-/
import Derived.Test.YtcabmibcgedhhaaNat3
namespace Go.Proofs.Ytcabmibcgedhhaa
open Go.RowKit Go.Cd

theorem u32s_set (l : List Nat) (i d : Nat) : (u32s l).set i (.int .u32 d) = u32s (l.set i d) := by simp [u32s, List.map_set]

/-- Digits so far, noughts behind them: one digit more. -/
theorem fill_set (f : Nat → Nat) (i k : Nat) : ((List.range i).map f ++ List.replicate (k + 1) 0).set i (f i) = (List.range (i + 1)).map f ++ List.replicate k 0 := by
  rw [List.range_succ, List.map_append, List.set_append_right _ _ (by simp)]
  simp [List.replicate_succ]

set_option maxRecDepth 100000 in
set_option maxHeartbeats 800000 in
theorem add_ok {w : World} {v u : Value} {x y : Nat} (h : NatV w v x) (k : NatV w u y) (hx : (digs B x).length < 549755813888) (hy : (digs B y).length < 549755813888) :
    Calls Try.prog 34 #[v, u] w fun e w' => ∃ r, e = .returned r ∧ NatV w' r (x + y) ∧ Below w.heap.size w w' := by
  obtain ⟨a, n, cap, rfl, h⟩ := h.out
  obtain ⟨a2, n2, cap2, rfl, k⟩ := k.out
  have hn := h.len
  have hn2 := k.len
  rw [← hn] at hx
  rw [← hn2] at hy
  have HX := Lib.hid h
  have HY := Lib.hid k
  obtain ⟨M, hM, hM1, hM2, hM3⟩ : ∃ M : Nat, (if n < n2 then (n2 : Int) else (n : Int)) = (M : Int) ∧ n ≤ M ∧ n2 ≤ M ∧ M ≤ n + n2 := by
    by_cases hlt : n < n2
    · exact ⟨n2, by rw [if_pos hlt], by omega, by omega, by omega⟩
    · exact ⟨n, by rw [if_neg hlt], by omega, by omega, by omega⟩
  have hsum : x + y < B ^ (M + 1) := add_lt_pow two_le_B ((len_digs_le two_le_B).1 (by omega)) ((len_digs_le two_le_B).1 (by omega))
  have HS := Lib.hid hsum
  clear hn hn2 h k hsum
  go_enter Try.func34, Try.ntmps34
  go_wp2_with (at_make; refine wpList_make_sl _ rfl _ _ 40 rfl (w.heap.size + 3) eU32 _ 4 elemU32 rfl .i64 .i64 _ _ (M + 1) rfl rfl (by omega) (by omega) (by omega) (by unfold maxLen; omega) (by simp) ?_; intro w1 hown hgrow)
  have hB1 := grown_ext hgrow
  have hc1 : w1.cell? ⟨w.heap.size, 0, none⟩ = some (.slice a n cap) := cellE hB1 (by go_simp)
  have hc2 : w1.cell? ⟨w.heap.size + 1, 0, none⟩ = some (.slice a2 n2 cap2) := cellE hB1 (by go_simp)
  have hk3 : w1.heap[w.heap.size + 1 + 1]? = some (.cells #[.slice none 0 0] 42) := (hB1.block _ (by simp)).trans (heap_alloc_new' _ _ _ (by simp))
  have hBw : Below w.heap.size w w1 := (((below_new _).alloc (by simp) _).alloc (by simp; omega) _).trans (hB1.mono (by simp; omega))
  have hs1 : w.heap.size + 3 ≤ w1.heap.size := by have := hB1.size; simpa using this
  have HK := Lib.hid hk3
  clear hgrow hB1 hk3
  go_loopw [7, 22] (fun c i wr => ∃ k : Nat, k ≤ M + 1 ∧ i = .int .i64 k ∧ c = .int .u64 (carry B x y k : Nat) ∧ wr.ownsRow (w.heap.size + 3) eU32 1 (.slice (some ⟨w.heap.size + 1 + 1 + 1, 0, none⟩) (M + 1) (M + 1)) (M + 1) (u32s (digL B (x + y) k ++ List.replicate (M + 1 - k) 0)) ∧ Below (w.heap.size + 3) w1 wr)
    (fun _ i _ => M + 1 - (intOf i).toNat)
  case atStart => exact ⟨0, by omega, rfl, by rw [carry_zero]; rfl, by simpa [u32s, digL] using hown, Below.refl _ _⟩
  case round =>
    obtain ⟨k, hk, rfl, rfl, hown, hb⟩ := hrel
    have hBr : Below w.heap.size w wr := hBw.trans (hb.mono (by omega))
    by_cases hlt : k < M + 1
    · have l1 := fun (W : World) (E : Below w.heap.size w W) => limb_ok (HX.out.mono E) k
      have l2 := fun (W : World) (E : Below w.heap.size w W) => limb_ok (HY.out.mono E) k
      have hcs := carry_succ two_le_B x y k
      have hda := dig_add two_le_B x y k
      have hc0 := carry_le two_le_B x y k
      have hd1 := dig_lt two_le_B x k
      have hd2 := dig_lt two_le_B y k
      generalize dig B x k = dx at l1 l2 hcs hda hd1
      generalize dig B y k = dy at l1 l2 hcs hda hd2
      generalize carry B x y k = c at hcs hda hc0 ⊢
      have L1 := Lib.hid l1
      have L2 := Lib.hid l2
      have HCS := Lib.hid hcs
      have HDA := Lib.hid hda
      unfold B at hd1 hd2
      clear l1 l2 hcs hda
      have hd := Lib.hid hown
      clear hown
      go_wp2_with fail
      refine wp_region_E (Array.replicate 10 true) 10 0 mixed (by rfl) ?_
      have hg1 := Gr.cell (ext_drew wr) ((hb.cell (p := ⟨w.heap.size, 0, none⟩) (by simp)).trans hc1)
      have hg2 := Gr.cell (ext_drew wr) ((hb.cell (p := ⟨w.heap.size + 1, 0, none⟩) (by simp)).trans hc2)
      refine wpE_seg' [0, 1, 3, 4, 7] 5 rfl (by kernel_rfl) ?_
      repeat (refine seg_cons rfl ?_; go_big_quiet_step (rfl))
      refine seg_nil ?_
      clear hg1 hg2
      refine wpE_one 2 (by kernel_rfl) rfl ?_
      go_wp2_with fail
      refine (L1.out _ (ext_trans hBr (ext_drew _))).mono ?_
      rintro e w2 ⟨rfl, hb2⟩
      go_wp2_with fail
      refine QE_intro hb2 ?_
      refine wpE_one 5 (by kernel_rfl) rfl ?_
      go_wp2_with fail
      refine (L2.out _ (ext_trans hBr (ext_trans (ext_drew _) hb2))).mono ?_
      rintro e w3 ⟨rfl, hb3⟩
      go_wp2_with fail
      refine QE_intro hb3 ?_
      refine wpE_seg' [6, 8, 9] 0 rfl (by kernel_rfl) ?_
      repeat (refine seg_cons rfl ?_; go_big_quiet_step (rfl))
      refine seg_nil ?_
      refine wpE_tail [] (by kernel_rfl) ?_
      refine tail_nil ?_
      have hE := ext_trans (ext_drew wr) (ext_trans hb2 hb3)
      have hown3 := own_ext hd.out hE
      obtain ⟨hcell, hfr⟩ := own_at hown3 (j := k) (by simp; omega)
      have hst := (hown3.stored k (.int .u32 (dig B (x + y) k : Nat))).1
      have hB3 : Below (w.heap.size + 3) w1 (w3.setCell ⟨w.heap.size + 1 + 1 + 1, k, none⟩ (.int .u32 (dig B (x + y) k : Nat))) := below_put (hb.trans (hE.mono (by have := hb.size; omega))) (by omega)
      have HST := Lib.hid hst
      clear hb2 hb3 hE hown3 hst
      go_wp2
      go_roundw
      case rel =>
        have e1 : ((dx : Int) + dy + c) / 4294967296 = (carry B x y (k + 1) : Nat) := by have := HCS.out; unfold B at this ⊢; omega
        have e2 : ((dx : Int) + dy + c) % 4294967296 = (dig B (x + y) k : Nat) := by have := HDA.out; unfold B at this ⊢; omega
        rw [e1, e2]
        refine ⟨k + 1, by omega, rfl, rfl, ?_, hB3⟩
        have h1 := HST.out
        rw [u32s_set, show M + 1 - k = (M + 1 - (k + 1)) + 1 from by omega] at h1
        unfold digL at h1 ⊢
        rw [fill_set] at h1
        exact h1
      case measure => simp [intOf]; omega
    · go_wp2_with fail
      obtain rfl : k = M + 1 := by omega
      have hl : ∀ d ∈ digL B (x + y) (M + 1), d < B := digL_lt two_le_B _ _
      rw [Nat.sub_self, List.replicate_zero, List.append_nil] at hown
      refine (trim_ok (Sl.of_own hown) hl (by simp; omega)).mono ?_
      rintro e w2 ⟨r2, rfl, hr2, hb2⟩
      rw [val_digL, Nat.mod_eq_of_lt HS.out] at hr2
      obtain ⟨a3, n3, cap3, rfl, hN⟩ := hr2.out
      have hk : w2.heap[w.heap.size + 1 + 1]? = some (.cells #[.slice none 0 0] 42) := (hb2.block (w.heap.size + 1 + 1) (by have := hb.size; omega)).trans ((hb.block (w.heap.size + 1 + 1) (by omega)).trans HK.out)
      obtain ⟨hcs, hR⟩ := box_nat hk (by decide) hN
      have hB := below_put (off := 0) (u := .slice a3 n3 cap3) (ext_trans hBr hb2) (b := w.heap.size + 1 + 1) (by omega)
      have hcell : w2.cell? ⟨w.heap.size + 1 + 1, 0, none⟩ = some (.slice none 0 0) := by unfold World.cell?; rw [hk]; rfl
      have hfr : w2.frozen? ⟨w.heap.size + 1 + 1, 0, none⟩ = false := by unfold World.frozen?; rw [hk]; rfl
      clear hk hb2 hr2 hN hown hb hBr hBw
      go_wp2
      exact bodyPost_ret (v := .agg #[.slice a3 n3 cap3]) (by simp [results, Try.results34, go_sem, hcs]) rfl ⟨_, rfl, hR, hB⟩
end Go.Proofs.Ytcabmibcgedhhaa

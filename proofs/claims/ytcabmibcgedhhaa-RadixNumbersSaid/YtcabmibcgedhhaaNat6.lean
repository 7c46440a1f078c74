/-
  The walks of the layer nat: Sub.
-/
import Derived.Test.YtcabmibcgedhhaaNat5
namespace Go.Proofs.Ytcabmibcgedhhaa
open Go.RowKit Go.Cd

set_option maxRecDepth 100000 in
set_option maxHeartbeats 800000 in
theorem sub_less {w : World} {v u : Value} {x y : Nat} (h : NatV w v x) (k : NatV w u y) (hx : (digs B x).length < 549755813888) (hy : (digs B y).length < 549755813888) (hlt : x < y) :
    Calls Try.prog 43 #[v, u] w fun e w' => ∃ r, e = .returned (.tuple #[r, .bool true]) ∧ NatV w' r 0 ∧ Below w.heap.size w w' := by
  obtain ⟨a, n, cap, rfl, h⟩ := h.out
  obtain ⟨a2, n2, cap2, rfl, k⟩ := k.out
  have l1 := fun (W : World) (E : Below w.heap.size w W) => compare_ok (h.mono E) (k.mono E) (by omega) (by omega)
  rw [cmp_of_lt hlt] at l1
  have L1 := Lib.hid l1
  clear l1 h k
  go_enter Try.func43, Try.ntmps43
  go_wp2_with fail
  refine (L1.out _ ((below2 _ _).alloc (by simp; omega) _)).mono ?_
  rintro e w1 ⟨rfl, hb⟩
  have hk : w1.heap[w.heap.size + 1 + 1]? = some (.cells #[.slice none 0 0] 42) := (hb.block (w.heap.size + 1 + 1) (by simp)).trans (heap_alloc_new' _ _ _ (by simp))
  have hN : NatV w1 (.agg #[.slice none 0 0]) 0 := ⟨_, rfl, by rw [digs_zero]; exact .nil _ _ _ _ (fun _ => rfl)⟩
  obtain ⟨hcs, hR⟩ := box_nat hk (by decide) hN
  have hB := below_put (off := 0) (u := .slice none 0 0) (ext_trans ((below2 (w := w) _ _).alloc (by simp; omega) _) hb) (b := w.heap.size + 1 + 1) (by omega)
  have hcell : w1.cell? ⟨w.heap.size + 1 + 1, 0, none⟩ = some (.slice none 0 0) := by unfold World.cell?; rw [hk]; rfl
  have hfr : w1.frozen? ⟨w.heap.size + 1 + 1, 0, none⟩ = false := by unfold World.frozen?; rw [hk]; rfl
  clear hk hN hb
  go_wp2
  exact bodyPost_ret (v := .tuple #[.agg #[.slice none 0 0], .bool true]) (by simp [results, Try.results43, go_sem, hcs]) rfl ⟨_, rfl, hR, hB⟩

set_option maxRecDepth 100000 in
set_option maxHeartbeats 800000 in
theorem sub_ok {w : World} {v u : Value} {x y : Nat} (h : NatV w v x) (k : NatV w u y) (hx : (digs B x).length < 549755813888) (hy : (digs B y).length < 549755813888) (hle : y ≤ x) :
    Calls Try.prog 43 #[v, u] w fun e w' => ∃ r, e = .returned (.tuple #[r, .bool false]) ∧ NatV w' r (x - y) ∧ Below w.heap.size w w' := by
  obtain ⟨a, n, cap, rfl, h⟩ := h.out
  obtain ⟨a2, n2, cap2, rfl, k⟩ := k.out
  have hn := h.len
  rw [← hn] at hx
  have HX := Lib.hid h
  have HY := Lib.hid k
  have hsum : x - y < B ^ n := Nat.lt_of_le_of_lt (Nat.sub_le _ _) ((len_digs_le two_le_B).1 (by omega))
  have HS := Lib.hid hsum
  obtain ⟨r, hr, HR⟩ : ∃ r : Int, 0 ≤ r ∧ Hid (cmpN x y = r) := ⟨_, by unfold cmpN; split; { omega }; { split <;> omega }, rfl⟩
  have l0 := fun (W : World) (E : Below w.heap.size w W) => compare_ok (h.mono E) (k.mono E) (by omega) (by omega)
  rw [HR.out] at l0
  have L0 := Lib.hid l0
  clear l0 hn h k hsum
  go_enter Try.func43, Try.ntmps43
  go_wp2_with fail
  refine (L0.out _ ((below2 _ _).alloc (by simp; omega) _)).mono ?_
  rintro e w0 ⟨rfl, hb0⟩
  have hc1 : w0.cell? ⟨w.heap.size, 0, none⟩ = some (.slice a n cap) := cellE hb0 (by go_simp)
  have hc2 : w0.cell? ⟨w.heap.size + 1, 0, none⟩ = some (.slice a2 n2 cap2) := cellE hb0 (by go_simp)
  have hk3 : w0.heap[w.heap.size + 1 + 1]? = some (.cells #[.slice none 0 0] 42) := (hb0.block (w.heap.size + 1 + 1) (by simp)).trans (heap_alloc_new' _ _ _ (by simp))
  have hBw : Below w.heap.size w w0 := ext_trans ((below2 (w := w) _ _).alloc (by simp; omega) _) hb0
  have hs1 : w.heap.size + 3 ≤ w0.heap.size := by have := hb0.size; simpa using this
  have HK := Lib.hid hk3
  clear hb0 hk3
  go_wp2_with (at_make; refine wpList_make_sl _ rfl _ _ 40 rfl w0.heap.size eU32 _ 4 elemU32 rfl .i64 .i64 _ _ n rfl rfl rfl rfl (by omega) (by unfold maxLen; omega) (Nat.le_refl _) ?_; intro w1 hown hgrow)
  have hB1 := grown_ext hgrow
  clear hgrow
  go_loopw [7, 21] (fun c i wr => ∃ k : Nat, k ≤ n ∧ i = .int .i64 k ∧ c = .int .u64 (bor B x y k : Nat) ∧ wr.ownsRow w0.heap.size eU32 1 (.slice (some ⟨w0.heap.size, 0, none⟩) n n) n (u32s (digL B (x - y) k ++ List.replicate (n - k) 0)) ∧ Below w0.heap.size w0 wr)
    (fun _ i _ => n - (intOf i).toNat)
  case atStart => exact ⟨0, by omega, rfl, by rw [bor_zero]; rfl, by simpa [u32s, digL] using hown, hB1⟩
  case round =>
    obtain ⟨k, hk, rfl, rfl, hown, hb⟩ := hrel
    have hBr : Below w.heap.size w wr := ext_trans hBw hb
    by_cases hlt : k < n
    · have l1 := fun (W : World) (E : Below w.heap.size w W) => limb_ok (HX.out.mono E) k
      have l2 := fun (W : World) (E : Below w.heap.size w W) => limb_ok (HY.out.mono E) k
      have hcs := bor_succ two_le_B x y k
      have hda := dig_sub two_le_B hle k
      have hc0 := bor_le B x y k
      have hd1 := dig_lt two_le_B x k
      have hd2 := dig_lt two_le_B y k
      generalize dig B x k = dx at l1 l2 hcs hda hd1
      generalize dig B y k = dy at l1 l2 hcs hda hd2
      generalize bor B x y k = c at hcs hda hc0 ⊢
      have L1 := Lib.hid l1
      have L2 := Lib.hid l2
      have HCS := Lib.hid hcs
      have HDA := Lib.hid hda
      unfold B at hd1 hd2
      clear l1 l2 hcs hda
      have hd := Lib.hid hown
      clear hown
      go_wp2_with fail
      refine wp_region_E (Array.replicate 10 true) 10 0 mixed (by rfl) ?_
      have hg1 := Gr.cell (ext_drew wr) (cellE hb hc1)
      have hg2 := Gr.cell (ext_drew wr) (cellE hb hc2)
      refine wpE_seg' [0, 1, 3, 4, 7] 5 rfl (by kernel_rfl) ?_
      repeat (refine seg_cons rfl ?_; go_big_quiet_step (rfl))
      refine seg_nil ?_
      clear hg1 hg2
      refine wpE_one 2 (by kernel_rfl) rfl ?_
      go_wp2_with fail
      refine (L1.out _ (ext_trans hBr (ext_drew _))).mono ?_
      rintro e w2 ⟨rfl, hb2⟩
      go_wp2_with fail
      refine QE_intro hb2 ?_
      refine wpE_one 5 (by kernel_rfl) rfl ?_
      go_wp2_with fail
      refine (L2.out _ (ext_trans hBr (ext_trans (ext_drew _) hb2))).mono ?_
      rintro e w3 ⟨rfl, hb3⟩
      go_wp2_with fail
      refine QE_intro hb3 ?_
      refine wpE_seg' [6, 8, 9] 0 rfl (by kernel_rfl) ?_
      repeat (refine seg_cons rfl ?_; go_big_quiet_step (rfl))
      refine seg_nil ?_
      refine wpE_tail [] (by kernel_rfl) ?_
      refine tail_nil ?_
      have hE := ext_trans (ext_drew wr) (ext_trans hb2 hb3)
      have hown3 := own_ext hd.out hE
      obtain ⟨hcell, hfr⟩ := own_at hown3 (j := k) (by simp; omega)
      have hst := (hown3.stored k (.int .u32 (dig B (x - y) k : Nat))).1
      have hB3 : Below w0.heap.size w0 (w3.setCell ⟨w0.heap.size, k, none⟩ (.int .u32 (dig B (x - y) k : Nat))) := below_put (ext_trans hb hE) (Nat.le_refl _)
      have HST := Lib.hid hst
      clear hb2 hb3 hE hown3 hst
      go_wp2
      go_roundw
      case rel =>
        have ew : IntKind.u64.wrap (IntKind.u64.wrap ((dx : Int) - dy) - c) = ((dx : Int) - dy - c) % 18446744073709551616 := by
          rw [IntKind.wrap_u64, IntKind.wrap_u64]; omega
        have e1 : ((dx : Int) - dy - c) % 18446744073709551616 / 9223372036854775808 = (bor B x y (k + 1) : Nat) := by
          have := HCS.out; rw [this]; split <;> omega
        have e2 : ((dx : Int) - dy - c) % 18446744073709551616 % 4294967296 = (dig B (x - y) k : Nat) := by have := HDA.out; unfold B at this ⊢; omega
        rw [ew, e1, e2]
        refine ⟨k + 1, by omega, rfl, rfl, ?_, hB3⟩
        have h1 := HST.out
        rw [u32s_set, show n - k = (n - (k + 1)) + 1 from by omega] at h1
        unfold digL at h1 ⊢
        rw [fill_set] at h1
        exact h1
      case measure => simp [intOf]; omega
    · obtain rfl : k = n := by omega
      have hl : ∀ d ∈ digL B (x - y) k, d < B := digL_lt two_le_B _ _
      rw [Nat.sub_self, List.replicate_zero, List.append_nil] at hown
      go_wp2_with fail
      refine (trim_ok (Sl.of_own hown) hl (by simp; omega)).mono ?_
      rintro e w2 ⟨r2, rfl, hr2, hb2⟩
      rw [val_digL, Nat.mod_eq_of_lt HS.out] at hr2
      obtain ⟨a3, n3, cap3, rfl, hN⟩ := hr2.out
      have hk : w2.heap[w.heap.size + 1 + 1]? = some (.cells #[.slice none 0 0] 42) := (hb2.block (w.heap.size + 1 + 1) (by have := hb.size; omega)).trans ((hb.block (w.heap.size + 1 + 1) (by omega)).trans HK.out)
      obtain ⟨hcs, hR⟩ := box_nat hk (by decide) hN
      have hB := below_put (off := 0) (u := .slice a3 n3 cap3) (ext_trans hBr hb2) (b := w.heap.size + 1 + 1) (by omega)
      have hcell : w2.cell? ⟨w.heap.size + 1 + 1, 0, none⟩ = some (.slice none 0 0) := by unfold World.cell?; rw [hk]; rfl
      have hfr : w2.frozen? ⟨w.heap.size + 1 + 1, 0, none⟩ = false := by unfold World.frozen?; rw [hk]; rfl
      clear hk hb2 hr2 hN hown hb hBr hBw
      go_wp2
      exact bodyPost_ret (v := .tuple #[.agg #[.slice a3 n3 cap3], .bool false]) (by simp [results, Try.results43, go_sem, hcs]) rfl ⟨_, rfl, hR, hB⟩
end Go.Proofs.Ytcabmibcgedhhaa

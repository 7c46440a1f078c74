/-
  The walk of cedillalaw02.awake.
-/
import Derived.Test.YtcabmibcgedhhaaProd5
namespace Go.Proofs.Ytcabmibcgedhhaa
open Go.RowKit Go.Cd

set_option maxRecDepth 100000 in
set_option maxHeartbeats 1600000 in
theorem awake02_ok (w : World) : Calls Try.prog 48 #[] w fun e w' => e = .returned (.bool true) ∧ Below w.heap.size w w' := by
  have ed : digs B 18446744073709551616 = [0, 0, 1] := by
    have := digs_val two_le_B [0, 0, 1] (by decide) (by simp)
    have e2 : val B [0, 0, 1] = 18446744073709551616 := by decide
    rw [e2] at this; exact this
  have b100 : (digs B 100).length ≤ 1 := lenB_le (by decide)
  have b7 : (digs B 7).length ≤ 1 := lenB_le (by decide)
  have b2 : (digs B 2).length ≤ 1 := lenB_le (by decide)
  have b14 : (digs B 14).length ≤ 1 := lenB_le (by decide)
  have b28 : (digs B 28).length ≤ 1 := lenB_le (by decide)
  have d2 : (digs 2 2).length = 2 := by rw [digs_pos (by omega) (by omega), digs_pos (by omega) (by omega)]; simp [digs_zero]
  have O100 := Lib.hid (of_ok 100 (by omega))
  have O7 := Lib.hid (of_ok 7 (by omega))
  have O2 := Lib.hid (of_ok 2 (by omega))
  have O14 := Lib.hid (of_ok 14 (by omega))
  have O28 := Lib.hid (of_ok 28 (by omega))
  have DM := Lib.hid (fun (W : World) (v u : Value) (h : NatV W v 100) (g : NatV W u 7) => divMod_ok h g (by omega) (by omega) (by omega) (fun h => by omega))
  have PW := Lib.hid (fun (W : World) (v : Value) (h : NatV W v 2) => pow_ok (m := 64) h (by omega) (by omega) (.inr (by rw [d2]; omega)))
  have S14 := Lib.hid (fun (W : World) (v u : Value) (h : NatV W v 14) (g : NatV W u 14) => same_ok h g (by omega))
  have S2 := Lib.hid (fun (W : World) (v u : Value) (h : NatV W v 2) (g : NatV W u 2) => same_ok h g (by omega))
  have S28 := Lib.hid (fun (W : World) (v u : Value) (h : NatV W v 28) (g : NatV W u 28) => same_ok h g (by omega))
  have M28 := Lib.hid (fun (W : World) (v u : Value) (h : NatV W v 14) (g : NatV W u 2) => mul_ok h g (by omega) (by omega))
  have LP := Lib.hid (fun (W : World) (v : Value) (h : NatV W v 18446744073709551616) => natLimbs_ok h (by rw [ed]; simp))
  rw [ed] at LP
  clear ed b100 b7 b2 b14 b28 d2
  go_enter Try.func48, Try.ntmps48
  go_wp2_with fail
  refine (O100.out _).mono ?_
  rintro e w1 ⟨r1, rfl, m1, h1⟩
  go_wp2_with fail
  refine (O7.out _).mono ?_
  rintro e w2 ⟨r2, rfl, m2, h2⟩
  go_wp2_with fail
  refine (DM.out _ _ _ (m1.mono h2) m2).mono ?_
  rintro e w3 ⟨q, r, rfl, nq, nr, h3⟩
  replace nq : NatV w3 q 14 := nq
  replace nr : NatV w3 r 2 := nr
  obtain ⟨a, n, cap, rfl, nq⟩ := nq.out
  obtain ⟨a2, n2, cap2, rfl, nr⟩ := nr.out
  have E3 := ext_trans h1 (ext_trans h2 h3)
  have hb := below2 (w := w3) (.cells #[.slice a n cap] 42) (.cells #[.slice a2 n2 cap2] 42)
  clear m1 m2 h1 h2 h3 O100 O7 DM
  go_wp2_with fail
  refine (O2.out _).mono ?_
  rintro e w4 ⟨r4, rfl, m4, h4⟩
  go_wp2_with fail
  refine (PW.out _ _ m4).mono ?_
  rintro e w5 ⟨p, rfl, np, h5⟩
  replace np : NatV w5 p 18446744073709551616 := np
  obtain ⟨a5, n5, cap5, rfl, np⟩ := np.out
  have hb5 := ext_trans h4 (ext_trans h5 (below_new (.cells #[.slice a5 n5 cap5] 42)))
  have c1 : (w5.alloc (.cells #[.slice a5 n5 cap5] 42)).cell? ⟨w3.heap.size, 0, none⟩ = some (.slice a n cap) := cellE hb5 (by go_simp)
  have c2 : (w5.alloc (.cells #[.slice a5 n5 cap5] 42)).cell? ⟨w3.heap.size + 1, 0, none⟩ = some (.slice a2 n2 cap2) := cellE hb5 (by go_simp)
  have c3 : (w5.alloc (.cells #[.slice a5 n5 cap5] 42)).cell? ⟨w5.heap.size, 0, none⟩ = some (.slice a5 n5 cap5) := by go_simp
  have EW := ext_trans E3 (ext_trans hb hb5)
  have NQ := Lib.hid (fun (W : World) (E : Below (w5.alloc (.cells #[.slice a5 n5 cap5] 42)).heap.size (w5.alloc (.cells #[.slice a5 n5 cap5] 42)) W) => nq.mono (ext_trans (ext_trans hb hb5) E))
  have NR := Lib.hid (fun (W : World) (E : Below (w5.alloc (.cells #[.slice a5 n5 cap5] 42)).heap.size (w5.alloc (.cells #[.slice a5 n5 cap5] 42)) W) => nr.mono (ext_trans (ext_trans hb hb5) E))
  have NP := Lib.hid (fun (W : World) (E : Below (w5.alloc (.cells #[.slice a5 n5 cap5] 42)).heap.size (w5.alloc (.cells #[.slice a5 n5 cap5] 42)) W) => np.mono (ext_trans (below_new (.cells #[.slice a5 n5 cap5] 42)) E))
  have T0 := ext_refl (w5.alloc (.cells #[.slice a5 n5 cap5] 42))
  clear nq nr np h4 h5 hb hb5 m4 E3 PW
  go_wp2_with fail
  refine wp_region_E (Array.replicate 30 true) 30 0 mixed (by rfl) ?_
  have kE0 := ext_trans T0 (ext_drew _)
  have hg0 := Gr.cell kE0 c1
  have hg1 := Gr.cell kE0 c2
  have hg2 := Gr.cell kE0 c3
  refine wpE_seg' [0, 1, 2, 3, 4, 5, 6, 7] 22 rfl (by kernel_rfl) ?_
  iterate 8 (refine seg_cons rfl ?_; go_big_quiet_step (rfl))
  refine seg_nil ?_
  clear hg0 hg1 hg2
  refine wpE_one 8 (by kernel_rfl) rfl ?_
  go_wp2_with fail
  refine (O14.out _).mono ?_
  rintro e k1w ⟨s1, rfl, p1, k1b⟩
  go_wp2_with fail
  refine QE_intro k1b ?_
  have k1E := ext_trans kE0 k1b
  refine wpE_one 9 (by kernel_rfl) rfl ?_
  go_wp2_with fail
  refine (S14.out _ _ _ (NQ.out _ k1E) p1).mono ?_
  rintro e k2w ⟨rfl, k2b⟩
  go_wp2_with fail
  refine QE_intro k2b ?_
  have k2E := ext_trans k1E k2b
  have hg0 := Gr.cell k2E c1
  have hg1 := Gr.cell k2E c2
  have hg2 := Gr.cell k2E c3
  refine wpE_seg' [10, 11, 12] 17 rfl (by kernel_rfl) ?_
  iterate 3 (refine seg_cons rfl ?_; go_big_quiet_step (rfl))
  refine seg_nil ?_
  clear hg0 hg1 hg2
  refine wpE_one 13 (by kernel_rfl) rfl ?_
  go_wp2_with fail
  refine (O2.out _).mono ?_
  rintro e k3w ⟨s2, rfl, p2, k3b⟩
  go_wp2_with fail
  refine QE_intro k3b ?_
  have k3E := ext_trans k2E k3b
  refine wpE_one 14 (by kernel_rfl) rfl ?_
  go_wp2_with fail
  refine (S2.out _ _ _ (NR.out _ k3E) p2).mono ?_
  rintro e k4w ⟨rfl, k4b⟩
  go_wp2_with fail
  refine QE_intro k4b ?_
  have k4E := ext_trans k3E k4b
  have hg0 := Gr.cell k4E c1
  have hg1 := Gr.cell k4E c2
  have hg2 := Gr.cell k4E c3
  refine wpE_seg' [15, 16, 17] 12 rfl (by kernel_rfl) ?_
  iterate 3 (refine seg_cons rfl ?_; go_big_quiet_step (rfl))
  refine seg_nil ?_
  clear hg0 hg1 hg2
  refine wpE_one 18 (by kernel_rfl) rfl ?_
  go_wp2_with fail
  refine (LP.out _ _ (NP.out _ k4E)).mono ?_
  rintro e k5w ⟨s3, rfl, p3, k5b⟩
  go_wp2_with fail
  refine QE_intro k5b ?_
  have k5E := ext_trans k4E k5b
  obtain ⟨x3, cp3, rfl, _, _⟩ := Sl.outU (l := [0, 0, 1]) (Sl.of_own p3)
  have hg0 := Gr.cell k5E c1
  have hg1 := Gr.cell k5E c2
  have hg2 := Gr.cell k5E c3
  refine wpE_seg' [19, 20, 21, 22, 23, 24] 5 rfl (by kernel_rfl) ?_
  iterate 6 (refine seg_cons rfl ?_; go_big_quiet_step (rfl))
  refine seg_nil ?_
  clear hg0 hg1 hg2
  refine wpE_one 25 (by kernel_rfl) rfl ?_
  go_wp2_with fail
  refine (M28.out _ _ _ (NQ.out _ k5E) (NR.out _ k5E)).mono ?_
  rintro e k6w ⟨s4, rfl, p4, k6b⟩
  go_wp2_with fail
  refine QE_intro k6b ?_
  have k6E := ext_trans k5E k6b
  refine wpE_one 26 (by kernel_rfl) rfl ?_
  go_wp2_with fail
  refine (O28.out _).mono ?_
  rintro e k7w ⟨s5, rfl, p5, k7b⟩
  go_wp2_with fail
  refine QE_intro k7b ?_
  have k7E := ext_trans k6E k7b
  refine wpE_one 27 (by kernel_rfl) rfl ?_
  go_wp2_with fail
  refine (S28.out _ _ _ (p4.mono k7b) p5).mono ?_
  rintro e k8w ⟨rfl, k8b⟩
  go_wp2_with fail
  refine QE_intro k8b ?_
  have k8E := ext_trans k7E k8b
  have hg0 := Gr.cell k8E c1
  have hg1 := Gr.cell k8E c2
  have hg2 := Gr.cell k8E c3
  refine wpE_seg' [28, 29] 0 rfl (by kernel_rfl) ?_
  iterate 2 (refine seg_cons rfl ?_; go_big_quiet_step (rfl))
  refine seg_nil ?_
  clear hg0 hg1 hg2
  refine wpE_tail [] (by kernel_rfl) ?_
  refine tail_nil ?_
  go_wp2
  go_ret
  exact ⟨rfl, ext_trans EW k8E⟩
end Go.Proofs.Ytcabmibcgedhhaa

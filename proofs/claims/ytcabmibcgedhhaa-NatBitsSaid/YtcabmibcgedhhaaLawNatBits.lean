/-
  The walk of the law NatBits.
-/
import Derived.Test.YtcabmibcgedhhaaNat8
namespace Go.Proofs.Ytcabmibcgedhhaa
open Go.RowKit Go.Cd

set_option maxRecDepth 100000 in
set_option maxHeartbeats 1600000 in
theorem natBits_ok {w : World} {v u : Value} {l m : List Nat} (h : SlA w v (u32s l)) (k : SlA w u (u32s m)) (hl : ∀ d ∈ l, d < B) (hm : ∀ d ∈ m, d < B) :
    Calls Try.prog 6 #[v, u] w fun e w' => e = .returned (.bool true) ∧ Below w.heap.size w w' := by
  have hl' := take_lt hl
  have hm' := take_lt hm
  have lx := fewLen l hl
  have ly := fewLen m hm
  have f1 := fun (W : World) (E : Below w.heap.size w W) => few_ok (h.mono E)
  have f2 := fun (W : World) (E : Below w.heap.size w W) => few_ok (k.mono E)
  have F1 := Lib.hid f1
  have F2 := Lib.hid f2
  have HL := Lib.hid hl'
  have HM := Lib.hid hm'
  have lenl : (l.take 40).length < 1099511627776 := by simp; omega
  have lenm : (m.take 40).length < 1099511627776 := by simp; omega
  generalize l.take 40 = l' at *
  generalize m.take 40 = m' at *
  clear h k hl hm f1 f2 hl' hm'
  go_enter Try.func6, Try.ntmps6
  go_wp2_with fail
  refine (awake01_ok _).mono ?_
  rintro e w1 ⟨rfl, h1⟩
  go_wp2_with fail
  refine (F1.out _ h1).mono ?_
  rintro e w2 ⟨r2, rfl, n2, h2⟩
  go_wp2_with fail
  refine (limbs_ok (Sl.of_own n2) HL.out lenl).mono ?_
  rintro e w3 ⟨r3, rfl, n3, h3⟩
  have E3 := ext_trans h1 (ext_trans h2 h3)
  clear n2 h1 h2 h3
  go_wp2_with fail
  refine (F2.out _ E3).mono ?_
  rintro e w4 ⟨r4, rfl, n4, h4⟩
  go_wp2_with fail
  refine (limbs_ok (Sl.of_own n4) HM.out lenm).mono ?_
  rintro e w5 ⟨r5, rfl, n5, h5⟩
  have N3 := n3.mono (ext_trans h4 h5)
  have E5 := ext_trans E3 (ext_trans h4 h5)
  clear n4 h4 h5 n3 E3
  generalize val B l' = X at *
  generalize val B m' = Y at *
  obtain ⟨a, n, cap, rfl, N3⟩ := N3.out
  obtain ⟨a2, q2, cap2, rfl, n5⟩ := n5.out
  go_wp2_with fail
  refine (compare_ok (x := X) (y := Y) (N3.mono (below2 _ _)) (n5.mono (below2 _ _)) (by omega) (by omega)).mono ?_
  rintro e w6 ⟨rfl, h6⟩
  have E56 := ext_trans (below2 (w := w5) (.cells #[.slice a n cap] 42) (.cells #[.slice a2 q2 cap2] 42)) h6
  have c1 : w6.cell? ⟨w5.heap.size, 0, none⟩ = some (.slice a n cap) := cellE h6 (by go_simp)
  have c2 : w6.cell? ⟨w5.heap.size + 1, 0, none⟩ = some (.slice a2 q2 cap2) := cellE h6 (by go_simp)
  have N1 := N3.mono E56
  have N2 := n5.mono E56
  have E6 := ext_trans E5 E56
  have b1 := fun (W : World) (E : Below w6.heap.size w6 W) => bits_ok (N1.mono E) (by omega)
  have b2 := fun (W : World) (E : Below w6.heap.size w6 W) => bits_ok (N2.mono E) (by omega)
  have h7 := len_mono (b := 2) (by omega) (x := X) (y := Y)
  have h8 := len_mono (b := 2) (by omega) (x := Y) (y := X)
  have h9 : (digs 2 X).length ≤ 32 * 40 ∧ (digs 2 Y).length ≤ 32 * 40 := by
    have e : B ^ 40 = 2 ^ (32 * 40) := powB 40
    constructor
    · rw [len_digs_le (by omega), ← e]; exact (len_digs_le two_le_B).1 lx
    · rw [len_digs_le (by omega), ← e]; exact (len_digs_le two_le_B).1 ly
  have h10 : (digs 2 (X + Y)).length ≤ max (digs 2 X).length (digs 2 Y).length + 1 := len_add
  have h11 : (digs 2 X).length ≤ (digs 2 (X + Y)).length := len_mono (by omega) (by omega)
  have h12 : (digs 2 Y).length ≤ (digs 2 (X + Y)).length := len_mono (by omega) (by omega)
  have hcase : ∃ r : Int, cmpN X Y = r ∧ ((r = -1 ∧ (digs 2 X).length ≤ (digs 2 Y).length) ∨ (r = 1 ∧ (digs 2 Y).length ≤ (digs 2 X).length) ∨ (r = 0 ∧ (digs 2 Y).length = (digs 2 X).length)) := by
    refine ⟨_, rfl, ?_⟩
    unfold cmpN
    by_cases h : X < Y
    · rw [if_pos h]; exact .inl ⟨rfl, h7 (by omega)⟩
    · rw [if_neg h]
      by_cases h' : Y < X
      · rw [if_pos h']; exact .inr (.inl ⟨rfl, h8 (by omega)⟩)
      · rw [if_neg h', show X = Y from by omega]; exact .inr (.inr ⟨rfl, rfl⟩)
  obtain ⟨r, hr, hcase⟩ := hcase
  rw [hr]
  clear hr h7 h8
  have add1 := fun (W : World) (E : Below w6.heap.size w6 W) => add_ok (N1.mono E) (N2.mono E) (by omega) (by omega)
  have lz : (digs B (X + Y)).length < 1099511627776 := by
    have := add_lt_pow two_le_B ((len_digs_le two_le_B).1 lx) ((len_digs_le two_le_B).1 ly)
    have := lenB_le this; omega
  have b3 := fun (W : World) (v : Value) (h : NatV W v (X + Y)) => bits_ok h lz
  generalize (digs 2 (X + Y)).length = ns at b3 h10 h11 h12
  generalize (digs 2 X).length = nx at *
  generalize (digs 2 Y).length = ny at *
  have B1 := Lib.hid b1
  have B2 := Lib.hid b2
  have B3 := Lib.hid b3
  have A1 := Lib.hid add1
  obtain ⟨hx, hy⟩ := h9
  clear b1 b2 N1 N2 N3 n5 E56 h6 add1 b3
  have E0 := ext_drew w6
  have hc3 : (r = -1 ∧ nx < ny) ∨ (r = 1 ∧ ny < nx) ∨ (r = 0 ∧ ny = nx) ∨ (r = 1 ∧ ny = nx) ∨ (r = -1 ∧ ny = nx) := by omega
  clear hcase
  go_wp2_with fail
  rcases hc3 with ⟨rfl, hn⟩ | ⟨rfl, hn⟩ | ⟨rfl, hn⟩ | ⟨rfl, hn⟩ | ⟨rfl, hn⟩
  all_goals first | have q1 : decide (nx < ny) = true := decide_eq_true (by omega) | have q1 : decide (nx < ny) = false := decide_eq_false (by omega)
  all_goals first | have q2 : decide (ny < nx) = true := decide_eq_true (by omega) | have q2 : decide (ny < nx) = false := decide_eq_false (by omega)
  all_goals first | have q3 : ((nx : Int) == ny) = true := beq_iff_eq.2 (by omega) | have q3 : ((nx : Int) == ny) = false := beq_eq_false_iff_ne.2 (by omega)
  all_goals first | have q4 : ((nx : Int) != ny) = true := by rw [bne, q3]; rfl | have q4 : ((nx : Int) != ny) = false := by rw [bne, q3]; rfl
  all_goals clear hn
  all_goals refine wp_region_E (Array.replicate 31 true) 31 0 mixed (by rfl) ?_
  all_goals
    have hg1 := Gr.cell (w0 := w6) (by assumption) c1
    have hg2 := Gr.cell (w0 := w6) (by assumption) c2
    refine wpE_seg' [0, 2] 29 rfl (by kernel_rfl) ?_
    iterate 2 (refine seg_cons rfl ?_; go_big_quiet_step (rfl))
    refine seg_nil ?_
    clear hg1 hg2
  all_goals (refine wpE_one 1 (by kernel_rfl) rfl ?_; go_wp2_with fail)
  all_goals first | (refine (B1.out _ (by assumption)).mono ?_; rintro e W ⟨rfl, hW⟩; go_wp2_with fail; refine QE_intro hW ?_; have hE := ext_trans (show Below w6.heap.size w6 _ by assumption) hW; clear hW) | refine QE_intro (Below.refl _ _) ?_
  all_goals (refine wpE_one 3 (by kernel_rfl) rfl ?_; go_wp2_with fail)
  all_goals first | (refine (B2.out _ (by assumption)).mono ?_; rintro e W ⟨rfl, hW⟩; go_wp2_with fail; refine QE_intro hW ?_; have hE := ext_trans (show Below w6.heap.size w6 _ by assumption) hW; clear hW) | refine QE_intro (Below.refl _ _) ?_
  all_goals
    have hg1 := Gr.cell (w0 := w6) (by assumption) c1
    have hg2 := Gr.cell (w0 := w6) (by assumption) c2
    refine wpE_seg' [4, 5, 6, 7, 8, 9, 10, 12] 19 rfl (by kernel_rfl) ?_
    iterate 8 (refine seg_cons rfl ?_; go_big_quiet_step (rfl))
    refine seg_nil ?_
    clear hg1 hg2
  all_goals (refine wpE_one 11 (by kernel_rfl) rfl ?_; go_wp2_with fail)
  all_goals first | (refine (B1.out _ (by assumption)).mono ?_; rintro e W ⟨rfl, hW⟩; go_wp2_with fail; refine QE_intro hW ?_; have hE := ext_trans (show Below w6.heap.size w6 _ by assumption) hW; clear hW) | refine QE_intro (Below.refl _ _) ?_
  all_goals (refine wpE_one 13 (by kernel_rfl) rfl ?_; go_wp2_with fail)
  all_goals first | (refine (B2.out _ (by assumption)).mono ?_; rintro e W ⟨rfl, hW⟩; go_wp2_with fail; refine QE_intro hW ?_; have hE := ext_trans (show Below w6.heap.size w6 _ by assumption) hW; clear hW) | refine QE_intro (Below.refl _ _) ?_
  all_goals
    have hg1 := Gr.cell (w0 := w6) (by assumption) c1
    have hg2 := Gr.cell (w0 := w6) (by assumption) c2
    refine wpE_seg' [14, 15, 16, 17, 18, 19, 20, 21, 22, 23, 24, 26] 5 rfl (by kernel_rfl) ?_
    iterate 12 (refine seg_cons rfl ?_; go_big_quiet_step (rfl))
    refine seg_nil ?_
    clear hg1 hg2
  all_goals (refine wpE_one 25 (by kernel_rfl) rfl ?_; go_wp2_with fail)
  all_goals first | (refine (B1.out _ (by assumption)).mono ?_; rintro e W ⟨rfl, hW⟩; go_wp2_with fail; refine QE_intro hW ?_; have hE := ext_trans (show Below w6.heap.size w6 _ by assumption) hW; clear hW) | refine QE_intro (Below.refl _ _) ?_
  all_goals (refine wpE_one 27 (by kernel_rfl) rfl ?_; go_wp2_with fail)
  all_goals first | (refine (B2.out _ (by assumption)).mono ?_; rintro e W ⟨rfl, hW⟩; go_wp2_with fail; refine QE_intro hW ?_; have hE := ext_trans (show Below w6.heap.size w6 _ by assumption) hW; clear hW) | refine QE_intro (Below.refl _ _) ?_
  all_goals
    have hg1 := Gr.cell (w0 := w6) (by assumption) c1
    have hg2 := Gr.cell (w0 := w6) (by assumption) c2
    refine wpE_seg' [28, 29, 30] 0 rfl (by kernel_rfl) ?_
    iterate 3 (refine seg_cons rfl ?_; go_big_quiet_step (rfl))
    refine seg_nil ?_
    clear hg1 hg2
  all_goals (refine wpE_tail [] (by kernel_rfl) ?_; refine tail_nil ?_)
  all_goals
    have d1 := cellE (w0 := w6) (by assumption) c1
    have d2 := cellE (w0 := w6) (by assumption) c2
    go_wp2_with fail
    refine (A1.out _ (by assumption)).mono ?_
    rintro e W1 ⟨rs, rfl, ns1, hW1⟩
    go_wp2_with fail
    refine (B3.out _ _ ns1).mono ?_
    rintro e W2 ⟨rfl, hW2⟩
    have hE2 := ext_trans (show Below w6.heap.size w6 _ by assumption) (ext_trans hW1 hW2)
    have hE3 := ext_trans hE2 (ext_drew _)
    clear hW1 hW2 ns1 d1 d2
    obtain ⟨M, hM, hM1, hM2⟩ : ∃ M : Nat, max (nx : Int) (ny : Int) = (M : Int) ∧ M ≤ ns ∧ ns ≤ M + 1 := ⟨max nx ny, by omega, by omega, by omega⟩
    have q6 : decide (M ≤ ns) = true := decide_eq_true hM1
    have q7 : decide ((ns : Int) ≤ (M : Int) + 1) = true := decide_eq_true (by omega)
    clear q1 q2 q3 q4
    go_wp2_with fail
    refine wp_region_E (Array.replicate 18 true) 18 0 mixed (by rfl) ?_
  all_goals
    have hg1 := Gr.cell (w0 := w6) (by assumption) c1
    have hg2 := Gr.cell (w0 := w6) (by assumption) c2
    refine wpE_seg' [0, 1, 3] 15 rfl (by kernel_rfl) ?_
    iterate 3 (refine seg_cons rfl ?_; go_big_quiet_step (rfl))
    refine seg_nil ?_
    clear hg1 hg2
  all_goals (refine wpE_one 2 (by kernel_rfl) rfl ?_; go_wp2_with fail)
  all_goals first | (refine (B1.out _ (by assumption)).mono ?_; rintro e W ⟨rfl, hW⟩; go_wp2_with fail; refine QE_intro hW ?_; have hE := ext_trans (show Below w6.heap.size w6 _ by assumption) hW; clear hW) | refine QE_intro (Below.refl _ _) ?_
  all_goals (refine wpE_one 4 (by kernel_rfl) rfl ?_; go_wp2_with fail)
  all_goals first | (refine (B2.out _ (by assumption)).mono ?_; rintro e W ⟨rfl, hW⟩; go_wp2_with fail; refine QE_intro hW ?_; have hE := ext_trans (show Below w6.heap.size w6 _ by assumption) hW; clear hW) | refine QE_intro (Below.refl _ _) ?_
  all_goals
    have hg1 := Gr.cell (w0 := w6) (by assumption) c1
    have hg2 := Gr.cell (w0 := w6) (by assumption) c2
    refine wpE_seg' [5, 6, 7, 8, 9, 11] 7 rfl (by kernel_rfl) ?_
    iterate 6 (refine seg_cons rfl ?_; go_big_quiet_step (rfl))
    refine seg_nil ?_
    clear hg1 hg2
  all_goals (refine wpE_one 10 (by kernel_rfl) rfl ?_; go_wp2_with fail)
  all_goals first | (refine (B1.out _ (by assumption)).mono ?_; rintro e W ⟨rfl, hW⟩; go_wp2_with fail; refine QE_intro hW ?_; have hE := ext_trans (show Below w6.heap.size w6 _ by assumption) hW; clear hW) | refine QE_intro (Below.refl _ _) ?_
  all_goals (refine wpE_one 12 (by kernel_rfl) rfl ?_; go_wp2_with fail)
  all_goals first | (refine (B2.out _ (by assumption)).mono ?_; rintro e W ⟨rfl, hW⟩; go_wp2_with fail; refine QE_intro hW ?_; have hE := ext_trans (show Below w6.heap.size w6 _ by assumption) hW; clear hW) | refine QE_intro (Below.refl _ _) ?_
  all_goals
    have hg1 := Gr.cell (w0 := w6) (by assumption) c1
    have hg2 := Gr.cell (w0 := w6) (by assumption) c2
    refine wpE_seg' [13, 14, 15, 16, 17] 0 rfl (by kernel_rfl) ?_
    iterate 5 (refine seg_cons rfl ?_; go_big_quiet_step (rfl))
    refine seg_nil ?_
    clear hg1 hg2
  all_goals (refine wpE_tail [] (by kernel_rfl) ?_; refine tail_nil ?_)
  all_goals go_wp2_with fail
  all_goals go_ret
  all_goals exact ⟨rfl, ext_trans E6 (by assumption)⟩
end Go.Proofs.Ytcabmibcgedhhaa

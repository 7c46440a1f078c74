/-
  The walk of the law NatCompares.
-/
import Derived.Test.YtcabmibcgedhhaaRef4
namespace Go.Proofs.Ytcabmibcgedhhaa
open Go.RowKit Go.Cd

theorem cmp_swap (x y : Nat) : cmpN y x = -cmpN x y := by
  unfold cmpN
  by_cases h : x < y
  · rw [if_neg (by omega), if_pos h, if_pos h]; rfl
  · by_cases h' : y < x
    · rw [if_pos h', if_neg h, if_pos h']
    · rw [if_neg h', if_neg h, if_neg h, if_neg h']; rfl

theorem cmp_add (x y z : Nat) : cmpN (x + z) (y + z) = cmpN x y := by
  unfold cmpN
  by_cases h : x < y
  · rw [if_pos h, if_pos (by omega)]
  · by_cases h' : y < x
    · rw [if_neg h, if_pos h', if_neg (by omega), if_pos (by omega)]
    · rw [if_neg h, if_neg h', if_neg (by omega), if_neg (by omega)]

theorem cmp_le_trans {x y z : Nat} (h : cmpN x y ≤ 0) (h' : cmpN y z ≤ 0) : cmpN x z ≤ 0 := by
  have e : ∀ x y : Nat, cmpN x y ≤ 0 ↔ x ≤ y := fun x y => by
    unfold cmpN
    by_cases h : x < y
    · rw [if_pos h]; omega
    · by_cases h' : y < x
      · rw [if_neg h, if_pos h']; omega
      · rw [if_neg h, if_neg h']; omega
  rw [e] at *; omega

theorem cmp_cases (x y : Nat) : (cmpN x y = -1 ∧ cmpN y x = 1 ∧ decide (x = y) = false) ∨ (cmpN x y = 1 ∧ cmpN y x = -1 ∧ decide (x = y) = false) ∨ (cmpN x y = 0 ∧ cmpN y x = 0 ∧ decide (x = y) = true) := by
  rcases Nat.lt_trichotomy x y with h | h | h
  · exact .inl ⟨cmp_of_lt h, cmp_of_gt h, decide_eq_false (by omega)⟩
  · subst h; exact .inr (.inr ⟨cmp_self _, cmp_self _, decide_eq_true rfl⟩)
  · exact .inr (.inl ⟨cmp_of_gt h, cmp_of_lt h, decide_eq_false (by omega)⟩)

theorem lenAdd {x y n : Nat} (hx : (digs B x).length ≤ n) (hy : (digs B y).length ≤ n) : (digs B (x + y)).length ≤ n + 1 :=
  lenB_le (add_lt_pow two_le_B ((len_digs_le two_le_B).1 hx) ((len_digs_le two_le_B).1 hy))

set_option maxRecDepth 100000 in
set_option maxHeartbeats 1600000 in
theorem natCompares_ok {w : World} {v u t : Value} {l m q : List Nat} (h : SlA w v (u32s l)) (k : SlA w u (u32s m)) (j : SlA w t (u32s q)) (hl : ∀ d ∈ l, d < B) (hm : ∀ d ∈ m, d < B) (hq : ∀ d ∈ q, d < B) :
    Calls Try.prog 8 #[v, u, t] w fun e w' => e = .returned (.bool true) ∧ Below w.heap.size w w' := by
  have hl' := take_lt hl
  have hm' := take_lt hm
  have hq' := take_lt hq
  have lx := fewLen l hl
  have ly := fewLen m hm
  have lz := fewLen q hq
  have F1 := Lib.hid (fun (W : World) (E : Below w.heap.size w W) => few_ok (h.mono E))
  have F2 := Lib.hid (fun (W : World) (E : Below w.heap.size w W) => few_ok (k.mono E))
  have F3 := Lib.hid (fun (W : World) (E : Below w.heap.size w W) => few_ok (j.mono E))
  have HL := Lib.hid hl'
  have HM := Lib.hid hm'
  have HQ := Lib.hid hq'
  have lenl : (l.take 40).length ≤ 40 := by simp; omega
  have lenm : (m.take 40).length ≤ 40 := by simp; omega
  have lenq : (q.take 40).length ≤ 40 := by simp; omega
  generalize l.take 40 = l' at *
  generalize m.take 40 = m' at *
  generalize q.take 40 = q' at *
  clear h k j hl hm hq hl' hm' hq'
  go_enter Try.func8, Try.ntmps8
  go_wp2_with fail
  refine (awake01_ok _).mono ?_
  rintro e w1 ⟨rfl, h1⟩
  go_wp2_with fail
  refine (F1.out _ h1).mono ?_
  rintro e w2 ⟨r2, rfl, n2, h2⟩
  go_wp2_with fail
  refine (limbs_ok (Sl.of_own n2) HL.out (by omega)).mono ?_
  rintro e w3 ⟨r3, rfl, n3, h3⟩
  have E3 := ext_trans h1 (ext_trans h2 h3)
  clear n2 h1 h2 h3
  go_wp2_with fail
  refine (F2.out _ E3).mono ?_
  rintro e w4 ⟨r4, rfl, n4, h4⟩
  go_wp2_with fail
  refine (limbs_ok (Sl.of_own n4) HM.out (by omega)).mono ?_
  rintro e w5 ⟨r5, rfl, n5, h5⟩
  have N3 := n3.mono (ext_trans h4 h5)
  have E5 := ext_trans E3 (ext_trans h4 h5)
  clear n4 h4 h5 n3 E3
  go_wp2_with fail
  refine (F3.out _ E5).mono ?_
  rintro e w6 ⟨r6, rfl, n6, h6⟩
  go_wp2_with fail
  refine (limbs_ok (Sl.of_own n6) HQ.out (by omega)).mono ?_
  rintro e w7 ⟨r7, rfl, n7, h7⟩
  have N3 := N3.mono (ext_trans h6 h7)
  have N5 := n5.mono (ext_trans h6 h7)
  have E7 := ext_trans E5 (ext_trans h6 h7)
  clear n6 h6 h7 n5 E5
  have o1 := fun (W : World) (v : Value) (h : Sl eU32 W v (u32s l')) => refOf_ok h HL.out (by omega)
  have o2 := fun (W : World) (v : Value) (h : Sl eU32 W v (u32s m')) => refOf_ok h HM.out (by omega)
  generalize val B l' = X at *
  generalize val B m' = Y at *
  generalize val B q' = Z at *
  have O1 := Lib.hid o1
  have O2 := Lib.hid o2
  clear o1 o2
  obtain ⟨a, n, cap, rfl, N3⟩ := N3.out
  obtain ⟨a2, q2, cap2, rfl, N5⟩ := N5.out
  obtain ⟨a3, q3, cap3, rfl, N7⟩ := n7.out
  clear n7
  have E78 := (below2 (w := w7) (.cells #[.slice a n cap] 42) (.cells #[.slice a2 q2 cap2] 42)).alloc (by simp; omega) (.cells #[.slice a3 q3 cap3] 42)
  go_wp2_with fail
  refine (compare_ok (x := X) (y := Y) (N3.mono E78) (N5.mono E78) (by omega) (by omega)).mono ?_
  rintro e w8 ⟨rfl, h8⟩
  have c1 : w8.cell? ⟨w7.heap.size, 0, none⟩ = some (.slice a n cap) := cellE h8 (by go_simp)
  have c2 : w8.cell? ⟨w7.heap.size + 1, 0, none⟩ = some (.slice a2 q2 cap2) := cellE h8 (by go_simp)
  have c3 : w8.cell? ⟨w7.heap.size + 1 + 1, 0, none⟩ = some (.slice a3 q3 cap3) := cellE h8 (by go_simp)
  have E8 := ext_trans E78 h8
  have N1 := N3.mono E8
  have N2 := N5.mono E8
  have N3 := N7.mono E8
  have EW := ext_trans E7 E8
  have lx10 : (digs 10 X).length < 1073741824 := by have := len10_le ((len_digs_le two_le_B).1 lx); omega
  have ly10 : (digs 10 Y).length < 1073741824 := by have := len10_le ((len_digs_le two_le_B).1 ly); omega
  have lxz := lenAdd lx lz
  have lyz := lenAdd ly lz
  have htr := cmp_le_trans (x := X) (y := Y) (z := Z)
  have hsum := cmp_add X Y Z
  have RC := Lib.hid (fun (W : World) (v u : Value) (h : DecV W v X) (g : DecV W u Y) => refCompare_ok h g lx10 ly10)
  have C21 := Lib.hid (fun (W : World) (E : Below w8.heap.size w8 W) => compare_ok (N2.mono E) (N1.mono E) (by omega) (by omega))
  have C23 := Lib.hid (fun (W : World) (E : Below w8.heap.size w8 W) => compare_ok (N2.mono E) (N3.mono E) (by omega) (by omega))
  have C13 := Lib.hid (fun (W : World) (E : Below w8.heap.size w8 W) => compare_ok (N1.mono E) (N3.mono E) (by omega) (by omega))
  have C11 := Lib.hid (fun (W : World) (E : Below w8.heap.size w8 W) => compare_ok (N1.mono E) (N1.mono E) (by omega) (by omega))
  have S12 := Lib.hid (fun (W : World) (E : Below w8.heap.size w8 W) => same_ok (N1.mono E) (N2.mono E) (by omega))
  have A13 := Lib.hid (fun (W : World) (E : Below w8.heap.size w8 W) => add_ok (N1.mono E) (N3.mono E) (by omega) (by omega))
  have A23 := Lib.hid (fun (W : World) (E : Below w8.heap.size w8 W) => add_ok (N2.mono E) (N3.mono E) (by omega) (by omega))
  have CS := Lib.hid (fun (W : World) (v u : Value) (h : NatV W v (X + Z)) (g : NatV W u (Y + Z)) => compare_ok h g (by omega) (by omega))
  have f1 := F1
  have F1' := Lib.hid (fun (W : World) (E : Below w8.heap.size w8 W) => F1.out W (ext_trans EW E))
  have F2' := Lib.hid (fun (W : World) (E : Below w8.heap.size w8 W) => F2.out W (ext_trans EW E))
  clear N1 N2 N3 N5 N7 E78 h8 E8 E7 F1 F2 F3 f1 lx ly lz lxz lyz lx10 ly10
  have hcase := cmp_cases X Y
  rw [hsum] at CS
  rw [cmp_self] at C11
  generalize cmpN X Y = r at *
  generalize cmpN Y X = r' at *
  generalize cmpN Y Z = r2 at *
  generalize cmpN X Z = r3 at *
  generalize decide (X = Y) = sm at *
  clear hsum
  rcases hcase with ⟨rfl, rfl, rfl⟩ | ⟨rfl, rfl, rfl⟩ | ⟨rfl, rfl, rfl⟩
  all_goals
    go_wp2_with fail
    refine (F1'.out _ (Below.refl _ _)).mono ?_
    rintro e x1 ⟨v1, rfl, m1, g1⟩
    go_wp2_with fail
    refine (O1.out _ _ (Sl.of_own m1)).mono ?_
    rintro e x2 ⟨v2, rfl, m2, g2⟩
    have G2 := ext_trans g1 g2
    clear m1 g1 g2
    go_wp2_with fail
    refine (F2'.out _ G2).mono ?_
    rintro e x3 ⟨v3, rfl, m3, g3⟩
    go_wp2_with fail
    refine (O2.out _ _ (Sl.of_own m3)).mono ?_
    rintro e x4 ⟨v4, rfl, m4, g4⟩
    have M2 := m2.mono (ext_trans g3 g4)
    have G4 := ext_trans G2 (ext_trans g3 g4)
    clear m3 g3 g4 m2 G2
    go_wp2_with fail
    refine (RC.out _ _ _ M2 m4).mono ?_
    rintro e x5 ⟨rfl, g5⟩
    have G5 := ext_trans G4 g5
    have d1 := cellE G5 c1
    have d2 := cellE G5 c2
    clear M2 m4 g5 G4
    go_wp2_with fail
    refine (C21.out _ G5).mono ?_
    rintro e x6 ⟨rfl, g6⟩
    have G6 := ext_trans G5 g6
    have d1 := cellE G6 c1
    have d2 := cellE G6 c2
    go_wp2_with fail
    refine (S12.out _ G6).mono ?_
    rintro e x7 ⟨rfl, g7⟩
    have G7 := ext_trans G6 g7
    have d1 := cellE G7 c1
    have d2 := cellE G7 c2
    go_wp2_with fail
    refine (C11.out _ G7).mono ?_
    rintro e x8 ⟨rfl, g8⟩
    have G8 := ext_trans G7 g8
    clear g6 g7 g8 G5 G6 G7
    have d1 := cellE G8 c1
    have d2 := cellE G8 c2
    have d3 := cellE G8 c3
    go_wp2_with fail
  · refine (C23.out _ G8).mono ?_
    rintro e x9 ⟨rfl, g9⟩
    have G9 := ext_trans G8 g9
    clear g9 G8 d1 d2 d3
    have d1 := cellE G9 c1
    have d3 := cellE G9 c3
    by_cases hr2 : r2 ≤ 0
    · have hr3 := htr (by omega) hr2
      clear htr
      go_wp2_with fail
      refine (C13.out _ G9).mono ?_
      rintro e x10 ⟨rfl, g10⟩
      have G10 := ext_trans G9 g10
      clear g10 G9 d1 d3
      go_wp2_with fail
      refine wp_region_E (Array.replicate 10 true) 10 0 mixed (by rfl) ?_
      have T0 := ext_trans G10 (ext_drew _)
      have hg1 := Gr.cell T0 c1
      have hg2 := Gr.cell T0 c2
      have hg3 := Gr.cell T0 c3
      refine wpE_seg' [0, 1, 3, 4, 7] 5 rfl (by kernel_rfl) ?_
      iterate 5 (refine seg_cons rfl ?_; go_big_quiet_step (rfl))
      refine seg_nil ?_
      clear hg1 hg2 hg3
      refine wpE_one 2 (by kernel_rfl) rfl ?_
      go_wp2_with fail
      refine (A13.out _ T0).mono ?_
      rintro e y1 ⟨s1, rfl, k1, t1⟩
      go_wp2_with fail
      refine QE_intro t1 ?_
      have T1 := ext_trans T0 t1
      refine wpE_one 5 (by kernel_rfl) rfl ?_
      go_wp2_with fail
      refine (A23.out _ T1).mono ?_
      rintro e y2 ⟨s2, rfl, k2, t2⟩
      go_wp2_with fail
      refine QE_intro t2 ?_
      have T2 := ext_trans T1 t2
      refine wpE_one 6 (by kernel_rfl) rfl ?_
      go_wp2_with fail
      refine (CS.out _ _ _ (k1.mono t2) k2).mono ?_
      rintro e y3 ⟨rfl, t3⟩
      go_wp2_with fail
      refine QE_intro t3 ?_
      have T3 := ext_trans T2 t3
      refine wpE_seg' [8, 9] 0 rfl (by kernel_rfl) ?_
      iterate 2 (refine seg_cons rfl ?_; go_big_quiet_step (rfl))
      refine seg_nil ?_
      refine wpE_tail [] (by kernel_rfl) ?_
      refine tail_nil ?_
      go_wp2
      go_ret
      exact ⟨rfl, ext_trans EW T3⟩
    · clear htr
      go_wp2_with fail
      refine wp_region_E (Array.replicate 10 true) 10 0 mixed (by rfl) ?_
      have T0 := ext_trans G9 (ext_drew _)
      have hg1 := Gr.cell T0 c1
      have hg2 := Gr.cell T0 c2
      have hg3 := Gr.cell T0 c3
      refine wpE_seg' [0, 1, 3, 4, 7] 5 rfl (by kernel_rfl) ?_
      iterate 5 (refine seg_cons rfl ?_; go_big_quiet_step (rfl))
      refine seg_nil ?_
      clear hg1 hg2 hg3
      refine wpE_one 2 (by kernel_rfl) rfl ?_
      go_wp2_with fail
      refine (A13.out _ T0).mono ?_
      rintro e y1 ⟨s1, rfl, k1, t1⟩
      go_wp2_with fail
      refine QE_intro t1 ?_
      have T1 := ext_trans T0 t1
      refine wpE_one 5 (by kernel_rfl) rfl ?_
      go_wp2_with fail
      refine (A23.out _ T1).mono ?_
      rintro e y2 ⟨s2, rfl, k2, t2⟩
      go_wp2_with fail
      refine QE_intro t2 ?_
      have T2 := ext_trans T1 t2
      refine wpE_one 6 (by kernel_rfl) rfl ?_
      go_wp2_with fail
      refine (CS.out _ _ _ (k1.mono t2) k2).mono ?_
      rintro e y3 ⟨rfl, t3⟩
      go_wp2_with fail
      refine QE_intro t3 ?_
      have T3 := ext_trans T2 t3
      refine wpE_seg' [8, 9] 0 rfl (by kernel_rfl) ?_
      iterate 2 (refine seg_cons rfl ?_; go_big_quiet_step (rfl))
      refine seg_nil ?_
      refine wpE_tail [] (by kernel_rfl) ?_
      refine tail_nil ?_
      go_wp2
      go_ret
      exact ⟨rfl, ext_trans EW T3⟩
  · clear d1 d2 d3
    refine wp_region_E (Array.replicate 10 true) 10 0 mixed (by rfl) ?_
    have T0 := ext_trans G8 (ext_drew _)
    have hg1 := Gr.cell T0 c1
    have hg2 := Gr.cell T0 c2
    have hg3 := Gr.cell T0 c3
    refine wpE_seg' [0, 1, 3, 4, 7] 5 rfl (by kernel_rfl) ?_
    iterate 5 (refine seg_cons rfl ?_; go_big_quiet_step (rfl))
    refine seg_nil ?_
    clear hg1 hg2 hg3
    refine wpE_one 2 (by kernel_rfl) rfl ?_
    go_wp2_with fail
    refine (A13.out _ T0).mono ?_
    rintro e y1 ⟨s1, rfl, k1, t1⟩
    go_wp2_with fail
    refine QE_intro t1 ?_
    have T1 := ext_trans T0 t1
    refine wpE_one 5 (by kernel_rfl) rfl ?_
    go_wp2_with fail
    refine (A23.out _ T1).mono ?_
    rintro e y2 ⟨s2, rfl, k2, t2⟩
    go_wp2_with fail
    refine QE_intro t2 ?_
    have T2 := ext_trans T1 t2
    refine wpE_one 6 (by kernel_rfl) rfl ?_
    go_wp2_with fail
    refine (CS.out _ _ _ (k1.mono t2) k2).mono ?_
    rintro e y3 ⟨rfl, t3⟩
    go_wp2_with fail
    refine QE_intro t3 ?_
    have T3 := ext_trans T2 t3
    refine wpE_seg' [8, 9] 0 rfl (by kernel_rfl) ?_
    iterate 2 (refine seg_cons rfl ?_; go_big_quiet_step (rfl))
    refine seg_nil ?_
    refine wpE_tail [] (by kernel_rfl) ?_
    refine tail_nil ?_
    go_wp2
    go_ret
    exact ⟨rfl, ext_trans EW T3⟩
  · refine (C23.out _ G8).mono ?_
    rintro e x9 ⟨rfl, g9⟩
    have G9 := ext_trans G8 g9
    clear g9 G8 d1 d2 d3
    have d1 := cellE G9 c1
    have d3 := cellE G9 c3
    by_cases hr2 : r2 ≤ 0
    · have hr3 := htr (by omega) hr2
      clear htr
      go_wp2_with fail
      refine (C13.out _ G9).mono ?_
      rintro e x10 ⟨rfl, g10⟩
      have G10 := ext_trans G9 g10
      clear g10 G9 d1 d3
      go_wp2_with fail
      refine wp_region_E (Array.replicate 10 true) 10 0 mixed (by rfl) ?_
      have T0 := ext_trans G10 (ext_drew _)
      have hg1 := Gr.cell T0 c1
      have hg2 := Gr.cell T0 c2
      have hg3 := Gr.cell T0 c3
      refine wpE_seg' [0, 1, 3, 4, 7] 5 rfl (by kernel_rfl) ?_
      iterate 5 (refine seg_cons rfl ?_; go_big_quiet_step (rfl))
      refine seg_nil ?_
      clear hg1 hg2 hg3
      refine wpE_one 2 (by kernel_rfl) rfl ?_
      go_wp2_with fail
      refine (A13.out _ T0).mono ?_
      rintro e y1 ⟨s1, rfl, k1, t1⟩
      go_wp2_with fail
      refine QE_intro t1 ?_
      have T1 := ext_trans T0 t1
      refine wpE_one 5 (by kernel_rfl) rfl ?_
      go_wp2_with fail
      refine (A23.out _ T1).mono ?_
      rintro e y2 ⟨s2, rfl, k2, t2⟩
      go_wp2_with fail
      refine QE_intro t2 ?_
      have T2 := ext_trans T1 t2
      refine wpE_one 6 (by kernel_rfl) rfl ?_
      go_wp2_with fail
      refine (CS.out _ _ _ (k1.mono t2) k2).mono ?_
      rintro e y3 ⟨rfl, t3⟩
      go_wp2_with fail
      refine QE_intro t3 ?_
      have T3 := ext_trans T2 t3
      refine wpE_seg' [8, 9] 0 rfl (by kernel_rfl) ?_
      iterate 2 (refine seg_cons rfl ?_; go_big_quiet_step (rfl))
      refine seg_nil ?_
      refine wpE_tail [] (by kernel_rfl) ?_
      refine tail_nil ?_
      go_wp2
      go_ret
      exact ⟨rfl, ext_trans EW T3⟩
    · clear htr
      go_wp2_with fail
      refine wp_region_E (Array.replicate 10 true) 10 0 mixed (by rfl) ?_
      have T0 := ext_trans G9 (ext_drew _)
      have hg1 := Gr.cell T0 c1
      have hg2 := Gr.cell T0 c2
      have hg3 := Gr.cell T0 c3
      refine wpE_seg' [0, 1, 3, 4, 7] 5 rfl (by kernel_rfl) ?_
      iterate 5 (refine seg_cons rfl ?_; go_big_quiet_step (rfl))
      refine seg_nil ?_
      clear hg1 hg2 hg3
      refine wpE_one 2 (by kernel_rfl) rfl ?_
      go_wp2_with fail
      refine (A13.out _ T0).mono ?_
      rintro e y1 ⟨s1, rfl, k1, t1⟩
      go_wp2_with fail
      refine QE_intro t1 ?_
      have T1 := ext_trans T0 t1
      refine wpE_one 5 (by kernel_rfl) rfl ?_
      go_wp2_with fail
      refine (A23.out _ T1).mono ?_
      rintro e y2 ⟨s2, rfl, k2, t2⟩
      go_wp2_with fail
      refine QE_intro t2 ?_
      have T2 := ext_trans T1 t2
      refine wpE_one 6 (by kernel_rfl) rfl ?_
      go_wp2_with fail
      refine (CS.out _ _ _ (k1.mono t2) k2).mono ?_
      rintro e y3 ⟨rfl, t3⟩
      go_wp2_with fail
      refine QE_intro t3 ?_
      have T3 := ext_trans T2 t3
      refine wpE_seg' [8, 9] 0 rfl (by kernel_rfl) ?_
      iterate 2 (refine seg_cons rfl ?_; go_big_quiet_step (rfl))
      refine seg_nil ?_
      refine wpE_tail [] (by kernel_rfl) ?_
      refine tail_nil ?_
      go_wp2
      go_ret
      exact ⟨rfl, ext_trans EW T3⟩

end Go.Proofs.Ytcabmibcgedhhaa

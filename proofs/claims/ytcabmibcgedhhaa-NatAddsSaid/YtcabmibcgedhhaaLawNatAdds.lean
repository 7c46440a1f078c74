/-
  The walk of the law NatAdds.
-/
import Derived.Test.YtcabmibcgedhhaaLawNatCompares
import Derived.Test.YtcabmibcgedhhaaFlow2
namespace Go.Proofs.Ytcabmibcgedhhaa
open Go.RowKit Go.Cd

set_option maxRecDepth 100000 in
set_option maxHeartbeats 3200000 in
theorem natAdds_ok {w : World} {v u : Value} {l m : List Nat} (h : SlA w v (u32s l)) (k : SlA w u (u32s m)) (hl : ∀ d ∈ l, d < B) (hm : ∀ d ∈ m, d < B) :
    Calls Try.prog 10 #[v, u] w fun e w' => e = .returned (.bool true) ∧ Below w.heap.size w w' := by
  have hl' := take_lt hl
  have hm' := take_lt hm
  have lx := fewLen l hl
  have ly := fewLen m hm
  have F1 := Lib.hid (fun (W : World) (E : Below w.heap.size w W) => few_ok (h.mono E))
  have F2 := Lib.hid (fun (W : World) (E : Below w.heap.size w W) => few_ok (k.mono E))
  have HL := Lib.hid hl'
  have HM := Lib.hid hm'
  have lenl : (l.take 40).length ≤ 40 := by simp; omega
  have lenm : (m.take 40).length ≤ 40 := by simp; omega
  generalize l.take 40 = l' at *
  generalize m.take 40 = m' at *
  clear h k hl hm hl' hm'
  go_enter Try.func10, Try.ntmps10
  go_wp2_with fail
  refine (awake01_ok _).mono ?_
  rintro e w1 ⟨rfl, h1⟩
  go_wp2_with fail
  refine (F1.out _ h1).mono ?_
  rintro e w2 ⟨r2, rfl, n2, h2⟩
  go_wp2_with fail
  refine (F2.out _ (ext_trans h1 h2)).mono ?_
  rintro e w3 ⟨r3, rfl, n3, h3⟩
  have L2 := Sl.of_own (own_ext n2 h3)
  have L3 := Sl.of_own n3
  have E3 := ext_trans h1 (ext_trans h2 h3)
  clear n2 n3 h1 h2 h3
  go_wp2_with fail
  refine (limbs_ok L2 HL.out (by omega)).mono ?_
  rintro e w4 ⟨r4, rfl, n4, h4⟩
  go_wp2_with fail
  refine (limbs_ok (L3.mono h4) HM.out (by omega)).mono ?_
  rintro e w5 ⟨r5, rfl, n5, h5⟩
  have N4 := n4.mono h5
  have E5 := ext_trans E3 (ext_trans h4 h5)
  have L2 := L2.mono (ext_trans h4 h5)
  have L3 := L3.mono (ext_trans h4 h5)
  clear n4 h4 h5 E3
  have o1 := fun (W : World) (E : Below w5.heap.size w5 W) => refOf_ok (L2.mono E) HL.out (by omega)
  have o2 := fun (W : World) (E : Below w5.heap.size w5 W) => refOf_ok (L3.mono E) HM.out (by omega)
  have O1 := Lib.hid o1
  have O2 := Lib.hid o2
  clear o1 o2 L2 L3
  generalize val B l' = X at *
  generalize val B m' = Y at *
  obtain ⟨a, n, cap, rfl, N4⟩ := N4.out
  obtain ⟨a2, q2, cap2, rfl, N5⟩ := n5.out
  clear n5
  have E56 := below2 (w := w5) (.cells #[.slice a n cap] 42) (.cells #[.slice a2 q2 cap2] 42)
  go_wp2_with fail
  refine (O1.out _ E56).mono ?_
  rintro e w6 ⟨r6, rfl, n6, h6⟩
  go_wp2_with fail
  refine (O2.out _ (ext_trans E56 h6)).mono ?_
  rintro e w7 ⟨r7, rfl, n7, h7⟩
  have D1 := n6.mono h7
  have c1 : w7.cell? ⟨w5.heap.size, 0, none⟩ = some (.slice a n cap) := cellE (ext_trans h6 h7) (by go_simp)
  have c2 : w7.cell? ⟨w5.heap.size + 1, 0, none⟩ = some (.slice a2 q2 cap2) := cellE (ext_trans h6 h7) (by go_simp)
  have E7 := ext_trans E56 (ext_trans h6 h7)
  have N1 := N4.mono E7
  have N2 := N5.mono E7
  have EW := ext_trans E5 E7
  have lx10 : (digs 10 X).length < 1073741824 := by have := len10_le ((len_digs_le two_le_B).1 lx); omega
  have ly10 : (digs 10 Y).length < 1073741824 := by have := len10_le ((len_digs_le two_le_B).1 ly); omega
  have ls := lenAdd lx ly
  have ls10 : (digs 10 (X + Y)).length < 1073741824 := by have := len10_le ((len_digs_le two_le_B).1 ls); omega
  have I1 := Lib.hid (fun (W : World) (E : Below w7.heap.size w7 W) => is_ok (N1.mono E) (D1.mono E) (by omega) lx10)
  have I2 := Lib.hid (fun (W : World) (E : Below w7.heap.size w7 W) => is_ok (N2.mono E) (n7.mono E) (by omega) ly10)
  have A12 := Lib.hid (fun (W : World) (E : Below w7.heap.size w7 W) => add_ok (N1.mono E) (N2.mono E) (by omega) (by omega))
  have A21 := Lib.hid (fun (W : World) (E : Below w7.heap.size w7 W) => add_ok (N2.mono E) (N1.mono E) (by omega) (by omega))
  have RA := Lib.hid (fun (W : World) (E : Below w7.heap.size w7 W) => refAdd_ok (D1.mono E) (n7.mono E) lx10 ly10)
  have RC := Lib.hid (fun (W : World) (E : Below w7.heap.size w7 W) => refCompare_ok (D1.mono E) (n7.mono E) lx10 ly10)
  have IS := Lib.hid (fun (W : World) (v u : Value) (h : NatV W v (X + Y)) (g : DecV W u (X + Y)) => is_ok h g (by omega) ls10)
  have SS := Lib.hid (fun (W : World) (v u : Value) (h : NatV W v (X + Y)) (g : NatV W u (Y + X)) => same_ok h g (by omega))
  rw [show decide (X = X) = true from decide_eq_true rfl] at I1
  rw [show decide (Y = Y) = true from decide_eq_true rfl] at I2
  rw [show decide (X + Y = X + Y) = true from decide_eq_true rfl] at IS
  rw [show decide (X + Y = Y + X) = true from decide_eq_true (Nat.add_comm _ _)] at SS
  have SubL := Lib.hid (fun (W : World) (E : Below w7.heap.size w7 W) (hlt : X < Y) => sub_less (N1.mono E) (N2.mono E) (by omega) (by omega) hlt)
  have SubG := Lib.hid (fun (W : World) (E : Below w7.heap.size w7 W) (hle : Y ≤ X) => sub_ok (N1.mono E) (N2.mono E) (by omega) (by omega) hle)
  have RS := Lib.hid (fun (W : World) (E : Below w7.heap.size w7 W) (hle : Y ≤ X) => refSub_ok (D1.mono E) (n7.mono E) lx10 hle)
  have hlens : ∀ z, z ≤ X → (digs B z).length ≤ 40 ∧ (digs 10 z).length < 1073741824 := fun z hz => by
    have h1 := len_mono two_le_B hz
    have h2 := len_mono (b := 10) (by omega) hz
    omega
  have HLens := Lib.hid hlens
  have Sub2 := Lib.hid (fun (W : World) (v u : Value) (h : NatV W v (X + Y)) (g : NatV W u Y) => sub_ok h g (by omega) (by omega) (by omega))
  rw [show X + Y - Y = X from by omega] at Sub2
  have SX := Lib.hid (fun (W : World) (v : Value) (h : NatV W v X) (E : Below w7.heap.size w7 W) => same_ok h (N1.mono E) (by omega))
  rw [show decide (X = X) = true from decide_eq_true rfl] at SX
  have HN2 := Lib.hid (fun (W : World) (E : Below w7.heap.size w7 W) => N2.mono E)
  clear N1 N2 N4 N5 D1 n6 n7 h6 h7 E7 E56 E5 F1 F2 hlens
  have T0 := ext_refl w7
  go_wp2_with fail
  refine wp_region_E (Array.replicate 30 true) 30 0 mixed (by rfl) ?_
  have kE0 := ext_trans T0 (ext_drew _)
  have hg0 := Gr.cell kE0 c1
  have hg1 := Gr.cell kE0 c2
  refine wpE_seg' [0, 1] 28 rfl (by kernel_rfl) ?_
  iterate 2 (refine seg_cons rfl ?_; go_big_quiet_step (rfl))
  refine seg_nil ?_
  clear hg0 hg1
  refine wpE_one 2 (by kernel_rfl) rfl ?_
  go_wp2_with fail
  refine (I1.out _ kE0).mono ?_
  rintro e k1w ⟨rfl, k1b⟩
  go_wp2_with fail
  refine QE_intro k1b ?_
  have k1E := ext_trans kE0 k1b
  have hg0 := Gr.cell k1E c1
  have hg1 := Gr.cell k1E c2
  refine wpE_seg' [3, 4, 5, 6] 23 rfl (by kernel_rfl) ?_
  iterate 4 (refine seg_cons rfl ?_; go_big_quiet_step (rfl))
  refine seg_nil ?_
  clear hg0 hg1
  refine wpE_one 7 (by kernel_rfl) rfl ?_
  go_wp2_with fail
  refine (I2.out _ k1E).mono ?_
  rintro e k2w ⟨rfl, k2b⟩
  go_wp2_with fail
  refine QE_intro k2b ?_
  have k2E := ext_trans k1E k2b
  have hg0 := Gr.cell k2E c1
  have hg1 := Gr.cell k2E c2
  refine wpE_seg' [8, 9, 10, 11, 12, 14, 15] 15 rfl (by kernel_rfl) ?_
  iterate 7 (refine seg_cons rfl ?_; go_big_quiet_step (rfl))
  refine seg_nil ?_
  clear hg0 hg1
  refine wpE_one 13 (by kernel_rfl) rfl ?_
  go_wp2_with fail
  refine (A12.out _ k2E).mono ?_
  rintro e k3w ⟨s1, rfl, p1, k3b⟩
  go_wp2_with fail
  refine QE_intro k3b ?_
  have k3E := ext_trans k2E k3b
  refine wpE_one 16 (by kernel_rfl) rfl ?_
  go_wp2_with fail
  refine (RA.out _ k3E).mono ?_
  rintro e k4w ⟨s2, rfl, p2, k4b⟩
  go_wp2_with fail
  refine QE_intro k4b ?_
  have k4E := ext_trans k3E k4b
  refine wpE_one 17 (by kernel_rfl) rfl ?_
  go_wp2_with fail
  refine (IS.out _ _ _ (p1.mono k4b) p2).mono ?_
  rintro e k5w ⟨rfl, k5b⟩
  go_wp2_with fail
  refine QE_intro k5b ?_
  have k5E := ext_trans k4E k5b
  have hg0 := Gr.cell k5E c1
  have hg1 := Gr.cell k5E c2
  refine wpE_seg' [18, 19, 20, 21, 22, 24, 25] 5 rfl (by kernel_rfl) ?_
  iterate 7 (refine seg_cons rfl ?_; go_big_quiet_step (rfl))
  refine seg_nil ?_
  clear hg0 hg1
  refine wpE_one 23 (by kernel_rfl) rfl ?_
  go_wp2_with fail
  refine (A12.out _ k5E).mono ?_
  rintro e k6w ⟨s3, rfl, p3, k6b⟩
  go_wp2_with fail
  refine QE_intro k6b ?_
  have k6E := ext_trans k5E k6b
  refine wpE_one 26 (by kernel_rfl) rfl ?_
  go_wp2_with fail
  refine (A21.out _ k6E).mono ?_
  rintro e k7w ⟨s4, rfl, p4, k7b⟩
  go_wp2_with fail
  refine QE_intro k7b ?_
  have k7E := ext_trans k6E k7b
  refine wpE_one 27 (by kernel_rfl) rfl ?_
  go_wp2_with fail
  refine (SS.out _ _ _ (p3.mono k7b) p4).mono ?_
  rintro e k8w ⟨rfl, k8b⟩
  go_wp2_with fail
  refine QE_intro k8b ?_
  have k8E := ext_trans k7E k8b
  have hg0 := Gr.cell k8E c1
  have hg1 := Gr.cell k8E c2
  refine wpE_seg' [28, 29] 0 rfl (by kernel_rfl) ?_
  iterate 2 (refine seg_cons rfl ?_; go_big_quiet_step (rfl))
  refine seg_nil ?_
  clear hg0 hg1
  refine wpE_tail [] (by kernel_rfl) ?_
  refine tail_nil ?_
  have d1 := cellE k8E c1
  have d2 := cellE k8E c2
  clear p1 p2 p3 p4 k1b k2b k3b k4b k5b k6b k7b k8b
  by_cases hlt : X < Y
  · go_wp2_with fail
    refine (SubL.out _ k8E hlt).mono ?_
    rintro e x1 ⟨s5, rfl, p5, b5⟩
    obtain ⟨a3, n3, cap3, rfl, p5⟩ := p5.out
    have G1 := ext_trans k8E b5
    have RC1 := RC.out
    have hcl := cmp_of_lt hlt
    have hS := below_new (w := x1) (.cells #[.slice a3 n3 cap3] 42)
    have G2 := ext_trans G1 hS
    rw [hcl] at RC1
    have RC2 := Lib.hid RC1
    have P5 := p5.mono hS
    have cz : (x1.alloc (.cells #[.slice a3 n3 cap3] 42)).cell? ⟨x1.heap.size, 0, none⟩ = some (.slice a3 n3 cap3) := by go_simp
    clear RC1 hcl b5 d1 d2
    go_wp2_with fail
    refine (RC2.out _ G2).mono ?_
    rintro e x2 ⟨rfl, b6⟩
    have cz := cellE b6 cz
    have Z0 := zero_ok (P5.mono b6)
    have ZZ := Lib.hid Z0
    clear Z0 P5 p5
    go_wp2_with fail
    refine ZZ.out.mono ?_
    rintro e x3 ⟨rfl, b7⟩
    have hz : ((0 : Nat) == 0) = true := rfl
    go_wp2
    go_ret
    exact ⟨rfl, ext_trans EW (ext_trans G2 (ext_trans b6 b7))⟩
  · have hle : Y ≤ X := by omega
    have hcg : ¬ cmpN X Y < 0 := by unfold cmpN; rw [if_neg hlt]; split <;> omega
    go_wp2_with fail
    refine (SubG.out _ k8E hle).mono ?_
    rintro e x1 ⟨s5, rfl, p5, b5⟩
    obtain ⟨a3, n3, cap3, rfl, p5⟩ := p5.out
    have G1 := ext_trans k8E b5
    have hS := below_new (w := x1) (.cells #[.slice a3 n3 cap3] 42)
    have G2 := ext_trans G1 hS
    have P5 := p5.mono hS
    have cz : (x1.alloc (.cells #[.slice a3 n3 cap3] 42)).cell? ⟨x1.heap.size, 0, none⟩ = some (.slice a3 n3 cap3) := by go_simp
    clear b5 d1 d2 p5
    generalize cmpN X Y = r at *
    go_wp2_with fail
    refine (RC.out _ G2).mono ?_
    rintro e x2 ⟨rfl, b6⟩
    have c3 := cellE b6 cz
    have P6 := P5.mono b6
    have G3 := ext_trans G2 b6
    have c1 := cellE G3 c1
    have c2 := cellE G3 c2
    clear cz P5 G1 hS b6
    have hl2 := HLens.out (X - Y) (Nat.sub_le _ _)
    have IZ := Lib.hid (fun (W : World) (E : Below x2.heap.size x2 W) (u : Value) (g : DecV W u (X - Y)) => is_ok (P6.mono E) g (by omega) hl2.2)
    rw [show decide (X - Y = X - Y) = true from decide_eq_true rfl] at IZ
    have AZ := Lib.hid (fun (W : World) (E : Below x2.heap.size x2 W) => add_ok (P6.mono E) (HN2.out W (ext_trans G3 E)) (by omega) (by omega))
    rw [show X - Y + Y = X from by omega] at AZ
    clear P6 hl2
    have U0 := ext_refl x2
    go_wp2_with fail
    refine wp_region_B (Array.replicate 11 true) 11 0 mixed (by rfl) ?_
    have U1 := ext_trans U0 (ext_drew _)
    have hg1 := GrB.cell U1 (Nat.le_refl _) c1
    have hg2 := GrB.cell U1 (Nat.le_refl _) c2
    refine wpB_seg' [0, 1, 3] 8 rfl (by kernel_rfl) ?_
    iterate 3 (refine seg_cons rfl ?_; go_big_quiet_step (rfl))
    refine seg_nil ?_
    clear hg1 hg2
    refine wpB_two 2 8 (by kernel_rfl) rfl rfl ?_ ?_
    · go_wp2_with fail
      refine (A12.out _ (ext_trans G3 U1)).mono ?_
      rintro e y1 ⟨s6, rfl, p6, b6⟩
      go_wp2_with fail
      refine QB_intro (b6.mono U1.size) ?_
      have U2 := ext_trans U1 b6
      refine wpB_two 4 8 (by kernel_rfl) rfl rfl ?_ ?_
      · go_wp2_with fail
        refine (Sub2.out _ _ _ p6 (HN2.out _ (ext_trans G3 U2))).mono ?_
        rintro e y2 ⟨s7, rfl, p7, b7⟩
        obtain ⟨a4, n4, cap4, rfl, p7⟩ := p7.out
        go_wp2_with fail
        refine QB_intro (b7.mono U2.size) ?_
        have U3 := ext_trans U2 b7
        refine wpB_seg' [5, 6, 7] 3 rfl (by kernel_rfl) ?_
        iterate 3 (refine seg_cons rfl ?_; go_big_quiet_step (rfl))
        refine seg_nil ?_
        refine wpB_one 8 (by kernel_rfl) rfl ?_
        go_wp2_with fail
        refine QB_intro ((below_new _).mono U3.size) ?_
        have V0 := ext_trans U3 (below_new (.cells #[.slice a4 n4 cap4] 42))
        have PB := p7.mono (below_new (.cells #[.slice a4 n4 cap4] 42))
        have e4 : (y2.alloc (.cells #[.slice a4 n4 cap4] 42)).cell? ⟨y2.heap.size, 0, none⟩ = some (.slice a4 n4 cap4) := by go_simp
        refine wpB_one 9 (by kernel_rfl) rfl ?_
        go_wp2_with fail
        refine QB_intro (below_renew U3.size) ?_
        refine wpB_seg' [10] 0 rfl (by kernel_rfl) ?_
        iterate 1 (refine seg_cons rfl ?_; go_big_quiet_step (rfl))
        refine seg_nil ?_
        refine wpB_tail [] (by kernel_rfl) ?_
        refine tail_nil ?_
        have G4 := ext_trans G3 V0
        have e1 := cellE V0 c1
        have e2 := cellE V0 c2
        have e3 := cellE V0 c3
        go_wp2_with fail
        have VV := ext_refl (y2.alloc (.cells #[.slice a4 n4 cap4] 42))
        refine wp_region_E (Array.replicate 26 true) 26 0 mixed (by rfl) ?_
        have qE0 := ext_trans VV (ext_drew _)
        have hg0 := Gr.cell qE0 e1
        have hg1 := Gr.cell qE0 e2
        have hg2 := Gr.cell qE0 e3
        have hg3 := Gr.cell qE0 e4
        refine wpE_seg' [0, 1, 2, 3, 4, 5] 20 rfl (by kernel_rfl) ?_
        iterate 6 (refine seg_cons rfl ?_; go_big_quiet_step (rfl))
        refine seg_nil ?_
        clear hg0 hg1 hg2 hg3
        refine wpE_one 6 (by kernel_rfl) rfl ?_
        go_wp2_with fail
        refine (RS.out _ (ext_trans G4 qE0) hle).mono ?_
        rintro e q1w ⟨s8, rfl, p8, q1b⟩
        go_wp2_with fail
        refine QE_intro q1b ?_
        have q1E := ext_trans qE0 q1b
        refine wpE_one 7 (by kernel_rfl) rfl ?_
        go_wp2_with fail
        refine (IZ.out _ (ext_trans V0 q1E) _ p8).mono ?_
        rintro e q2w ⟨rfl, q2b⟩
        go_wp2_with fail
        refine QE_intro q2b ?_
        have q2E := ext_trans q1E q2b
        have hg0 := Gr.cell q2E e1
        have hg1 := Gr.cell q2E e2
        have hg2 := Gr.cell q2E e3
        have hg3 := Gr.cell q2E e4
        refine wpE_seg' [8, 9, 10, 11, 13] 13 rfl (by kernel_rfl) ?_
        iterate 5 (refine seg_cons rfl ?_; go_big_quiet_step (rfl))
        refine seg_nil ?_
        clear hg0 hg1 hg2 hg3
        refine wpE_one 12 (by kernel_rfl) rfl ?_
        go_wp2_with fail
        refine (AZ.out _ (ext_trans V0 q2E)).mono ?_
        rintro e q3w ⟨s9, rfl, p9, q3b⟩
        go_wp2_with fail
        refine QE_intro q3b ?_
        have q3E := ext_trans q2E q3b
        refine wpE_one 14 (by kernel_rfl) rfl ?_
        go_wp2_with fail
        refine (SX.out _ _ p9 (ext_trans G4 q3E)).mono ?_
        rintro e q4w ⟨rfl, q4b⟩
        go_wp2_with fail
        refine QE_intro q4b ?_
        have q4E := ext_trans q3E q4b
        have hg0 := Gr.cell q4E e1
        have hg1 := Gr.cell q4E e2
        have hg2 := Gr.cell q4E e3
        have hg3 := Gr.cell q4E e4
        refine wpE_seg' [15, 16, 17, 18, 19, 20, 21, 22] 3 rfl (by kernel_rfl) ?_
        iterate 8 (refine seg_cons rfl ?_; go_big_quiet_step (rfl))
        refine seg_nil ?_
        clear hg0 hg1 hg2 hg3
        refine wpE_one 23 (by kernel_rfl) rfl ?_
        go_wp2_with fail
        refine (SX.out _ _ (PB.mono q4E) (ext_trans G4 q4E)).mono ?_
        rintro e q5w ⟨rfl, q5b⟩
        go_wp2_with fail
        refine QE_intro q5b ?_
        have q5E := ext_trans q4E q5b
        have hg0 := Gr.cell q5E e1
        have hg1 := Gr.cell q5E e2
        have hg2 := Gr.cell q5E e3
        have hg3 := Gr.cell q5E e4
        refine wpE_seg' [24, 25] 0 rfl (by kernel_rfl) ?_
        iterate 2 (refine seg_cons rfl ?_; go_big_quiet_step (rfl))
        refine seg_nil ?_
        clear hg0 hg1 hg2 hg3
        refine wpE_tail [] (by kernel_rfl) ?_
        refine tail_nil ?_
        go_wp2
        go_ret
        exact ⟨rfl, ext_trans EW (ext_trans G4 q5E)⟩
      · go_wp2_with fail
        refine QB_intro ((below_new _).mono U2.size) ?_
        have U3 := ext_trans U2 (below_new (w := y1) (.cells #[.slice none 0 0] 42))
        refine wpB_one 4 (by kernel_rfl) rfl ?_
        go_wp2_with fail
        refine (Sub2.out _ _ _ (p6.mono (below_new _)) (HN2.out _ (ext_trans G3 U3))).mono ?_
        rintro e y2 ⟨s7, rfl, p7, b7⟩
        obtain ⟨a4, n4, cap4, rfl, p7⟩ := p7.out
        go_wp2_with fail
        refine QB_intro (b7.mono U3.size) ?_
        have U4 := ext_trans U3 b7
        refine wpB_seg' [5, 6, 7] 2 rfl (by kernel_rfl) ?_
        iterate 3 (refine seg_cons rfl ?_; go_big_quiet_step (rfl))
        refine seg_nil ?_
        have hz4 : y2.heap[y1.heap.size]? = some (.cells #[.slice none 0 0] 42) := (b7.block y1.heap.size (by simp)).trans (heap_at _ _)
        have hb4 : x2.heap.size ≤ y1.heap.size := U2.size
        have hcell4 : y2.cell? ⟨y1.heap.size, 0, none⟩ = some (.slice none 0 0) := by unfold World.cell?; rw [hz4]; rfl
        have hfr4 : y2.frozen? ⟨y1.heap.size, 0, none⟩ = false := by unfold World.frozen?; rw [hz4]; rfl
        obtain ⟨e4, PB⟩ := box_nat hz4 (by decide) p7
        have V0 := below_put (off := 0) (u := .slice a4 n4 cap4) (b := y1.heap.size) U4 hb4
        clear hz4
        refine wpB_one 9 (by kernel_rfl) rfl ?_
        go_wp2_with fail
        refine QB_intro (below_put (Below.refl _ _) hb4) ?_
        refine wpB_seg' [10] 0 rfl (by kernel_rfl) ?_
        iterate 1 (refine seg_cons rfl ?_; go_big_quiet_step (rfl))
        refine seg_nil ?_
        refine wpB_tail [] (by kernel_rfl) ?_
        refine tail_nil ?_
        have G4 := ext_trans G3 V0
        have e1 := cellE V0 c1
        have e2 := cellE V0 c2
        have e3 := cellE V0 c3
        go_wp2_with fail
        have VV := ext_refl (y2.setCell ⟨y1.heap.size, 0, none⟩ (.slice a4 n4 cap4))
        refine wp_region_E (Array.replicate 26 true) 26 0 mixed (by rfl) ?_
        have qE0 := ext_trans VV (ext_drew _)
        have hg0 := Gr.cell qE0 e1
        have hg1 := Gr.cell qE0 e2
        have hg2 := Gr.cell qE0 e3
        have hg3 := Gr.cell qE0 e4
        refine wpE_seg' [0, 1, 2, 3, 4, 5] 20 rfl (by kernel_rfl) ?_
        iterate 6 (refine seg_cons rfl ?_; go_big_quiet_step (rfl))
        refine seg_nil ?_
        clear hg0 hg1 hg2 hg3
        refine wpE_one 6 (by kernel_rfl) rfl ?_
        go_wp2_with fail
        refine (RS.out _ (ext_trans G4 qE0) hle).mono ?_
        rintro e q1w ⟨s8, rfl, p8, q1b⟩
        go_wp2_with fail
        refine QE_intro q1b ?_
        have q1E := ext_trans qE0 q1b
        refine wpE_one 7 (by kernel_rfl) rfl ?_
        go_wp2_with fail
        refine (IZ.out _ (ext_trans V0 q1E) _ p8).mono ?_
        rintro e q2w ⟨rfl, q2b⟩
        go_wp2_with fail
        refine QE_intro q2b ?_
        have q2E := ext_trans q1E q2b
        have hg0 := Gr.cell q2E e1
        have hg1 := Gr.cell q2E e2
        have hg2 := Gr.cell q2E e3
        have hg3 := Gr.cell q2E e4
        refine wpE_seg' [8, 9, 10, 11, 13] 13 rfl (by kernel_rfl) ?_
        iterate 5 (refine seg_cons rfl ?_; go_big_quiet_step (rfl))
        refine seg_nil ?_
        clear hg0 hg1 hg2 hg3
        refine wpE_one 12 (by kernel_rfl) rfl ?_
        go_wp2_with fail
        refine (AZ.out _ (ext_trans V0 q2E)).mono ?_
        rintro e q3w ⟨s9, rfl, p9, q3b⟩
        go_wp2_with fail
        refine QE_intro q3b ?_
        have q3E := ext_trans q2E q3b
        refine wpE_one 14 (by kernel_rfl) rfl ?_
        go_wp2_with fail
        refine (SX.out _ _ p9 (ext_trans G4 q3E)).mono ?_
        rintro e q4w ⟨rfl, q4b⟩
        go_wp2_with fail
        refine QE_intro q4b ?_
        have q4E := ext_trans q3E q4b
        have hg0 := Gr.cell q4E e1
        have hg1 := Gr.cell q4E e2
        have hg2 := Gr.cell q4E e3
        have hg3 := Gr.cell q4E e4
        refine wpE_seg' [15, 16, 17, 18, 19, 20, 21, 22] 3 rfl (by kernel_rfl) ?_
        iterate 8 (refine seg_cons rfl ?_; go_big_quiet_step (rfl))
        refine seg_nil ?_
        clear hg0 hg1 hg2 hg3
        refine wpE_one 23 (by kernel_rfl) rfl ?_
        go_wp2_with fail
        refine (SX.out _ _ (PB.mono q4E) (ext_trans G4 q4E)).mono ?_
        rintro e q5w ⟨rfl, q5b⟩
        go_wp2_with fail
        refine QE_intro q5b ?_
        have q5E := ext_trans q4E q5b
        have hg0 := Gr.cell q5E e1
        have hg1 := Gr.cell q5E e2
        have hg2 := Gr.cell q5E e3
        have hg3 := Gr.cell q5E e4
        refine wpE_seg' [24, 25] 0 rfl (by kernel_rfl) ?_
        iterate 2 (refine seg_cons rfl ?_; go_big_quiet_step (rfl))
        refine seg_nil ?_
        clear hg0 hg1 hg2 hg3
        refine wpE_tail [] (by kernel_rfl) ?_
        refine tail_nil ?_
        go_wp2
        go_ret
        exact ⟨rfl, ext_trans EW (ext_trans G4 q5E)⟩
    · go_wp2_with fail
      refine QB_intro ((below_new _).mono U1.size) ?_
      have U2 := ext_trans U1 (below_new (w := x2.drew) (.cells #[.slice none 0 0] 42))
      refine wpB_one 2 (by kernel_rfl) rfl ?_
      go_wp2_with fail
      refine (A12.out _ (ext_trans G3 U2)).mono ?_
      rintro e y1 ⟨s6, rfl, p6, b6⟩
      go_wp2_with fail
      refine QB_intro (b6.mono U2.size) ?_
      have U3 := ext_trans U2 b6
      refine wpB_one 4 (by kernel_rfl) rfl ?_
      go_wp2_with fail
      refine (Sub2.out _ _ _ p6 (HN2.out _ (ext_trans G3 U3))).mono ?_
      rintro e y2 ⟨s7, rfl, p7, b7⟩
      obtain ⟨a4, n4, cap4, rfl, p7⟩ := p7.out
      go_wp2_with fail
      refine QB_intro (b7.mono U3.size) ?_
      have U4 := ext_trans U3 b7
      refine wpB_seg' [5, 6, 7] 2 rfl (by kernel_rfl) ?_
      iterate 3 (refine seg_cons rfl ?_; go_big_quiet_step (rfl))
      refine seg_nil ?_
      have hz4 : y2.heap[x2.heap.size]? = some (.cells #[.slice none 0 0] 42) := (b7.block x2.heap.size (by have := b6.size; simp at this; omega)).trans ((b6.block x2.heap.size (by simp)).trans (heap_alloc_new' _ _ _ rfl))
      have hb4 : x2.heap.size ≤ x2.heap.size := Nat.le_refl _
      have hcell4 : y2.cell? ⟨x2.heap.size, 0, none⟩ = some (.slice none 0 0) := by unfold World.cell?; rw [hz4]; rfl
      have hfr4 : y2.frozen? ⟨x2.heap.size, 0, none⟩ = false := by unfold World.frozen?; rw [hz4]; rfl
      obtain ⟨e4, PB⟩ := box_nat hz4 (by decide) p7
      have V0 := below_put (off := 0) (u := .slice a4 n4 cap4) (b := x2.heap.size) U4 hb4
      clear hz4
      refine wpB_one 9 (by kernel_rfl) rfl ?_
      go_wp2_with fail
      refine QB_intro (below_put (Below.refl _ _) hb4) ?_
      refine wpB_seg' [10] 0 rfl (by kernel_rfl) ?_
      iterate 1 (refine seg_cons rfl ?_; go_big_quiet_step (rfl))
      refine seg_nil ?_
      refine wpB_tail [] (by kernel_rfl) ?_
      refine tail_nil ?_
      have G4 := ext_trans G3 V0
      have e1 := cellE V0 c1
      have e2 := cellE V0 c2
      have e3 := cellE V0 c3
      go_wp2_with fail
      have VV := ext_refl (y2.setCell ⟨x2.heap.size, 0, none⟩ (.slice a4 n4 cap4))
      refine wp_region_E (Array.replicate 26 true) 26 0 mixed (by rfl) ?_
      have qE0 := ext_trans VV (ext_drew _)
      have hg0 := Gr.cell qE0 e1
      have hg1 := Gr.cell qE0 e2
      have hg2 := Gr.cell qE0 e3
      have hg3 := Gr.cell qE0 e4
      refine wpE_seg' [0, 1, 2, 3, 4, 5] 20 rfl (by kernel_rfl) ?_
      iterate 6 (refine seg_cons rfl ?_; go_big_quiet_step (rfl))
      refine seg_nil ?_
      clear hg0 hg1 hg2 hg3
      refine wpE_one 6 (by kernel_rfl) rfl ?_
      go_wp2_with fail
      refine (RS.out _ (ext_trans G4 qE0) hle).mono ?_
      rintro e q1w ⟨s8, rfl, p8, q1b⟩
      go_wp2_with fail
      refine QE_intro q1b ?_
      have q1E := ext_trans qE0 q1b
      refine wpE_one 7 (by kernel_rfl) rfl ?_
      go_wp2_with fail
      refine (IZ.out _ (ext_trans V0 q1E) _ p8).mono ?_
      rintro e q2w ⟨rfl, q2b⟩
      go_wp2_with fail
      refine QE_intro q2b ?_
      have q2E := ext_trans q1E q2b
      have hg0 := Gr.cell q2E e1
      have hg1 := Gr.cell q2E e2
      have hg2 := Gr.cell q2E e3
      have hg3 := Gr.cell q2E e4
      refine wpE_seg' [8, 9, 10, 11, 13] 13 rfl (by kernel_rfl) ?_
      iterate 5 (refine seg_cons rfl ?_; go_big_quiet_step (rfl))
      refine seg_nil ?_
      clear hg0 hg1 hg2 hg3
      refine wpE_one 12 (by kernel_rfl) rfl ?_
      go_wp2_with fail
      refine (AZ.out _ (ext_trans V0 q2E)).mono ?_
      rintro e q3w ⟨s9, rfl, p9, q3b⟩
      go_wp2_with fail
      refine QE_intro q3b ?_
      have q3E := ext_trans q2E q3b
      refine wpE_one 14 (by kernel_rfl) rfl ?_
      go_wp2_with fail
      refine (SX.out _ _ p9 (ext_trans G4 q3E)).mono ?_
      rintro e q4w ⟨rfl, q4b⟩
      go_wp2_with fail
      refine QE_intro q4b ?_
      have q4E := ext_trans q3E q4b
      have hg0 := Gr.cell q4E e1
      have hg1 := Gr.cell q4E e2
      have hg2 := Gr.cell q4E e3
      have hg3 := Gr.cell q4E e4
      refine wpE_seg' [15, 16, 17, 18, 19, 20, 21, 22] 3 rfl (by kernel_rfl) ?_
      iterate 8 (refine seg_cons rfl ?_; go_big_quiet_step (rfl))
      refine seg_nil ?_
      clear hg0 hg1 hg2 hg3
      refine wpE_one 23 (by kernel_rfl) rfl ?_
      go_wp2_with fail
      refine (SX.out _ _ (PB.mono q4E) (ext_trans G4 q4E)).mono ?_
      rintro e q5w ⟨rfl, q5b⟩
      go_wp2_with fail
      refine QE_intro q5b ?_
      have q5E := ext_trans q4E q5b
      have hg0 := Gr.cell q5E e1
      have hg1 := Gr.cell q5E e2
      have hg2 := Gr.cell q5E e3
      have hg3 := Gr.cell q5E e4
      refine wpE_seg' [24, 25] 0 rfl (by kernel_rfl) ?_
      iterate 2 (refine seg_cons rfl ?_; go_big_quiet_step (rfl))
      refine seg_nil ?_
      clear hg0 hg1 hg2 hg3
      refine wpE_tail [] (by kernel_rfl) ?_
      refine tail_nil ?_
      go_wp2
      go_ret
      exact ⟨rfl, ext_trans EW (ext_trans G4 q5E)⟩

end Go.Proofs.Ytcabmibcgedhhaa

/-
  The walk of the law ProdExact.
-/
import Derived.Test.YtcabmibcgedhhaaLawProdDivides
import Derived.Test.YtcabmibcgedhhaaMk
import Derived.Test.YtcabmibcgedhhaaFlow4
namespace Go.Proofs.Ytcabmibcgedhhaa
open Go.RowKit Go.Cd

set_option maxRecDepth 100000 in
set_option maxHeartbeats 3200000 in
theorem prodExact_ok {w : World} {v u v3 : Value} {l m l3 : List Nat} (h : SlA w v (u32s l)) (k : SlA w u (u32s m)) (g : SlA w v3 (u32s l3)) (hl : ∀ d ∈ l, d < B) (hm : ∀ d ∈ m, d < B) (hl3 : ∀ d ∈ l3, d < B) :
    Calls Try.prog 14 #[v, u, v3] w fun e w' => e = .returned (.bool true) ∧ Below w.heap.size w w' := by
  have hl' := take_lt hl
  have hm' := take_lt hm
  have hl3' := take_lt hl3
  have lx := fewLen l hl
  have ly := fewLen m hm
  have lz := fewLen l3 hl3
  have F1 := Lib.hid (fun (W : World) (E : Below w.heap.size w W) => few_ok (h.mono E))
  have F2 := Lib.hid (fun (W : World) (E : Below w.heap.size w W) => few_ok (k.mono E))
  have F3 := Lib.hid (fun (W : World) (E : Below w.heap.size w W) => few_ok (g.mono E))
  have HL := Lib.hid hl'
  have HM := Lib.hid hm'
  have HL3 := Lib.hid hl3'
  have lenl : (l.take 40).length ≤ 40 := by simp; omega
  have lenm : (m.take 40).length ≤ 40 := by simp; omega
  have lenl3 : (l3.take 40).length ≤ 40 := by simp; omega
  generalize l.take 40 = l' at *
  generalize m.take 40 = m' at *
  generalize l3.take 40 = l3' at *
  clear h k g hl hm hl3 hl' hm' hl3'
  go_enter Try.func14, Try.ntmps14
  go_wp2_with fail
  refine (awake02_ok _).mono ?_
  rintro e w1 ⟨rfl, h1⟩
  go_wp2_with fail
  refine (F1.out _ h1).mono ?_
  rintro e w2 ⟨r2, rfl, o2, h2⟩
  go_wp2_with fail
  refine (limbs_ok (Sl.of_own o2) HL.out (by omega)).mono ?_
  rintro e w3 ⟨r3, rfl, x3, h3⟩
  go_wp2_with fail
  refine (F2.out _ (ext_trans h1 (ext_trans h2 h3))).mono ?_
  rintro e w4 ⟨r4, rfl, o4, h4⟩
  go_wp2_with fail
  refine (limbs_ok (Sl.of_own o4) HM.out (by omega)).mono ?_
  rintro e w5 ⟨r5, rfl, x5, h5⟩
  go_wp2_with fail
  refine (F3.out _ (ext_trans h1 (ext_trans h2 (ext_trans h3 (ext_trans h4 h5))))).mono ?_
  rintro e w6 ⟨r6, rfl, o6, h6⟩
  go_wp2_with fail
  refine (limbs_ok (Sl.of_own o6) HL3.out (by omega)).mono ?_
  rintro e w7 ⟨r7, rfl, x7, h7⟩
  have E7 := ext_trans h1 (ext_trans h2 (ext_trans h3 (ext_trans h4 (ext_trans h5 (ext_trans h6 h7)))))
  have x3 := x3.mono (ext_trans h4 (ext_trans h5 (ext_trans h6 h7)))
  have x5 := x5.mono (ext_trans h6 h7)
  clear o2 o4 o6 h1 h2 h3 h4 h5 h6 h7 F1 F2 F3 HL HM HL3 lenl lenm lenl3
  generalize val B l' = X at *
  generalize val B m' = Y at *
  generalize val B l3' = Z at *
  obtain ⟨a1, n1, cap1, rfl, x3⟩ := x3.out
  obtain ⟨a2, n2, cap2, rfl, x5⟩ := x5.out
  obtain ⟨a3, n3, cap3, rfl, x7⟩ := x7.out
  have hb := (below2 (w := w7) (.cells #[.slice a1 n1 cap1] 42) (.cells #[.slice a2 n2 cap2] 42)).alloc (by simp; omega) (.cells #[.slice a3 n3 cap3] 42)
  have z1 : (((w7.alloc (.cells #[.slice a1 n1 cap1] 42)).alloc (.cells #[.slice a2 n2 cap2] 42)).alloc (.cells #[.slice a3 n3 cap3] 42)).heap[w7.heap.size]? = some (.cells #[.slice a1 n1 cap1] 42) := ((below2 (.cells #[.slice a2 n2 cap2] 42) (.cells #[.slice a3 n3 cap3] 42)).block _ (by simp)).trans (heap_alloc_new' _ _ _ rfl)
  have z2 : (((w7.alloc (.cells #[.slice a1 n1 cap1] 42)).alloc (.cells #[.slice a2 n2 cap2] 42)).alloc (.cells #[.slice a3 n3 cap3] 42)).heap[w7.heap.size + 1]? = some (.cells #[.slice a2 n2 cap2] 42) := ((below_new (.cells #[.slice a3 n3 cap3] 42)).block _ (by simp)).trans (heap_alloc_new' _ _ _ (by simp))
  have z3 : (((w7.alloc (.cells #[.slice a1 n1 cap1] 42)).alloc (.cells #[.slice a2 n2 cap2] 42)).alloc (.cells #[.slice a3 n3 cap3] 42)).heap[w7.heap.size + 1 + 1]? = some (.cells #[.slice a3 n3 cap3] 42) := heap_alloc_new' _ _ _ (by simp)
  have x3 := x3.mono hb
  have x5 := x5.mono hb
  have x7 := x7.mono hb
  have E0 := E7.trans (hb.mono E7.size)
  have e7 := E7.size
  have W0S : w7.heap.size + 3 ≤ (((w7.alloc (.cells #[.slice a1 n1 cap1] 42)).alloc (.cells #[.slice a2 n2 cap2] 42)).alloc (.cells #[.slice a3 n3 cap3] 42)).heap.size := by simp
  clear E7 hb
  -- from here on the world is named
  by_cases hYZ : Y ≤ Z
  · have c1 : (((w7.alloc (.cells #[.slice a1 n1 cap1] 42)).alloc (.cells #[.slice a2 n2 cap2] 42)).alloc (.cells #[.slice a3 n3 cap3] 42)).cell? ⟨w7.heap.size, 0, none⟩ = some (.slice a1 n1 cap1) := by unfold World.cell?; rw [z1]; rfl
    have c2 : (((w7.alloc (.cells #[.slice a1 n1 cap1] 42)).alloc (.cells #[.slice a2 n2 cap2] 42)).alloc (.cells #[.slice a3 n3 cap3] 42)).cell? ⟨w7.heap.size + 1, 0, none⟩ = some (.slice a2 n2 cap2) := by unfold World.cell?; rw [z2]; rfl
    have c3 : (((w7.alloc (.cells #[.slice a1 n1 cap1] 42)).alloc (.cells #[.slice a2 n2 cap2] 42)).alloc (.cells #[.slice a3 n3 cap3] 42)).cell? ⟨w7.heap.size + 1 + 1, 0, none⟩ = some (.slice a3 n3 cap3) := by unfold World.cell?; rw [z3]; rfl
    have CM := Lib.hid (fun (W : World) (E : Below _ (((w7.alloc (.cells #[.slice a1 n1 cap1] 42)).alloc (.cells #[.slice a2 n2 cap2] 42)).alloc (.cells #[.slice a3 n3 cap3] 42)) W) => compare_ok (x7.mono E) (x5.mono E) (by omega) (by omega))
    obtain ⟨c, hc, hc0⟩ : ∃ c : Int, cmpN Z Y = c ∧ 0 ≤ c := ⟨_, rfl, by unfold cmpN; rw [if_neg (by omega)]; split <;> omega⟩
    rw [hc] at CM
    clear hc
    have hcd : decide ((0 : Int) ≤ c) = true := decide_eq_true hc0
    have AXZ := Lib.hid (fun (W : World) (E : Below _ (((w7.alloc (.cells #[.slice a1 n1 cap1] 42)).alloc (.cells #[.slice a2 n2 cap2] 42)).alloc (.cells #[.slice a3 n3 cap3] 42)) W) => add_ok (x3.mono E) (x7.mono E) (by omega) (by omega))
    have l1 : (digs B 1).length ≤ 1 := lenB_le (by decide)
    have AZ1 := Lib.hid (fun (W : World) (v : Value) (h : NatV W v 1) (E : Below _ (((w7.alloc (.cells #[.slice a1 n1 cap1] 42)).alloc (.cells #[.slice a2 n2 cap2] 42)).alloc (.cells #[.slice a3 n3 cap3] 42)) W) => add_ok (x7.mono E) h (by omega) (by omega))
    have O1 := Lib.hid (of_ok 1 (by omega))
    have NY := Lib.hid (fun (W : World) (E : Below _ (((w7.alloc (.cells #[.slice a1 n1 cap1] 42)).alloc (.cells #[.slice a2 n2 cap2] 42)).alloc (.cells #[.slice a3 n3 cap3] 42)) W) => x5.mono E)
    have ls := lenAdd lx lz
    have lz1 : (digs B (Z + 1)).length ≤ 41 := lenB_le (add_lt_pow two_le_B ((len_digs_le two_le_B).1 lz) (by have := Nat.one_lt_two_pow_iff.2 (show (40 : Nat) ≠ 0 by omega); exact Nat.lt_of_lt_of_le this (Nat.pow_le_pow_left two_le_B 40)))
    clear x3 x5 x7
    go_wp2_with fail
    refine (CM.out _ (Below.refl _ _)).mono ?_
    rintro e w8 ⟨rfl, h8⟩
    have d1 := cellE h8 c1
    have d2 := cellE h8 c2
    have d3 := cellE h8 c3
    have T0 := ext_refl w8
    go_wp2_with fail
    refine wp_region_E #[true, true, true, true, true, true, true, false, false, false] 7 3 mixed (by rfl) ?_
    have kE0 := ext_trans T0 (ext_drew _)
    have hg0 := Gr.cell kE0 d1
    have hg1 := Gr.cell kE0 d2
    have hg2 := Gr.cell kE0 d3
    refine wpE_seg' [0, 1, 3, 6] 3 rfl (by kernel_rfl) ?_
    iterate 4 (refine seg_cons rfl ?_; go_big_quiet_step (rfl))
    refine seg_nil ?_
    clear hg0 hg1 hg2
    refine wpE_one 2 (by kernel_rfl) rfl ?_
    go_wp2_with fail
    refine (AXZ.out _ (ext_trans h8 kE0)).mono ?_
    rintro e k1w ⟨r1, rfl, u1, k1b⟩
    go_wp2_with fail
    refine QE_intro k1b ?_
    have k1E := ext_trans kE0 k1b
    refine wpE_one 4 (by kernel_rfl) rfl ?_
    go_wp2_with fail
    refine (O1.out _).mono ?_
    rintro e k2w ⟨r2, rfl, u2, k2b⟩
    go_wp2_with fail
    refine QE_intro k2b ?_
    have k2E := ext_trans k1E k2b
    refine wpE_one 5 (by kernel_rfl) rfl ?_
    go_wp2_with fail
    refine (AZ1.out _ _ u2 (ext_trans h8 k2E)).mono ?_
    rintro e k3w ⟨r3, rfl, u3, k3b⟩
    go_wp2_with fail
    refine QE_intro k3b ?_
    have k3E := ext_trans k2E k3b
    have hu1 := u1.mono (ext_trans k2b k3b)
    obtain ⟨a4, n4, cap4, rfl, hu1⟩ := hu1.out
    obtain ⟨a5, n5, cap5, rfl, hu3⟩ := u3.out
    have hy5 := NY.out _ (ext_trans h8 k3E)
    have E8 := ext_trans h8 k3E
    have y1 := (E8.block _ (by simp <;> omega)).trans z1
    have y2 := (E8.block _ (by simp <;> omega)).trans z2
    have y3 := (E8.block _ (by simp <;> omega)).trans z3
    obtain ⟨z1', z2', z3', x3, x5, x7⟩ := box3 (w := k3w) y1 y2 y3 (by decide) (by omega) (by omega) (by omega) hu1 hu3 hy5
    have hf1 : k3w.cell? ⟨w7.heap.size, 0, none⟩ = some (.slice a1 n1 cap1) := by unfold World.cell?; rw [y1]; rfl
    have hg1 : k3w.frozen? ⟨w7.heap.size, 0, none⟩ = false := by unfold World.frozen?; rw [y1]; rfl
    have hf2 : k3w.cell? ⟨w7.heap.size + 1, 0, none⟩ = some (.slice a2 n2 cap2) := by unfold World.cell?; rw [y2]; rfl
    have hg2 : k3w.frozen? ⟨w7.heap.size + 1, 0, none⟩ = false := by unfold World.frozen?; rw [y2]; rfl
    have hf3 : k3w.cell? ⟨w7.heap.size + 1 + 1, 0, none⟩ = some (.slice a3 n3 cap3) := by unfold World.cell?; rw [y3]; rfl
    have hg3 : k3w.frozen? ⟨w7.heap.size + 1 + 1, 0, none⟩ = false := by unfold World.frozen?; rw [y3]; rfl
    have E9 := below_put (off := 0) (u := .slice a2 n2 cap2) (b := w7.heap.size + 1 + 1) (below_put (off := 0) (u := .slice a5 n5 cap5) (b := w7.heap.size + 1) (below_put (off := 0) (u := .slice a4 n4 cap4) (b := w7.heap.size) (E0.trans (E8.mono E0.size)) (by omega)) (by omega)) (by omega)
    refine wpE_tail [7, 8, 9] (by kernel_rfl) ?_
    refine tail_l (os := [_, _, _]) rfl ?_
    go_wp2_with fail
    refine qp_nil ?_
    clear z1 z2 z3 y1 y2 y3 c1 c2 c3 d1 d2 d3 hf1 hf2 hf3 hg1 hg2 hg3 u1 u2 u3 hu1 hu3 hy5 k1b k2b k3b k1E k2E k3E kE0 T0 NY AXZ AZ1 O1 CM E0 h8 E8
    have hlt : Y < Z + 1 := by omega
    clear hYZ
    obtain ⟨W0, hW0⟩ : ∃ W, ((k3w.setCell ⟨w7.heap.size, 0, none⟩ (.slice a4 n4 cap4)).setCell ⟨w7.heap.size + 1, 0, none⟩ (.slice a5 n5 cap5)).setCell ⟨w7.heap.size + 1 + 1, 0, none⟩ (.slice a2 n2 cap2) = W := ⟨_, rfl⟩
    have HW0 := Lib.hid hW0
    rw [hW0] at z1' z2' z3' x3 x5 x7 E9
    rw [hW0]
    clear hW0
    have c1 : W0.cell? ⟨w7.heap.size, 0, none⟩ = some (.slice a4 n4 cap4) := by unfold World.cell?; rw [z1']; rfl
    have c2 : W0.cell? ⟨w7.heap.size + 1, 0, none⟩ = some (.slice a5 n5 cap5) := by unfold World.cell?; rw [z2']; rfl
    have c3 : W0.cell? ⟨w7.heap.size + 1 + 1, 0, none⟩ = some (.slice a2 n2 cap2) := by unfold World.cell?; rw [z3']; rfl
    have hY0 : 0 < (Z + 1) := by omega
    have lx' : (digs B (X + Z)).length ≤ 80 := by omega
    have ly' : (digs B (Z + 1)).length ≤ 80 := by omega
    have lz' : (digs B (Y)).length ≤ 80 := by omega
    have NX := Lib.hid (fun (W : World) (E : Below W0.heap.size W0 W) => x3.mono E)
    have NY := Lib.hid (fun (W : World) (E : Below W0.heap.size W0 W) => x5.mono E)
    have NZ := Lib.hid (fun (W : World) (E : Below W0.heap.size W0 W) => x7.mono E)
    have lp := lenMul lx' ly'
    have lps : (digs B ((X + Z) * (Z + 1) + (Y))).length ≤ 161 := lenB_le (add_lt_pow two_le_B ((len_digs_le two_le_B).1 lp) (Nat.lt_of_lt_of_le ((len_digs_le two_le_B).1 lz') (Nat.pow_le_pow_right (by decide) (by omega))))
    have CM2 := Lib.hid (fun (W : World) (E : Below W0.heap.size W0 W) => compare_ok (NZ.out _ E) (NY.out _ E) (by omega) (by omega))
    rw [cmp_of_lt hlt] at CM2
    have MU := Lib.hid (fun (W : World) (E : Below W0.heap.size W0 W) => mul_ok (NX.out _ E) (NY.out _ E) (by omega) (by omega))
    have AD := Lib.hid (fun (W : World) (v : Value) (h : NatV W v ((X + Z) * (Z + 1))) (E : Below W0.heap.size W0 W) => add_ok h (NZ.out _ E) (by omega) (by omega))
    have DM := Lib.hid (fun (W : World) (v : Value) (h : NatV W v ((X + Z) * (Z + 1) + (Y))) (E : Below W0.heap.size W0 W) => divMod_ok h (NY.out _ E) (by omega) (by omega) hY0 (fun h2 hyx => long_ok (by omega) h2 hyx))
    rw [show ((X + Z) * (Z + 1) + (Y)) / (Z + 1) = X + Z from by rw [Nat.mul_comm, Nat.mul_add_div hY0, Nat.div_eq_of_lt hlt, Nat.add_zero], show ((X + Z) * (Z + 1) + (Y)) % (Z + 1) = Y from by rw [Nat.mul_comm, Nat.mul_add_mod, Nat.mod_eq_of_lt hlt]] at DM
    have SX := Lib.hid (fun (W : World) (v : Value) (h : NatV W v (X + Z)) (E : Below W0.heap.size W0 W) => same_ok h (NX.out _ E) (by omega))
    rw [show decide (X + Z = X + Z) = true from decide_eq_true rfl] at SX
    have SZ := Lib.hid (fun (W : World) (v : Value) (h : NatV W v (Y)) (E : Below W0.heap.size W0 W) => same_ok h (NZ.out _ E) (by omega))
    rw [show decide (Y = Y) = true from decide_eq_true rfl] at SZ
    have T0 := ext_refl W0
    clear z1' z2' z3' x3 x5 x7 lp lps lx' ly' lz' lx ly lz ls lz1 l1
    go_wp2_with fail
    refine (CM2.out _ T0).mono ?_
    rintro e w9 ⟨rfl, h9⟩
    have T1 := ext_trans T0 h9
    go_wp2_with fail
    refine wp_region_M #[true, true, true, true, true, true, true, true, false, false, false, false, false, false, false, false] [11, 12] [8, 9, 10] (fun _ v W => ∃ k, v = .pointer (some ⟨k, 0, none⟩) ∧ W.heap[k]? = some (.cells #[.slice none 0 0] 42)) blkOf 8 6 mixed (by rfl) (by kernel_rfl) (fun _ _ _ _ hb h => blk_mono hb h) ?_ ?_
    · intro i hi o ho
      simp only [List.mem_cons, List.not_mem_nil, or_false] at hi
      rcases hi with rfl | rfl
      · cases ho
        exact mk_alloc rfl rfl (fun W => by go_simp)
      · cases ho
        exact mk_alloc rfl rfl (fun W => by go_simp)
    have sE0 := ext_trans T1 (ext_drew _)
    have hg0 := Gr.cell sE0 c1
    have hg1 := Gr.cell sE0 c2
    have hg2 := Gr.cell sE0 c3
    refine wpH_seg' [0, 1, 3, 5] 4 rfl (by kernel_rfl) ?_
    iterate 4 (refine seg_cons rfl ?_; go_big_quiet_step (rfl))
    refine seg_nil ?_
    clear hg0 hg1 hg2
    refine wpH_one 2 (by kernel_rfl) rfl ?_
    intro s1v s1c
    have s1D := ext_trans sE0 s1c
    go_wp2_with fail
    refine (MU.out _ s1D).mono ?_
    rintro e s1w ⟨r1, rfl, u1, s1b⟩
    go_wp2_with fail
    refine QE_intro s1b ?_
    have s1E := ext_trans s1D s1b
    refine wpH_one 4 (by kernel_rfl) rfl ?_
    intro s2v s2c
    have s2D := ext_trans s1E s2c
    go_wp2_with fail
    refine (AD.out _ _ (u1.mono s2c) s2D).mono ?_
    rintro e s2w ⟨r2, rfl, u2, s2b⟩
    go_wp2_with fail
    refine QE_intro s2b ?_
    have s2E := ext_trans s2D s2b
    refine wpH_one 6 (by kernel_rfl) rfl ?_
    intro s3v s3c
    have s3D := ext_trans s2E s3c
    go_wp2_with fail
    refine (DM.out _ _ (u2.mono s3c) s3D).mono ?_
    rintro e s3w ⟨r3, r4, rfl, u3, u4, s3b⟩
    go_wp2_with fail
    refine QE_intro s3b ?_
    have s3E := ext_trans s3D s3b
    refine wpH_seg' [7] 0 rfl (by kernel_rfl) ?_
    iterate 1 (refine seg_cons rfl ?_; go_big_quiet_step (rfl))
    refine seg_nil ?_
    refine wpH_tail [8, 9, 10, 13, 14, 15] (by kernel_rfl) ?_
    intro W Wb vs hR hD
    have WE := ext_trans s3E Wb
    have hk1 := hR 11 (by simp)
    have hk2 := hR 12 (by simp)
    have hkd := hD 11 (by simp) 12 (by simp) (by omega)
    obtain ⟨⟨k1, hv1, hh1⟩, hN1, hb1⟩ := hk1
    obtain ⟨⟨k2, hv2, hh2⟩, hN2, hb2⟩ := hk2
    rw [hv1] at hkd hN1 hb1
    rw [hv2] at hkd hN2 hb2
    simp only [blkOf] at hkd hN1 hN2 hb1 hb2
    rw [putS_two (d := some 10) (e := some 11) rfl rfl, hv1, hv2]
    have hu3 := u3.mono Wb
    have hu4 := u4.mono Wb
    obtain ⟨a8, n8, cap8, rfl, hu3⟩ := hu3.out
    obtain ⟨a9, n9, cap9, rfl, hu4⟩ := hu4.out
    obtain ⟨q1, q2, M1, M2⟩ := box2 (w := W) hh1 hh2 (by decide) (by omega) hu3 hu4
    have hf1 : W.cell? ⟨k1, 0, none⟩ = some (.slice none 0 0) := by unfold World.cell?; rw [hh1]; rfl
    have hg1 : W.frozen? ⟨k1, 0, none⟩ = false := by unfold World.frozen?; rw [hh1]; rfl
    have hf2 : W.cell? ⟨k2, 0, none⟩ = some (.slice none 0 0) := by unfold World.cell?; rw [hh2]; rfl
    have hg2 : W.frozen? ⟨k2, 0, none⟩ = false := by unfold World.frozen?; rw [hh2]; rfl
    have hs0 := T1.size
    have EF : Below W0.heap.size W0 ((W.setCell ⟨k1, 0, none⟩ (.slice a8 n8 cap8)).setCell ⟨k2, 0, none⟩ (.slice a9 n9 cap9)) := below_put (below_put WE (by simp only [World.drew] at hN1 hs0; omega)) (by simp only [World.drew] at hN2 hs0; omega)
    have p1 := cellE EF c1
    have p2 := cellE EF c2
    have p3 := cellE EF c3
    clear hh1 hh2 hR hD hv1 hv2 hu3 hu4 u1 u2 u3 u4 WE Wb s1b s2b s3b s1c s2c s3c s1D s2D s3D s1E s2E s3E sE0
    refine tail_l (os := [_, _, _, _, _, _]) rfl ?_
    go_wp2_with fail
    refine qp_nil ?_
    go_wp2_with fail
    refine (SX.out _ _ M1 EF).mono ?_
    rintro e w11 ⟨rfl, h11⟩
    have p2 := cellE h11 q2
    have p3 := cellE h11 p3
    go_wp2_with fail
    refine (SZ.out _ _ (M2.mono h11) (ext_trans EF h11)).mono ?_
    rintro e w12 ⟨rfl, h12⟩
    go_wp2
    go_ret
    exact ⟨rfl, E9.trans ((ext_trans EF (ext_trans h11 h12)).mono E9.size)⟩
  · have hlt : Z < Y := by omega
    have c1 : (((w7.alloc (.cells #[.slice a1 n1 cap1] 42)).alloc (.cells #[.slice a2 n2 cap2] 42)).alloc (.cells #[.slice a3 n3 cap3] 42)).cell? ⟨w7.heap.size, 0, none⟩ = some (.slice a1 n1 cap1) := by unfold World.cell?; rw [z1]; rfl
    have c2 : (((w7.alloc (.cells #[.slice a1 n1 cap1] 42)).alloc (.cells #[.slice a2 n2 cap2] 42)).alloc (.cells #[.slice a3 n3 cap3] 42)).cell? ⟨w7.heap.size + 1, 0, none⟩ = some (.slice a2 n2 cap2) := by unfold World.cell?; rw [z2]; rfl
    have c3 : (((w7.alloc (.cells #[.slice a1 n1 cap1] 42)).alloc (.cells #[.slice a2 n2 cap2] 42)).alloc (.cells #[.slice a3 n3 cap3] 42)).cell? ⟨w7.heap.size + 1 + 1, 0, none⟩ = some (.slice a3 n3 cap3) := by unfold World.cell?; rw [z3]; rfl
    have CM := Lib.hid (fun (W : World) (E : Below _ (((w7.alloc (.cells #[.slice a1 n1 cap1] 42)).alloc (.cells #[.slice a2 n2 cap2] 42)).alloc (.cells #[.slice a3 n3 cap3] 42)) W) => compare_ok (x7.mono E) (x5.mono E) (by omega) (by omega))
    rw [cmp_of_lt hlt] at CM
    go_wp2_with fail
    refine (CM.out _ (Below.refl _ _)).mono ?_
    rintro e W0 ⟨rfl, h8⟩
    have z1' := (h8.block _ (by simp <;> omega)).trans z1
    have z2' := (h8.block _ (by simp <;> omega)).trans z2
    have z3' := (h8.block _ (by simp <;> omega)).trans z3
    have x3 := x3.mono h8
    have x5 := x5.mono h8
    have x7 := x7.mono h8
    have E9 := E0.trans (h8.mono E0.size)
    clear z1 z2 z3 c1 c2 c3 E0 h8 CM
    have c1 : W0.cell? ⟨w7.heap.size, 0, none⟩ = some (.slice a1 n1 cap1) := by unfold World.cell?; rw [z1']; rfl
    have c2 : W0.cell? ⟨w7.heap.size + 1, 0, none⟩ = some (.slice a2 n2 cap2) := by unfold World.cell?; rw [z2']; rfl
    have c3 : W0.cell? ⟨w7.heap.size + 1 + 1, 0, none⟩ = some (.slice a3 n3 cap3) := by unfold World.cell?; rw [z3']; rfl
    have hY0 : 0 < (Y) := by omega
    have lx' : (digs B (X)).length ≤ 80 := by omega
    have ly' : (digs B (Y)).length ≤ 80 := by omega
    have lz' : (digs B (Z)).length ≤ 80 := by omega
    have NX := Lib.hid (fun (W : World) (E : Below W0.heap.size W0 W) => x3.mono E)
    have NY := Lib.hid (fun (W : World) (E : Below W0.heap.size W0 W) => x5.mono E)
    have NZ := Lib.hid (fun (W : World) (E : Below W0.heap.size W0 W) => x7.mono E)
    have lp := lenMul lx' ly'
    have lps : (digs B ((X) * (Y) + (Z))).length ≤ 161 := lenB_le (add_lt_pow two_le_B ((len_digs_le two_le_B).1 lp) (Nat.lt_of_lt_of_le ((len_digs_le two_le_B).1 lz') (Nat.pow_le_pow_right (by decide) (by omega))))
    have CM2 := Lib.hid (fun (W : World) (E : Below W0.heap.size W0 W) => compare_ok (NZ.out _ E) (NY.out _ E) (by omega) (by omega))
    rw [cmp_of_lt hlt] at CM2
    have MU := Lib.hid (fun (W : World) (E : Below W0.heap.size W0 W) => mul_ok (NX.out _ E) (NY.out _ E) (by omega) (by omega))
    have AD := Lib.hid (fun (W : World) (v : Value) (h : NatV W v ((X) * (Y))) (E : Below W0.heap.size W0 W) => add_ok h (NZ.out _ E) (by omega) (by omega))
    have DM := Lib.hid (fun (W : World) (v : Value) (h : NatV W v ((X) * (Y) + (Z))) (E : Below W0.heap.size W0 W) => divMod_ok h (NY.out _ E) (by omega) (by omega) hY0 (fun h2 hyx => long_ok (by omega) h2 hyx))
    rw [show ((X) * (Y) + (Z)) / (Y) = X from by rw [Nat.mul_comm, Nat.mul_add_div hY0, Nat.div_eq_of_lt hlt, Nat.add_zero], show ((X) * (Y) + (Z)) % (Y) = Z from by rw [Nat.mul_comm, Nat.mul_add_mod, Nat.mod_eq_of_lt hlt]] at DM
    have SX := Lib.hid (fun (W : World) (v : Value) (h : NatV W v (X)) (E : Below W0.heap.size W0 W) => same_ok h (NX.out _ E) (by omega))
    rw [show decide (X = X) = true from decide_eq_true rfl] at SX
    have SZ := Lib.hid (fun (W : World) (v : Value) (h : NatV W v (Z)) (E : Below W0.heap.size W0 W) => same_ok h (NZ.out _ E) (by omega))
    rw [show decide (Z = Z) = true from decide_eq_true rfl] at SZ
    have T0 := ext_refl W0
    clear z1' z2' z3' x3 x5 x7 lp lps lx' ly' lz' lx ly lz 
    go_wp2_with fail
    refine (CM2.out _ T0).mono ?_
    rintro e w9 ⟨rfl, h9⟩
    have T1 := ext_trans T0 h9
    go_wp2_with fail
    refine wp_region_M #[true, true, true, true, true, true, true, true, false, false, false, false, false, false, false, false] [11, 12] [8, 9, 10] (fun _ v W => ∃ k, v = .pointer (some ⟨k, 0, none⟩) ∧ W.heap[k]? = some (.cells #[.slice none 0 0] 42)) blkOf 8 6 mixed (by rfl) (by kernel_rfl) (fun _ _ _ _ hb h => blk_mono hb h) ?_ ?_
    · intro i hi o ho
      simp only [List.mem_cons, List.not_mem_nil, or_false] at hi
      rcases hi with rfl | rfl
      · cases ho
        exact mk_alloc rfl rfl (fun W => by go_simp)
      · cases ho
        exact mk_alloc rfl rfl (fun W => by go_simp)
    have sE0 := ext_trans T1 (ext_drew _)
    have hg0 := Gr.cell sE0 c1
    have hg1 := Gr.cell sE0 c2
    have hg2 := Gr.cell sE0 c3
    refine wpH_seg' [0, 1, 3, 5] 4 rfl (by kernel_rfl) ?_
    iterate 4 (refine seg_cons rfl ?_; go_big_quiet_step (rfl))
    refine seg_nil ?_
    clear hg0 hg1 hg2
    refine wpH_one 2 (by kernel_rfl) rfl ?_
    intro s1v s1c
    have s1D := ext_trans sE0 s1c
    go_wp2_with fail
    refine (MU.out _ s1D).mono ?_
    rintro e s1w ⟨r1, rfl, u1, s1b⟩
    go_wp2_with fail
    refine QE_intro s1b ?_
    have s1E := ext_trans s1D s1b
    refine wpH_one 4 (by kernel_rfl) rfl ?_
    intro s2v s2c
    have s2D := ext_trans s1E s2c
    go_wp2_with fail
    refine (AD.out _ _ (u1.mono s2c) s2D).mono ?_
    rintro e s2w ⟨r2, rfl, u2, s2b⟩
    go_wp2_with fail
    refine QE_intro s2b ?_
    have s2E := ext_trans s2D s2b
    refine wpH_one 6 (by kernel_rfl) rfl ?_
    intro s3v s3c
    have s3D := ext_trans s2E s3c
    go_wp2_with fail
    refine (DM.out _ _ (u2.mono s3c) s3D).mono ?_
    rintro e s3w ⟨r3, r4, rfl, u3, u4, s3b⟩
    go_wp2_with fail
    refine QE_intro s3b ?_
    have s3E := ext_trans s3D s3b
    refine wpH_seg' [7] 0 rfl (by kernel_rfl) ?_
    iterate 1 (refine seg_cons rfl ?_; go_big_quiet_step (rfl))
    refine seg_nil ?_
    refine wpH_tail [8, 9, 10, 13, 14, 15] (by kernel_rfl) ?_
    intro W Wb vs hR hD
    have WE := ext_trans s3E Wb
    have hk1 := hR 11 (by simp)
    have hk2 := hR 12 (by simp)
    have hkd := hD 11 (by simp) 12 (by simp) (by omega)
    obtain ⟨⟨k1, hv1, hh1⟩, hN1, hb1⟩ := hk1
    obtain ⟨⟨k2, hv2, hh2⟩, hN2, hb2⟩ := hk2
    rw [hv1] at hkd hN1 hb1
    rw [hv2] at hkd hN2 hb2
    simp only [blkOf] at hkd hN1 hN2 hb1 hb2
    rw [putS_two (d := some 10) (e := some 11) rfl rfl, hv1, hv2]
    have hu3 := u3.mono Wb
    have hu4 := u4.mono Wb
    obtain ⟨a8, n8, cap8, rfl, hu3⟩ := hu3.out
    obtain ⟨a9, n9, cap9, rfl, hu4⟩ := hu4.out
    obtain ⟨q1, q2, M1, M2⟩ := box2 (w := W) hh1 hh2 (by decide) (by omega) hu3 hu4
    have hf1 : W.cell? ⟨k1, 0, none⟩ = some (.slice none 0 0) := by unfold World.cell?; rw [hh1]; rfl
    have hg1 : W.frozen? ⟨k1, 0, none⟩ = false := by unfold World.frozen?; rw [hh1]; rfl
    have hf2 : W.cell? ⟨k2, 0, none⟩ = some (.slice none 0 0) := by unfold World.cell?; rw [hh2]; rfl
    have hg2 : W.frozen? ⟨k2, 0, none⟩ = false := by unfold World.frozen?; rw [hh2]; rfl
    have hs0 := T1.size
    have EF : Below W0.heap.size W0 ((W.setCell ⟨k1, 0, none⟩ (.slice a8 n8 cap8)).setCell ⟨k2, 0, none⟩ (.slice a9 n9 cap9)) := below_put (below_put WE (by simp only [World.drew] at hN1 hs0; omega)) (by simp only [World.drew] at hN2 hs0; omega)
    have p1 := cellE EF c1
    have p2 := cellE EF c2
    have p3 := cellE EF c3
    clear hh1 hh2 hR hD hv1 hv2 hu3 hu4 u1 u2 u3 u4 WE Wb s1b s2b s3b s1c s2c s3c s1D s2D s3D s1E s2E s3E sE0
    refine tail_l (os := [_, _, _, _, _, _]) rfl ?_
    go_wp2_with fail
    refine qp_nil ?_
    go_wp2_with fail
    refine (SX.out _ _ M1 EF).mono ?_
    rintro e w11 ⟨rfl, h11⟩
    have p2 := cellE h11 q2
    have p3 := cellE h11 p3
    go_wp2_with fail
    refine (SZ.out _ _ (M2.mono h11) (ext_trans EF h11)).mono ?_
    rintro e w12 ⟨rfl, h12⟩
    go_wp2
    go_ret
    exact ⟨rfl, E9.trans ((ext_trans EF (ext_trans h11 h12)).mono E9.size)⟩
end Go.Proofs.Ytcabmibcgedhhaa

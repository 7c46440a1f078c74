/-
  The walk of the law ProdDivides.
-/
import Derived.Test.YtcabmibcgedhhaaDiv4
import Derived.Test.YtcabmibcgedhhaaProd6
import Derived.Test.YtcabmibcgedhhaaRef5
import Derived.Test.YtcabmibcgedhhaaLawProdMuls
namespace Go.Proofs.Ytcabmibcgedhhaa
open Go.RowKit Go.Cd

set_option maxRecDepth 100000 in
set_option maxHeartbeats 1600000 in
theorem divMod_zero {w : World} {v u : Value} {x : Nat} (h : NatV w v x) (k : NatV w u 0) (hx : (digs B x).length < 274877906944) :
    Calls Try.prog 49 #[v, u] w fun e w' => ∃ q r, e = .returned (.tuple #[q, r, .int .i64 5]) ∧ NatV w' q 0 ∧ NatV w' r 0 ∧ Below w.heap.size w w' := by
  obtain ⟨a, n, cap, rfl, h⟩ := h.out
  obtain ⟨a2, n2, cap2, rfl, k⟩ := k.out
  have hb := (((below_new (w := w) (.cells #[.slice a n cap] 42)).alloc (by simp) (.cells #[.slice a2 n2 cap2] 42)).alloc (by simp; omega) (.cells #[.slice none 0 0] 42)).alloc (by simp; omega) (.cells #[.slice none 0 0] 42)
  have c1 : ((((w.alloc (.cells #[.slice a n cap] 42)).alloc (.cells #[.slice a2 n2 cap2] 42)).alloc (.cells #[.slice none 0 0] 42)).alloc (.cells #[.slice none 0 0] 42)).cell? ⟨w.heap.size, 0, none⟩ = some (.slice a n cap) := by go_simp
  have c2 : ((((w.alloc (.cells #[.slice a n cap] 42)).alloc (.cells #[.slice a2 n2 cap2] 42)).alloc (.cells #[.slice none 0 0] 42)).alloc (.cells #[.slice none 0 0] 42)).cell? ⟨w.heap.size + 1, 0, none⟩ = some (.slice a2 n2 cap2) := by go_simp
  have c4 : ((((w.alloc (.cells #[.slice a n cap] 42)).alloc (.cells #[.slice a2 n2 cap2] 42)).alloc (.cells #[.slice none 0 0] 42)).alloc (.cells #[.slice none 0 0] 42)).heap[w.heap.size + 1 + 1 + 1]? = some (.cells #[.slice none 0 0] 42) := heap_alloc_new' _ _ _ (by simp)
  have c3 : ((((w.alloc (.cells #[.slice a n cap] 42)).alloc (.cells #[.slice a2 n2 cap2] 42)).alloc (.cells #[.slice none 0 0] 42)).alloc (.cells #[.slice none 0 0] 42)).heap[w.heap.size + 1 + 1]? = some (.cells #[.slice none 0 0] 42) := ((below_new _).block _ (by simp)).trans (heap_alloc_new' _ _ _ (by simp))
  have N1 := h.mono hb
  have N2 := k.mono hb
  have L1 := Lib.hid (fun (W : World) (E : Below _ _ W) => natLimbs_ok (N1.mono E) (by omega))
  have L2 := Lib.hid (fun (W : World) (E : Below _ _ W) => natLimbs_ok (N2.mono E) (by rw [digs_zero]; simp))
  rw [digs_zero] at L2
  have T0 := ext_refl ((((w.alloc (.cells #[.slice a n cap] 42)).alloc (.cells #[.slice a2 n2 cap2] 42)).alloc (.cells #[.slice none 0 0] 42)).alloc (.cells #[.slice none 0 0] 42))
  have s3 : ((((w.alloc (.cells #[.slice a n cap] 42)).alloc (.cells #[.slice a2 n2 cap2] 42)).alloc (.cells #[.slice none 0 0] 42)).alloc (.cells #[.slice none 0 0] 42)).heap.size = w.heap.size + 4 := by simp
  generalize digs B x = X at *
  have HB := Lib.hid hb
  clear h k N1 N2 hb
  go_enter Try.func49, Try.ntmps49
  go_wp2_with fail
  refine wp_region_E (Array.replicate 6 true) 6 0 mixed (by rfl) ?_
  have kE0 := ext_trans T0 (ext_drew _)
  have hg0 := Gr.cell kE0 c1
  have hg1 := Gr.cell kE0 c2
  refine wpE_seg' [0, 2] 4 rfl (by kernel_rfl) ?_
  iterate 2 (refine seg_cons rfl ?_; go_big_quiet_step (rfl))
  refine seg_nil ?_
  clear hg0 hg1
  refine wpE_one 1 (by kernel_rfl) rfl ?_
  go_wp2_with fail
  refine (L1.out _ kE0).mono ?_
  rintro e k1w ⟨r1, rfl, o1, k1b⟩
  go_wp2_with fail
  refine QE_intro k1b ?_
  have k1E := ext_trans kE0 k1b
  refine wpE_one 3 (by kernel_rfl) rfl ?_
  go_wp2_with fail
  refine (L2.out _ k1E).mono ?_
  rintro e k2w ⟨r2, rfl, o2, k2b⟩
  go_wp2_with fail
  refine QE_intro k2b ?_
  have k2E := ext_trans k1E k2b
  have hg0 := Gr.cell k2E c1
  have hg1 := Gr.cell k2E c2
  refine wpE_seg' [4, 5] 0 rfl (by kernel_rfl) ?_
  iterate 2 (refine seg_cons rfl ?_; go_big_quiet_step (rfl))
  refine seg_nil ?_
  clear hg0 hg1
  refine wpE_tail [] (by kernel_rfl) ?_
  refine tail_nil ?_
  obtain ⟨x2, cp2, hr2, _, _⟩ := Sl.outU (l := []) (Sl.of_own o2)
  subst hr2
  have z3 : k2w.heap[w.heap.size + 1 + 1]? = some (.cells #[.slice none 0 0] 42) := (k2E.block _ (by rw [s3]; omega)).trans c3
  have z4 : k2w.heap[w.heap.size + 1 + 1 + 1]? = some (.cells #[.slice none 0 0] 42) := (k2E.block _ (by rw [s3]; omega)).trans c4
  have zs : w.heap.size + 4 ≤ k2w.heap.size := by have := k2E.size; rw [s3] at this; exact this
  have hBw : Below w.heap.size w k2w := HB.out.trans (k2E.mono (by rw [s3]; omega))
  have hcell3 : k2w.cell? ⟨w.heap.size + 1 + 1, 0, none⟩ = some (.slice none 0 0) := by unfold World.cell?; rw [z3]; rfl
  have hfr3 : k2w.frozen? ⟨w.heap.size + 1 + 1, 0, none⟩ = false := by unfold World.frozen?; rw [z3]; rfl
  have hcell4 : k2w.cell? ⟨w.heap.size + 1 + 1 + 1, 0, none⟩ = some (.slice none 0 0) := by unfold World.cell?; rw [z4]; rfl
  have hfr4 : k2w.frozen? ⟨w.heap.size + 1 + 1 + 1, 0, none⟩ = false := by unfold World.frozen?; rw [z4]; rfl
  have NZ : NatV k2w (.agg #[.slice none 0 0]) 0 := ⟨_, rfl, by rw [digs_zero]; exact .nil _ _ _ _ (fun _ => rfl)⟩
  obtain ⟨q1, q2, M1, M2⟩ := box2 (w := k2w) z3 z4 (by decide) (by omega) NZ NZ
  have hBf := (below_put (off := 0) (u := .slice none 0 0) (b := w.heap.size + 1 + 1 + 1) (below_put (off := 0) (u := .slice none 0 0) (b := w.heap.size + 1 + 1) hBw (by omega)) (by omega))
  clear z3 z4 NZ hBw o1 o2 k2E k1E kE0 k1b k2b L1 L2 T0 HB c1 c2 c3 c4
  go_wp2
  exact bodyPost_ret (v := .tuple #[.agg #[.slice none 0 0], .agg #[.slice none 0 0], .int .i64 5]) (by simp [results, Try.results49, go_sem, q1, q2]) rfl ⟨_, _, rfl, M1, M2, hBf⟩

set_option maxRecDepth 100000 in
set_option maxHeartbeats 1600000 in
theorem prodDivides_ok {w : World} {v u : Value} {l m : List Nat} (h : SlA w v (u32s l)) (k : SlA w u (u32s m)) (hl : ∀ d ∈ l, d < B) (hm : ∀ d ∈ m, d < B) :
    Calls Try.prog 12 #[v, u] w fun e w' => e = .returned (.bool true) ∧ Below w.heap.size w w' := by
  have hl' := take_lt hl
  have hm' := take_lt hm
  have lx := fewLen l hl
  have ly := fewLen m hm
  have F1 := Lib.hid (fun (W : World) (E : Below w.heap.size w W) => few_ok (h.mono E))
  have F2 := Lib.hid (fun (W : World) (E : Below w.heap.size w W) => few_ok (k.mono E))
  have HL := Lib.hid hl'
  have HM := Lib.hid hm'
  have lenl : (l.take 40).length ≤ 40 := by simp; omega
  have lenm : (m.take 40).length ≤ 40 := by simp; omega
  generalize l.take 40 = l' at *
  generalize m.take 40 = m' at *
  clear h k hl hm hl' hm'
  go_enter Try.func12, Try.ntmps12
  go_wp2_with fail
  refine (awake02_ok _).mono ?_
  rintro e w1 ⟨rfl, h1⟩
  go_wp2_with fail
  refine (F1.out _ h1).mono ?_
  rintro e w2 ⟨r2, rfl, o2, h2⟩
  go_wp2_with fail
  refine (F2.out _ (ext_trans h1 h2)).mono ?_
  rintro e w3 ⟨r3, rfl, o3, h3⟩
  have L1 := Sl.of_own (own_ext o2 h3)
  have L2 := Sl.of_own o3
  have E3 := ext_trans h1 (ext_trans h2 h3)
  clear o2 o3 h1 h2 h3 F1 F2
  go_wp2_with fail
  refine (limbs_ok L1 HL.out (by omega)).mono ?_
  rintro e w5 ⟨r5, rfl, n5', h5⟩
  go_wp2_with fail
  refine (limbs_ok (L2.mono h5) HM.out (by omega)).mono ?_
  rintro e w6 ⟨r6, rfl, n6', h6⟩
  have E6 := ext_trans E3 (ext_trans h5 h6)
  have RB := Lib.hid (fun (W : World) (E : Below w6.heap.size w6 W) => refOf_ok (L2.mono (ext_trans (ext_trans h5 h6) E)) HM.out (by omega))
  have x5 := n5'.mono h6
  clear n5' h5 h6 L1 L2 E3
  generalize val B l' = X at *
  generalize val B m' = Y at *
  obtain ⟨a, n, cap, rfl, x5⟩ := x5.out
  obtain ⟨a2, n2, cap2, rfl, x6⟩ := n6'.out
  have hb := below2 (w := w6) (.cells #[.slice a n cap] 42) (.cells #[.slice a2 n2 cap2] 42)
  have NX := Lib.hid (fun (W : World) (E : Below w6.heap.size w6 W) => x5.mono E)
  have NY := Lib.hid (fun (W : World) (E : Below w6.heap.size w6 W) => x6.mono E)
  have c1 : ((w6.alloc (.cells #[.slice a n cap] 42)).alloc (.cells #[.slice a2 n2 cap2] 42)).cell? ⟨w6.heap.size, 0, none⟩ = some (.slice a n cap) := by go_simp
  have c2 : ((w6.alloc (.cells #[.slice a n cap] 42)).alloc (.cells #[.slice a2 n2 cap2] 42)).cell? ⟨w6.heap.size + 1, 0, none⟩ = some (.slice a2 n2 cap2) := by go_simp
  clear n6' x5 x6
  by_cases hY : Y = 0
  · subst hY
    have DZ := Lib.hid (fun (W : World) (E : Below w6.heap.size w6 W) => divMod_zero (NX.out W E) (NY.out W E) (by omega))
    have hz : ((0 : Nat) == 0) = true := rfl
    have ZY := Lib.hid (fun (W : World) (E : Below w6.heap.size w6 W) => zero_ok (NY.out W E))
    go_wp2_with fail
    refine (DZ.out _ hb).mono ?_
    rintro e w7 ⟨q, r, rfl, n7, n8, h7⟩
    obtain ⟨a4, n4, cap4, rfl, n7⟩ := n7.out
    obtain ⟨a5, n5, cap5, rfl, n8⟩ := n8.out
    have hb7 := ext_trans h7 (below2 (.cells #[.slice a4 n4 cap4] 42) (.cells #[.slice a5 n5 cap5] 42))
    have d2 := cellE hb7 c2
    have d3 : ((w7.alloc (.cells #[.slice a4 n4 cap4] 42)).alloc (.cells #[.slice a5 n5 cap5] 42)).cell? ⟨w7.heap.size, 0, none⟩ = some (.slice a4 n4 cap4) := by go_simp
    have d4 : ((w7.alloc (.cells #[.slice a4 n4 cap4] 42)).alloc (.cells #[.slice a5 n5 cap5] 42)).cell? ⟨w7.heap.size + 1, 0, none⟩ = some (.slice a5 n5 cap5) := by go_simp
    have Z1 := Lib.hid (fun (W : World) (E : Below w7.heap.size w7 W) => zero_ok (n7.mono E))
    have Z2 := Lib.hid (fun (W : World) (E : Below w7.heap.size w7 W) => zero_ok (n8.mono E))
    have EE := ext_trans hb hb7
    clear n7 n8 h7
    go_wp2_with fail
    refine (ZY.out _ EE).mono ?_
    rintro e w8 ⟨rfl, h8⟩
    have e3 := cellE h8 d3
    have e4 := cellE h8 d4
    have b8 := ext_trans (below2 (.cells #[.slice a4 n4 cap4] 42) (.cells #[.slice a5 n5 cap5] 42)) h8
    go_wp2_with fail
    refine (Z1.out _ b8).mono ?_
    rintro e w9 ⟨rfl, h9⟩
    have e4 := cellE h9 e4
    go_wp2_with fail
    refine (Z2.out _ (ext_trans b8 h9)).mono ?_
    rintro e w10 ⟨rfl, h10⟩
    go_wp2
    go_ret
    exact ⟨rfl, ext_trans E6 (ext_trans EE (ext_trans h8 (ext_trans h9 h10)))⟩
  · have hY0 : 0 < Y := by omega
    have hz : (Y == 0) = false := beq_eq_false_iff_ne.2 hY
    have lq : (digs B (X / Y)).length ≤ 40 := Nat.le_trans (len_mono two_le_B (Nat.div_le_self X Y)) lx
    have lr : (digs B (X % Y)).length ≤ 40 := Nat.le_trans (len_mono two_le_B (Nat.mod_le X Y)) lx
    have DM := Lib.hid (fun (W : World) (E : Below w6.heap.size w6 W) => divMod_ok (NX.out W E) (NY.out W E) (by omega) (by omega) hY0 (fun h2 hyx => long_ok (by omega) h2 hyx))
    have ZY := Lib.hid (fun (W : World) (E : Below w6.heap.size w6 W) => zero_ok (NY.out W E))
    rw [hz] at ZY
    have lx10 : (digs 10 X).length < 268435456 := by have := len10_le ((len_digs_le two_le_B).1 lx); omega
    have ly10 : (digs 10 Y).length < 268435456 := by have := len10_le ((len_digs_le two_le_B).1 ly); omega
    have lq10 : (digs 10 (X / Y)).length < 268435456 := by have := len10_le ((len_digs_le two_le_B).1 lq); omega
    have lr10 : (digs 10 (X % Y)).length < 268435456 := by have := len10_le ((len_digs_le two_le_B).1 lr); omega
    have hmod := Nat.mod_lt X hY0
    have hsum : X / Y * Y + X % Y = X := by rw [Nat.mul_comm]; exact Nat.div_add_mod X Y
    have CM := Lib.hid (fun (W : World) (v : Value) (h : NatV W v (X % Y)) (E : Below w6.heap.size w6 W) => compare_ok h (NY.out W E) (by omega) (by omega))
    rw [cmp_of_lt hmod] at CM
    have lqy10 : (digs 10 (X / Y * Y)).length < 268435456 := Nat.lt_of_le_of_lt (len_mono (by omega) (by omega)) lx10
    have RM := Lib.hid (fun (W : World) (v u : Value) (h : DecV W v (X / Y)) (g : DecV W u Y) => refMul_ok h g lq10 ly10)
    have RA := Lib.hid (fun (W : World) (v u : Value) (h : DecV W v (X / Y * Y)) (g : DecV W u (X % Y)) => refAdd_ok h g (by omega) (by omega))
    rw [hsum] at RA
    have IS := Lib.hid (fun (W : World) (u : Value) (g : DecV W u X) (E : Below w6.heap.size w6 W) => is_ok (NX.out W E) g (by omega) (by omega))
    rw [show decide (X = X) = true from decide_eq_true rfl] at IS
    have NLQ := Lib.hid (fun (W : World) (v : Value) (h : NatV W v (X / Y)) => natLimbs_ok h (by omega))
    have NLR := Lib.hid (fun (W : World) (v : Value) (h : NatV W v (X % Y)) => natLimbs_ok h (by omega))
    have ROQ := Lib.hid (fun (W : World) (v : Value) (h : Sl eU32 W v (u32s (digs B (X / Y)))) => refOf_ok h (digs_lt two_le_B _) (by omega))
    have ROR := Lib.hid (fun (W : World) (v : Value) (h : Sl eU32 W v (u32s (digs B (X % Y)))) => refOf_ok h (digs_lt two_le_B _) (by omega))
    rw [val_digs two_le_B] at ROQ ROR
    generalize X / Y = q at *
    generalize X % Y = r at *
    clear hsum lqy10 hmod lq lr lq10 lr10 lx10 ly10 lx ly hz hY
    go_wp2_with fail
    refine (DM.out _ hb).mono ?_
    rintro e w7 ⟨vq, vr, rfl, n7, n8, h7⟩
    obtain ⟨a4, n4, cap4, rfl, n7⟩ := n7.out
    obtain ⟨a5, n5, cap5, rfl, n8⟩ := n8.out
    have hb7 := ext_trans h7 (below2 (.cells #[.slice a4 n4 cap4] 42) (.cells #[.slice a5 n5 cap5] 42))
    have d1 := cellE hb7 c1
    have d2 := cellE hb7 c2
    have d3 : ((w7.alloc (.cells #[.slice a4 n4 cap4] 42)).alloc (.cells #[.slice a5 n5 cap5] 42)).cell? ⟨w7.heap.size, 0, none⟩ = some (.slice a4 n4 cap4) := by go_simp
    have d4 : ((w7.alloc (.cells #[.slice a4 n4 cap4] 42)).alloc (.cells #[.slice a5 n5 cap5] 42)).cell? ⟨w7.heap.size + 1, 0, none⟩ = some (.slice a5 n5 cap5) := by go_simp
    have NQ := Lib.hid (fun (W : World) (E : Below w7.heap.size w7 W) => n7.mono E)
    have NR := Lib.hid (fun (W : World) (E : Below w7.heap.size w7 W) => n8.mono E)
    have EE := ext_trans hb hb7
    clear n7 n8
    go_wp2_with fail
    refine (ZY.out _ EE).mono ?_
    rintro e w8 ⟨rfl, h8⟩
    have b8 := ext_trans (below2 (.cells #[.slice a4 n4 cap4] 42) (.cells #[.slice a5 n5 cap5] 42)) h8
    have b68 := ext_trans EE h8
    have f1 := cellE h8 d1
    have f2 := cellE h8 d2
    have f3 := cellE h8 d3
    have f4 := cellE h8 d4
    go_wp2_with fail
    refine (CM.out _ _ (NR.out _ b8) b68).mono ?_
    rintro e w9 ⟨rfl, h9⟩
    have g1 := cellE h9 f1
    have g3 := cellE h9 f3
    have g4 := cellE h9 f4
    have b9 := ext_trans b8 h9
    clear f1 f2 f3 f4
    go_wp2_with fail
    refine (NLQ.out _ _ (NQ.out _ b9)).mono ?_
    rintro e w10 ⟨r10, rfl, o10, h10⟩
    go_wp2_with fail
    refine (ROQ.out _ _ (Sl.of_own o10)).mono ?_
    rintro e w11 ⟨r11, rfl, o11, h11⟩
    go_wp2_with fail
    refine (RB.out _ (ext_trans b68 (ext_trans h9 (ext_trans h10 h11)))).mono ?_
    rintro e w12 ⟨r12, rfl, o12, h12⟩
    go_wp2_with fail
    refine (RM.out _ _ _ (o11.mono h12) o12).mono ?_
    rintro e w13 ⟨r13, rfl, o13, h13⟩
    have h913 := ext_trans h10 (ext_trans h11 (ext_trans h12 h13))
    have g1 := cellE h913 g1
    have g4 := cellE h913 g4
    have b13 := ext_trans b9 h913
    have b613 := ext_trans b68 (ext_trans h9 h913)
    have T1 := ext_refl w13
    clear o10 o11 o12 h10 h11 h12 h13
    go_wp2_with fail
    refine wp_region_E (Array.replicate 8 true) 8 0 mixed (by rfl) ?_
    have kE0 := ext_trans T1 (ext_drew _)
    have hg0 := Gr.cell kE0 g1
    have hg1 := Gr.cell kE0 g4
    refine wpE_seg' [0, 1, 2] 5 rfl (by kernel_rfl) ?_
    iterate 3 (refine seg_cons rfl ?_; go_big_quiet_step (rfl))
    refine seg_nil ?_
    clear hg0 hg1
    refine wpE_one 3 (by kernel_rfl) rfl ?_
    go_wp2_with fail
    refine (NLR.out _ _ (NR.out _ (ext_trans b13 kE0))).mono ?_
    rintro e k1w ⟨s1, rfl, p1, k1b⟩
    go_wp2_with fail
    refine QE_intro k1b ?_
    have k1E := ext_trans kE0 k1b
    refine wpE_one 4 (by kernel_rfl) rfl ?_
    go_wp2_with fail
    refine (ROR.out _ _ (Sl.of_own p1)).mono ?_
    rintro e k2w ⟨s2, rfl, p2, k2b⟩
    go_wp2_with fail
    refine QE_intro k2b ?_
    have k2E := ext_trans k1E k2b
    refine wpE_one 5 (by kernel_rfl) rfl ?_
    go_wp2_with fail
    refine (RA.out _ _ _ (o13.mono k2E) p2).mono ?_
    rintro e k3w ⟨s3, rfl, p3, k3b⟩
    go_wp2_with fail
    refine QE_intro k3b ?_
    have k3E := ext_trans k2E k3b
    refine wpE_one 6 (by kernel_rfl) rfl ?_
    go_wp2_with fail
    refine (IS.out _ _ p3 (ext_trans b613 k3E)).mono ?_
    rintro e k4w ⟨rfl, k4b⟩
    go_wp2_with fail
    refine QE_intro k4b ?_
    have k4E := ext_trans k3E k4b
    refine wpE_seg' [7] 0 rfl (by kernel_rfl) ?_
    iterate 1 (refine seg_cons rfl ?_; go_big_quiet_step (rfl))
    refine seg_nil ?_
    refine wpE_tail [] (by kernel_rfl) ?_
    refine tail_nil ?_
    go_wp2
    go_ret
    exact ⟨rfl, ext_trans E6 (ext_trans b613 k4E)⟩
end Go.Proofs.Ytcabmibcgedhhaa

/-
  The walk of the law ProdMuls.
-/
import Derived.Test.YtcabmibcgedhhaaProd6
import Derived.Test.YtcabmibcgedhhaaRef5
namespace Go.Proofs.Ytcabmibcgedhhaa
open Go.RowKit Go.Cd

theorem nats3 {w : World} {a a2 a3 : Option Addr} {n cap n2 cap2 n3 cap3 x y z : Nat} (h1 : NatV w (.agg #[.slice a n cap]) x) (h2 : NatV w (.agg #[.slice a2 n2 cap2]) y) (h3 : NatV w (.agg #[.slice a3 n3 cap3]) z) :
    NatsV (w.alloc (.cells #[.slice a n cap, .slice a2 n2 cap2, .slice a3 n3 cap3] 42)) (.slice (some ⟨w.heap.size, 0, none⟩) 3 3) [x, y, z] := by
  refine ⟨_, 3, rfl, fun i hi => ?_⟩
  match i, hi with
  | 0, _ => exact ⟨_, _, _, _, _, rfl, by simp, by go_simp, h1.mono (below_new _)⟩
  | 1, _ => exact ⟨_, _, _, _, _, rfl, by simp, by go_simp, h2.mono (below_new _)⟩
  | 2, _ => exact ⟨_, _, _, _, _, rfl, by simp, by go_simp, h3.mono (below_new _)⟩

theorem nats1 {w : World} {a : Option Addr} {n cap x : Nat} (h1 : NatV w (.agg #[.slice a n cap]) x) :
    NatsV (w.alloc (.cells #[.slice a n cap] 42)) (.slice (some ⟨w.heap.size, 0, none⟩) 1 1) [x] := by
  refine ⟨_, 1, rfl, fun i hi => ?_⟩
  match i, hi with
  | 0, _ => exact ⟨_, _, _, _, _, rfl, by simp, by go_simp, h1.mono (below_new _)⟩

theorem lenMul {x y i j : Nat} (hx : (digs B x).length ≤ i) (hy : (digs B y).length ≤ j) : (digs B (x * y)).length ≤ i + j := by
  rw [len_digs_le two_le_B] at *
  rw [Nat.pow_add]
  exact Nat.mul_lt_mul_of_lt_of_lt hx hy

set_option maxRecDepth 100000 in
set_option maxHeartbeats 3200000 in
theorem prodMuls_ok {w : World} {v u v3 : Value} {l m l3 : List Nat} (h : SlA w v (u32s l)) (k : SlA w u (u32s m)) (g : SlA w v3 (u32s l3)) (hl : ∀ d ∈ l, d < B) (hm : ∀ d ∈ m, d < B) (hl3 : ∀ d ∈ l3, d < B) :
    Calls Try.prog 15 #[v, u, v3] w fun e w' => e = .returned (.bool true) ∧ Below w.heap.size w w' := by
  have hl' := take_lt hl
  have hm' := take_lt hm
  have hl3' := take_lt hl3
  have lx := fewLen l hl
  have ly := fewLen m hm
  have lz := fewLen l3 hl3
  have F1 := Lib.hid (fun (W : World) (E : Below w.heap.size w W) => few_ok (h.mono E))
  have F2 := Lib.hid (fun (W : World) (E : Below w.heap.size w W) => few_ok (k.mono E))
  have F3 := Lib.hid (fun (W : World) (E : Below w.heap.size w W) => few_ok (g.mono E))
  have HL := Lib.hid hl'
  have HM := Lib.hid hm'
  have HL3 := Lib.hid hl3'
  have lenl : (l.take 40).length ≤ 40 := by simp; omega
  have lenm : (m.take 40).length ≤ 40 := by simp; omega
  have lenl3 : (l3.take 40).length ≤ 40 := by simp; omega
  generalize l.take 40 = l' at *
  generalize m.take 40 = m' at *
  generalize l3.take 40 = l3' at *
  clear h k g hl hm hl3 hl' hm' hl3'
  go_enter Try.func15, Try.ntmps15
  go_wp2_with fail
  refine (awake02_ok _).mono ?_
  rintro e w1 ⟨rfl, h1⟩
  go_wp2_with fail
  refine (F1.out _ h1).mono ?_
  rintro e w2 ⟨r2, rfl, o2, h2⟩
  go_wp2_with fail
  refine (F2.out _ (ext_trans h1 h2)).mono ?_
  rintro e w3 ⟨r3, rfl, o3, h3⟩
  go_wp2_with fail
  refine (F3.out _ (ext_trans h1 (ext_trans h2 h3))).mono ?_
  rintro e w4 ⟨r4, rfl, o4, h4⟩
  have L1 := Sl.of_own (own_ext o2 (ext_trans h3 h4))
  have L2 := Sl.of_own (own_ext o3 h4)
  have L3 := Sl.of_own o4
  have E4 := ext_trans h1 (ext_trans h2 (ext_trans h3 h4))
  clear o2 o3 o4 h1 h2 h3 h4 F1 F2 F3
  go_wp2_with fail
  refine (limbs_ok L1 HL.out (by omega)).mono ?_
  rintro e w5 ⟨r5, rfl, n5', h5⟩
  go_wp2_with fail
  refine (limbs_ok (L2.mono h5) HM.out (by omega)).mono ?_
  rintro e w6 ⟨r6, rfl, n6', h6⟩
  go_wp2_with fail
  refine (limbs_ok (L3.mono (ext_trans h5 h6)) HL3.out (by omega)).mono ?_
  rintro e w7 ⟨r7, rfl, n7', h7⟩
  have E57 := ext_trans h5 (ext_trans h6 h7)
  have E7 := ext_trans E4 E57
  have RA := Lib.hid (fun (W : World) (E : Below w7.heap.size w7 W) => refOf_ok (L1.mono (ext_trans E57 E)) HL.out (by omega))
  have RB := Lib.hid (fun (W : World) (E : Below w7.heap.size w7 W) => refOf_ok (L2.mono (ext_trans E57 E)) HM.out (by omega))
  have x5 := n5'.mono (ext_trans h6 h7)
  have x6 := n6'.mono h7
  clear n5' n6' h5 h6 h7 L1 L2 L3 E57 E4
  generalize val B l' = X at *
  generalize val B m' = Y at *
  generalize val B l3' = Z at *
  obtain ⟨a, n, cap, rfl, x5⟩ := x5.out
  obtain ⟨a2, n2, cap2, rfl, x6⟩ := x6.out
  obtain ⟨a3, n3, cap3, rfl, x7⟩ := n7'.out
  have hb := (below2 (w := w7) (.cells #[.slice a n cap] 42) (.cells #[.slice a2 n2 cap2] 42)).alloc (by simp; omega) (.cells #[.slice a3 n3 cap3] 42)
  clear n7'
  have lxy := lenMul lx ly
  have lxz := lenMul lx lz
  have lyz := lenMul ly lz
  have lxyz := lenMul lxy lz
  have lx10 : (digs 10 X).length < 268435456 := by have := len10_le ((len_digs_le two_le_B).1 lx); omega
  have ly10 : (digs 10 Y).length < 268435456 := by have := len10_le ((len_digs_le two_le_B).1 ly); omega
  have lxy10 : (digs 10 (X * Y)).length < 1073741824 := by have := len10_le ((len_digs_le two_le_B).1 lxy); omega
  have ls := lenAdd lx ly
  have MXY := Lib.hid (fun (W : World) (E : Below w7.heap.size w7 W) => mul_ok (x5.mono E) (x6.mono E) (by omega) (by omega))
  have MYX := Lib.hid (fun (W : World) (E : Below w7.heap.size w7 W) => mul_ok (x6.mono E) (x5.mono E) (by omega) (by omega))
  rw [Nat.mul_comm Y X] at MYX
  have MXZ := Lib.hid (fun (W : World) (E : Below w7.heap.size w7 W) => mul_ok (x5.mono E) (x7.mono E) (by omega) (by omega))
  have MYZ := Lib.hid (fun (W : World) (E : Below w7.heap.size w7 W) => mul_ok (x6.mono E) (x7.mono E) (by omega) (by omega))
  have AXY := Lib.hid (fun (W : World) (E : Below w7.heap.size w7 W) => add_ok (x5.mono E) (x6.mono E) (by omega) (by omega))
  have MS := Lib.hid (fun (W : World) (v : Value) (h : NatV W v (X + Y)) (E : Below w7.heap.size w7 W) => mul_ok h (x7.mono E) (by omega) (by omega))
  rw [Nat.add_mul X Y Z] at MS
  have ADD := Lib.hid (fun (W : World) (v u : Value) (h : NatV W v (X * Z)) (g : NatV W u (Y * Z)) => add_ok h g (by omega) (by omega))
  have lsum : (digs B (X * Z + Y * Z)).length ≤ 81 := lenB_le (add_lt_pow two_le_B ((len_digs_le two_le_B).1 lxz) ((len_digs_le two_le_B).1 lyz))
  have SS := Lib.hid (fun (W : World) (v u : Value) (h : NatV W v (X * Z + Y * Z)) (g : NatV W u (X * Z + Y * Z)) => same_ok h g (by omega))
  rw [show decide (X * Z + Y * Z = X * Z + Y * Z) = true from decide_eq_true rfl] at SS
  have SP := Lib.hid (fun (W : World) (v u : Value) (h : NatV W v (X * Y)) (g : NatV W u (X * Y)) => same_ok h g (by omega))
  rw [show decide (X * Y = X * Y) = true from decide_eq_true rfl] at SP
  have SQ := Lib.hid (fun (W : World) (v u : Value) (h : NatV W v (X * Y * Z)) (g : NatV W u (X * Y * Z)) => same_ok h g (by omega))
  rw [show decide (X * Y * Z = X * Y * Z) = true from decide_eq_true rfl] at SQ
  have SX := Lib.hid (fun (W : World) (v u : Value) (h : NatV W v X) (g : NatV W u X) => same_ok h g (by omega))
  rw [show decide (X = X) = true from decide_eq_true rfl] at SX
  have l1 : (digs B 1).length ≤ 1 := lenB_le (by decide)
  have S1 := Lib.hid (fun (W : World) (v u : Value) (h : NatV W v 1) (g : NatV W u 1) => same_ok h g (by omega))
  have MPZ := Lib.hid (fun (W : World) (v : Value) (h : NatV W v (X * Y)) (E : Below w7.heap.size w7 W) => mul_ok h (x7.mono E) (by omega) (by omega))
  have MX3 := Lib.hid (fun (W : World) (v : Value) (h : NatV W v (Y * Z)) (E : Below w7.heap.size w7 W) => mul_ok (x5.mono E) h (by omega) (by omega))
  rw [← Nat.mul_assoc X Y Z] at MX3
  have RM := Lib.hid (fun (W : World) (v u : Value) (h : DecV W v X) (g : DecV W u Y) => refMul_ok h g lx10 ly10)
  have IS := Lib.hid (fun (W : World) (v u : Value) (h : NatV W v (X * Y)) (g : DecV W u (X * Y)) => is_ok h g (by omega) lxy10)
  rw [show decide (X * Y = X * Y) = true from decide_eq_true rfl] at IS
  have O1 := Lib.hid (of_ok 1 (by omega))
  have O0 := Lib.hid (fun (W : World) => prodOf_ok (w := W) (v := .slice none 0 0) (xs := []) ⟨none, 0, rfl, fun i hi => by simp at hi⟩ (by simp) (fun k _ => by simp [prodL]; omega) (by simp))
  have e3 : prodL [X, Y, Z] = X * Y * Z := by simp [prodL]
  have O3 := Lib.hid (fun (W : World) (E : Below w7.heap.size w7 W) => prodOf_ok (nats3 (x5.mono E) (x6.mono E) (x7.mono E)) (by simp) (fun k hk => by
    match k, hk with
    | 0, _ => simp [prodL]; omega
    | 1, _ => simp [prodL]; omega
    | 2, _ => simp [prodL]; omega
    | 3, _ => simp [prodL]; omega) (fun x hx => by simp at hx; rcases hx with rfl | rfl | rfl <;> omega))
  rw [e3] at O3
  have e1 : prodL [X] = X := by simp [prodL]
  have OX := Lib.hid (fun (W : World) (E : Below w7.heap.size w7 W) => prodOf_ok (nats1 (x5.mono E)) (by simp) (fun k hk => by
    match k, hk with
    | 0, _ => simp [prodL]; omega
    | 1, _ => simp [prodL]; omega) (fun x hx => by simp at hx; subst hx; omega))
  rw [e1] at OX
  have NX := Lib.hid (fun (W : World) (E : Below w7.heap.size w7 W) => x5.mono E)
  clear x5 x6 x7 e1 e3 lx ly lz lxy lxz lyz lxyz lx10 ly10 lxy10 ls lsum l1
  go_wp2_with fail
  refine (MXY.out _ hb).mono ?_
  rintro e w8 ⟨r8, rfl, np, b8⟩
  obtain ⟨a4, n4, cap4, rfl, np⟩ := np.out
  have hb8 := ext_trans b8 (below_new (.cells #[.slice a4 n4 cap4] 42))
  have E8 := ext_trans hb hb8
  have c1 : (w8.alloc (.cells #[.slice a4 n4 cap4] 42)).cell? ⟨w7.heap.size, 0, none⟩ = some (.slice a n cap) := cellE hb8 (by go_simp)
  have c2 : (w8.alloc (.cells #[.slice a4 n4 cap4] 42)).cell? ⟨w7.heap.size + 1, 0, none⟩ = some (.slice a2 n2 cap2) := cellE hb8 (by go_simp)
  have c3 : (w8.alloc (.cells #[.slice a4 n4 cap4] 42)).cell? ⟨w7.heap.size + 1 + 1, 0, none⟩ = some (.slice a3 n3 cap3) := cellE hb8 (by go_simp)
  have c4 : (w8.alloc (.cells #[.slice a4 n4 cap4] 42)).cell? ⟨w8.heap.size, 0, none⟩ = some (.slice a4 n4 cap4) := by go_simp
  have NP := Lib.hid (fun (W : World) (E : Below (w8.alloc (.cells #[.slice a4 n4 cap4] 42)).heap.size (w8.alloc (.cells #[.slice a4 n4 cap4] 42)) W) => np.mono (ext_trans (below_new (.cells #[.slice a4 n4 cap4] 42)) E))
  have T0 := ext_refl (w8.alloc (.cells #[.slice a4 n4 cap4] 42))
  clear np hb b8 hb8
  go_wp2_with fail
  refine wp_region_E (Array.replicate 16 true) 16 0 mixed (by rfl) ?_
  have kE0 := ext_trans T0 (ext_drew _)
  have hg0 := Gr.cell kE0 c1
  have hg1 := Gr.cell kE0 c2
  have hg2 := Gr.cell kE0 c3
  have hg3 := Gr.cell kE0 c4
  refine wpE_seg' [0, 1, 3] 13 rfl (by kernel_rfl) ?_
  iterate 3 (refine seg_cons rfl ?_; go_big_quiet_step (rfl))
  refine seg_nil ?_
  clear hg0 hg1 hg2 hg3
  refine wpE_one 2 (by kernel_rfl) rfl ?_
  go_wp2_with fail
  refine (RA.out _ (ext_trans E8 kE0)).mono ?_
  rintro e k1w ⟨s1, rfl, p1, k1b⟩
  go_wp2_with fail
  refine QE_intro k1b ?_
  have k1E := ext_trans kE0 k1b
  refine wpE_one 4 (by kernel_rfl) rfl ?_
  go_wp2_with fail
  refine (RB.out _ (ext_trans E8 k1E)).mono ?_
  rintro e k2w ⟨s2, rfl, p2, k2b⟩
  go_wp2_with fail
  refine QE_intro k2b ?_
  have k2E := ext_trans k1E k2b
  refine wpE_one 5 (by kernel_rfl) rfl ?_
  go_wp2_with fail
  refine (RM.out _ _ _ (p1.mono k2b) p2).mono ?_
  rintro e k3w ⟨s3, rfl, p3, k3b⟩
  go_wp2_with fail
  refine QE_intro k3b ?_
  have k3E := ext_trans k2E k3b
  refine wpE_one 6 (by kernel_rfl) rfl ?_
  go_wp2_with fail
  refine (IS.out _ _ _ (NP.out _ k3E) p3).mono ?_
  rintro e k4w ⟨rfl, k4b⟩
  go_wp2_with fail
  refine QE_intro k4b ?_
  have k4E := ext_trans k3E k4b
  have hg0 := Gr.cell k4E c1
  have hg1 := Gr.cell k4E c2
  have hg2 := Gr.cell k4E c3
  have hg3 := Gr.cell k4E c4
  refine wpE_seg' [7, 8, 9, 10, 11] 4 rfl (by kernel_rfl) ?_
  iterate 5 (refine seg_cons rfl ?_; go_big_quiet_step (rfl))
  refine seg_nil ?_
  clear hg0 hg1 hg2 hg3
  refine wpE_one 12 (by kernel_rfl) rfl ?_
  go_wp2_with fail
  refine (MYX.out _ (ext_trans E8 k4E)).mono ?_
  rintro e k5w ⟨s4, rfl, p4, k5b⟩
  go_wp2_with fail
  refine QE_intro k5b ?_
  have k5E := ext_trans k4E k5b
  refine wpE_one 13 (by kernel_rfl) rfl ?_
  go_wp2_with fail
  refine (SP.out _ _ _ (NP.out _ k5E) p4).mono ?_
  rintro e k6w ⟨rfl, k6b⟩
  go_wp2_with fail
  refine QE_intro k6b ?_
  have k6E := ext_trans k5E k6b
  have hg0 := Gr.cell k6E c1
  have hg1 := Gr.cell k6E c2
  have hg2 := Gr.cell k6E c3
  have hg3 := Gr.cell k6E c4
  refine wpE_seg' [14, 15] 0 rfl (by kernel_rfl) ?_
  iterate 2 (refine seg_cons rfl ?_; go_big_quiet_step (rfl))
  refine seg_nil ?_
  clear hg0 hg1 hg2 hg3
  refine wpE_tail [] (by kernel_rfl) ?_
  refine tail_nil ?_
  clear p1 p2 p3 p4
  go_wp2_with fail
  refine wp_region_E (Array.replicate 14 true) 14 0 mixed (by rfl) ?_
  have qE0 := ext_trans k6E (ext_drew _)
  have hg0 := Gr.cell qE0 c1
  have hg1 := Gr.cell qE0 c2
  have hg2 := Gr.cell qE0 c3
  have hg3 := Gr.cell qE0 c4
  refine wpE_seg' [0, 1, 3, 5, 6, 8, 9] 7 rfl (by kernel_rfl) ?_
  iterate 7 (refine seg_cons rfl ?_; go_big_quiet_step (rfl))
  refine seg_nil ?_
  clear hg0 hg1 hg2 hg3
  refine wpE_one 2 (by kernel_rfl) rfl ?_
  go_wp2_with fail
  refine (AXY.out _ (ext_trans E8 qE0)).mono ?_
  rintro e q1w ⟨t1, rfl, u1, q1b⟩
  go_wp2_with fail
  refine QE_intro q1b ?_
  have q1E := ext_trans qE0 q1b
  refine wpE_one 4 (by kernel_rfl) rfl ?_
  go_wp2_with fail
  refine (MS.out _ _ u1 (ext_trans E8 q1E)).mono ?_
  rintro e q2w ⟨t2, rfl, u2, q2b⟩
  go_wp2_with fail
  refine QE_intro q2b ?_
  have q2E := ext_trans q1E q2b
  refine wpE_one 7 (by kernel_rfl) rfl ?_
  go_wp2_with fail
  refine (MXZ.out _ (ext_trans E8 q2E)).mono ?_
  rintro e q3w ⟨t3, rfl, u3, q3b⟩
  go_wp2_with fail
  refine QE_intro q3b ?_
  have q3E := ext_trans q2E q3b
  refine wpE_one 10 (by kernel_rfl) rfl ?_
  go_wp2_with fail
  refine (MYZ.out _ (ext_trans E8 q3E)).mono ?_
  rintro e q4w ⟨t4, rfl, u4, q4b⟩
  go_wp2_with fail
  refine QE_intro q4b ?_
  have q4E := ext_trans q3E q4b
  refine wpE_one 11 (by kernel_rfl) rfl ?_
  go_wp2_with fail
  refine (ADD.out _ _ _ (u3.mono q4b) u4).mono ?_
  rintro e q5w ⟨t5, rfl, u5, q5b⟩
  go_wp2_with fail
  refine QE_intro q5b ?_
  have q5E := ext_trans q4E q5b
  refine wpE_one 12 (by kernel_rfl) rfl ?_
  go_wp2_with fail
  refine (SS.out _ _ _ (u2.mono (ext_trans q3b (ext_trans q4b q5b))) u5).mono ?_
  rintro e q6w ⟨rfl, q6b⟩
  go_wp2_with fail
  refine QE_intro q6b ?_
  have q6E := ext_trans q5E q6b
  have hg0 := Gr.cell q6E c1
  have hg1 := Gr.cell q6E c2
  have hg2 := Gr.cell q6E c3
  have hg3 := Gr.cell q6E c4
  refine wpE_seg' [13] 0 rfl (by kernel_rfl) ?_
  iterate 1 (refine seg_cons rfl ?_; go_big_quiet_step (rfl))
  refine seg_nil ?_
  clear hg0 hg1 hg2 hg3
  refine wpE_tail [] (by kernel_rfl) ?_
  refine tail_nil ?_
  clear u1 u2 u3 u4 u5
  have d1 := cellE q6E c1
  have d2 := cellE q6E c2
  have d3 := cellE q6E c3
  go_wp2_with fail
  refine (O3.out _ (ext_trans E8 q6E)).mono ?_
  rintro e w9 ⟨r9, rfl, na, b9⟩
  obtain ⟨a5, n5, cap5, rfl, na⟩ := na.out
  have EE := ext_trans q6E (ext_trans (below_new (.cells #[.slice a n cap, .slice a2 n2 cap2, .slice a3 n3 cap3] 42)) (ext_trans b9 (below_new (.cells #[.slice a5 n5 cap5] 42))))
  have f1 := cellE EE c1
  have f2 := cellE EE c2
  have f3 := cellE EE c3
  have f4 := cellE EE c4
  have f5 : (w9.alloc (.cells #[.slice a5 n5 cap5] 42)).cell? ⟨w9.heap.size, 0, none⟩ = some (.slice a5 n5 cap5) := by go_simp
  have NA := Lib.hid (fun (W : World) (E : Below (w9.alloc (.cells #[.slice a5 n5 cap5] 42)).heap.size (w9.alloc (.cells #[.slice a5 n5 cap5] 42)) W) => na.mono (ext_trans (below_new (.cells #[.slice a5 n5 cap5] 42)) E))
  have T2 := ext_refl (w9.alloc (.cells #[.slice a5 n5 cap5] 42))
  have G8 := ext_trans E8 EE
  clear na b9 d1 d2 d3 c1 c2 c3 c4
  go_wp2_with fail
  refine wp_region_E (Array.replicate 27 true) 27 0 mixed (by rfl) ?_
  have mE0 := ext_trans T2 (ext_drew _)
  have hg0 := Gr.cell mE0 f1
  have hg1 := Gr.cell mE0 f2
  have hg2 := Gr.cell mE0 f3
  have hg3 := Gr.cell mE0 f4
  have hg4 := Gr.cell mE0 f5
  refine wpE_seg' [0, 1, 2] 24 rfl (by kernel_rfl) ?_
  iterate 3 (refine seg_cons rfl ?_; go_big_quiet_step (rfl))
  refine seg_nil ?_
  clear hg0 hg1 hg2 hg3 hg4
  refine wpE_one 3 (by kernel_rfl) rfl ?_
  go_wp2_with fail
  refine (MPZ.out _ _ (NP.out _ (ext_trans EE mE0)) (ext_trans G8 mE0)).mono ?_
  rintro e m1w ⟨y1, rfl, v1, m1b⟩
  go_wp2_with fail
  refine QE_intro m1b ?_
  have m1E := ext_trans mE0 m1b
  refine wpE_one 4 (by kernel_rfl) rfl ?_
  go_wp2_with fail
  refine (SQ.out _ _ _ (NA.out _ m1E) v1).mono ?_
  rintro e m2w ⟨rfl, m2b⟩
  go_wp2_with fail
  refine QE_intro m2b ?_
  have m2E := ext_trans m1E m2b
  have hg0 := Gr.cell m2E f1
  have hg1 := Gr.cell m2E f2
  have hg2 := Gr.cell m2E f3
  have hg3 := Gr.cell m2E f4
  have hg4 := Gr.cell m2E f5
  refine wpE_seg' [5, 6, 7, 8, 9] 17 rfl (by kernel_rfl) ?_
  iterate 5 (refine seg_cons rfl ?_; go_big_quiet_step (rfl))
  refine seg_nil ?_
  clear hg0 hg1 hg2 hg3 hg4
  refine wpE_one 10 (by kernel_rfl) rfl ?_
  go_wp2_with fail
  refine (MYZ.out _ (ext_trans G8 m2E)).mono ?_
  rintro e m3w ⟨y2, rfl, v2, m3b⟩
  go_wp2_with fail
  refine QE_intro m3b ?_
  have m3E := ext_trans m2E m3b
  refine wpE_one 11 (by kernel_rfl) rfl ?_
  go_wp2_with fail
  refine (MX3.out _ _ v2 (ext_trans G8 m3E)).mono ?_
  rintro e m4w ⟨y3, rfl, v4, m4b⟩
  go_wp2_with fail
  refine QE_intro m4b ?_
  have m4E := ext_trans m3E m4b
  refine wpE_one 12 (by kernel_rfl) rfl ?_
  go_wp2_with fail
  refine (SQ.out _ _ _ (NA.out _ m4E) v4).mono ?_
  rintro e m5w ⟨rfl, m5b⟩
  go_wp2_with fail
  refine QE_intro m5b ?_
  have m5E := ext_trans m4E m5b
  have hg0 := Gr.cell m5E f1
  have hg1 := Gr.cell m5E f2
  have hg2 := Gr.cell m5E f3
  have hg3 := Gr.cell m5E f4
  have hg4 := Gr.cell m5E f5
  refine wpE_seg' [13, 14] 12 rfl (by kernel_rfl) ?_
  iterate 2 (refine seg_cons rfl ?_; go_big_quiet_step (rfl))
  refine seg_nil ?_
  clear hg0 hg1 hg2 hg3 hg4
  refine wpE_one 15 (by kernel_rfl) rfl ?_
  go_wp2_with fail
  refine (O0.out _).mono ?_
  rintro e m6w ⟨y4, rfl, v5, m6b⟩
  go_wp2_with fail
  refine QE_intro m6b ?_
  have m6E := ext_trans m5E m6b
  refine wpE_one 16 (by kernel_rfl) rfl ?_
  go_wp2_with fail
  refine (O1.out _).mono ?_
  rintro e m7w ⟨y5, rfl, v6, m7b⟩
  go_wp2_with fail
  refine QE_intro m7b ?_
  have m7E := ext_trans m6E m7b
  refine wpE_one 17 (by kernel_rfl) rfl ?_
  go_wp2_with fail
  refine (S1.out _ _ _ (v5.mono m7b) v6).mono ?_
  rintro e m8w ⟨rfl, m8b⟩
  go_wp2_with fail
  refine QE_intro m8b ?_
  have m8E := ext_trans m7E m8b
  have hg0 := Gr.cell m8E f1
  have hg1 := Gr.cell m8E f2
  have hg2 := Gr.cell m8E f3
  have hg3 := Gr.cell m8E f4
  have hg4 := Gr.cell m8E f5
  refine wpE_seg' [18, 19, 20, 23] 5 rfl (by kernel_rfl) ?_
  iterate 4 (refine seg_cons rfl ?_; go_big_quiet_step (rfl))
  refine seg_nil ?_
  clear hg0 hg1 hg2 hg3 hg4
  refine wpE_one 21 (by kernel_rfl) rfl ?_
  go_wp2_with fail
  refine QE_intro (below_new _) ?_
  have m9E := ext_trans m8E (below_new (.cells #[.slice a n cap] 42))
  refine wpE_one 22 (by kernel_rfl) rfl ?_
  go_wp2_with fail
  refine (OX.out _ (ext_trans G8 m8E)).mono ?_
  rintro e m10w ⟨y6, rfl, v7, m10b⟩
  go_wp2_with fail
  refine QE_intro m10b ?_
  have m10E := ext_trans m9E m10b
  refine wpE_one 24 (by kernel_rfl) rfl ?_
  go_wp2_with fail
  refine (SX.out _ _ _ v7 (NX.out _ (ext_trans G8 m10E))).mono ?_
  rintro e m11w ⟨rfl, m11b⟩
  go_wp2_with fail
  refine QE_intro m11b ?_
  have m11E := ext_trans m10E m11b
  have hg0 := Gr.cell m11E f1
  have hg1 := Gr.cell m11E f2
  have hg2 := Gr.cell m11E f3
  have hg3 := Gr.cell m11E f4
  have hg4 := Gr.cell m11E f5
  refine wpE_seg' [25, 26] 0 rfl (by kernel_rfl) ?_
  iterate 2 (refine seg_cons rfl ?_; go_big_quiet_step (rfl))
  refine seg_nil ?_
  clear hg0 hg1 hg2 hg3 hg4
  refine wpE_tail [] (by kernel_rfl) ?_
  refine tail_nil ?_
  go_wp2
  go_ret
  exact ⟨rfl, ext_trans E7 (ext_trans G8 m11E)⟩
end Go.Proofs.Ytcabmibcgedhhaa

/-
  The walk of the law NatSmall.
-/
import Derived.Test.YtcabmibcgedhhaaLawNatCompares
namespace Go.Proofs.Ytcabmibcgedhhaa
open Go.RowKit Go.Cd

set_option maxRecDepth 100000 in
set_option maxHeartbeats 1600000 in
theorem natSmall_ok (x y : Nat) (hx : x < 18446744073709551616) (hy : y < 18446744073709551616) (w : World) :
    Calls Try.prog 11 #[.int .u64 x, .int .u64 y] w fun e w' => e = .returned (.bool true) ∧ Below w.heap.size w w' := by
  have l1 : (digs B x).length ≤ 2 := lenB_le (by unfold B; omega)
  have l2 : (digs B y).length ≤ 2 := lenB_le (by unfold B; omega)
  have l3 : (digs B (x + y)).length ≤ 3 := lenB_le (by unfold B; omega)
  have l4 : (digs 10 x).length ≤ 20 := (len_digs_le (by omega)).2 (by omega)
  have hmore : ∀ k, x / 2 ^ k ≠ 0 → k < (digs 2 x).length := fun k h => len_pos_of_div (by omega) h
  have hend : ∀ k, x / 2 ^ k = 0 → (digs 2 x).length ≤ k := fun k h => by
    rw [len_digs_le (by omega)]
    rcases Nat.lt_or_ge x (2 ^ k) with h1 | h1
    · exact h1
    · have : 1 ≤ x / 2 ^ k := (Nat.le_div_iff_mul_le (Nat.pow_pos (by omega))).2 (by omega)
      omega
  have hD : (digs 2 x).length ≤ 64 := (len_digs_le (by omega)).2 (by omega)
  have HMore := Lib.hid hmore
  have HEnd := Lib.hid hend
  clear hmore hend
  go_enter Try.func11, Try.ntmps11
  go_wp2_with fail
  refine (awake01_ok _).mono ?_
  rintro e w1 ⟨rfl, h1⟩
  go_wp2_with fail
  refine (of_ok x hx _).mono ?_
  rintro e w2 ⟨r2, rfl, n2, h2⟩
  go_wp2_with fail
  refine (of_ok y hy _).mono ?_
  rintro e w3 ⟨r3, rfl, n3, h3⟩
  have N2 := n2.mono h3
  have EW := ext_trans h1 (ext_trans h2 h3)
  obtain ⟨a, n, cap, rfl, N2⟩ := N2.out
  obtain ⟨a2, q2, cap2, rfl, N3⟩ := n3.out
  have hb := below2 (w := w3) (.cells #[.slice a n cap] 42) (.cells #[.slice a2 q2 cap2] 42)
  have hc := ext_trans EW hb
  have M2 := N2.mono hb
  have M3 := N3.mono hb
  have c1 : ((w3.alloc (.cells #[.slice a n cap] 42)).alloc (.cells #[.slice a2 q2 cap2] 42)).cell? ⟨w3.heap.size, 0, none⟩ = some (.slice a n cap) := by go_simp
  have c2 : ((w3.alloc (.cells #[.slice a n cap] 42)).alloc (.cells #[.slice a2 q2 cap2] 42)).cell? ⟨w3.heap.size + 1, 0, none⟩ = some (.slice a2 q2 cap2) := by go_simp
  have hz : ((x : Int) == 0) = (x == 0) := by rw [Bool.eq_iff_iff]; simp
  have hzz : ((x == 0) != (x == 0)) = false := by simp
  have T0 := ext_refl ((w3.alloc (.cells #[.slice a n cap] 42)).alloc (.cells #[.slice a2 q2 cap2] 42))
  have z1 := fun (W : World) (E : Below _ _ W) => zero_ok (M2.mono E)
  have i1 := fun (W : World) (E : Below _ _ W) (u : Value) (g : DecV W u x) => is_ok (M2.mono E) g (by omega) (by omega)
  rw [show decide (x = x) = true from decide_eq_true rfl] at i1
  have u1 := fun (W : World) (E : Below _ _ W) => uint64_ok (M2.mono E) hx
  have a1 := fun (W : World) (E : Below _ _ W) => add_ok (M2.mono E) (M3.mono E) (by omega) (by omega)
  have k1 := fun (W : World) (E : Below _ _ W) => bits_ok (M2.mono E) (by omega)
  have m1 := fun (W : World) (E : Below _ _ W) => same_ok (M2.mono E) (M3.mono E) (by omega)
  have v1 : ∀ (W : World) (v : Value), NatV W v (x + y) → ∃ (sv : Nat) (fit : Bool), ((fit = true ∧ sv = x + y ∧ x + y < 18446744073709551616) ∨ (fit = false ∧ sv = 0 ∧ 18446744073709551616 ≤ x + y)) ∧
      Calls Try.prog 47 #[v] W fun e w' => e = .returned (.tuple #[.int .u64 sv, .bool fit]) ∧ Below W.heap.size W w' := fun W v h => by
    rcases Nat.lt_or_ge (x + y) 18446744073709551616 with h1 | h1
    · exact ⟨_, _, .inl ⟨rfl, rfl, h1⟩, uint64_ok h h1⟩
    · exact ⟨0, false, .inr ⟨rfl, rfl, h1⟩, uint64_big h (by omega) h1⟩
  have heq : decide (x = y) = ((x : Int) == y) := by rw [Bool.eq_iff_iff]; simp; omega
  rw [heq] at m1
  generalize (digs 2 x).length = D at *
  generalize (x == 0) = z at *
  have Z1 := Lib.hid z1
  have I1 := Lib.hid i1
  have U1 := Lib.hid u1
  have A1 := Lib.hid a1
  have K1 := Lib.hid k1
  have S1 := Lib.hid m1
  have V1 := Lib.hid v1
  clear h1 h2 h3 n2 n3 N2 N3 z1 i1 u1 a1 k1 m1 v1 M2 M3 hb heq EW
  go_wp2_with fail
  refine wp_region_E (Array.replicate 12 true) 12 0 mixed (by rfl) ?_
  have kE0 := ext_trans T0 (ext_drew _)
  have hg0 := Gr.cell kE0 c1
  have hg1 := Gr.cell kE0 c2
  refine wpE_seg' [0, 1] 10 rfl (by kernel_rfl) ?_
  iterate 2 (refine seg_cons rfl ?_; go_big_quiet_step (rfl))
  refine seg_nil ?_
  clear hg0 hg1
  refine wpE_one 2 (by kernel_rfl) rfl ?_
  go_wp2_with fail
  refine (num_ok x hx _).mono ?_
  rintro e k1w ⟨s1, rfl, p1, k1b⟩
  go_wp2_with fail
  refine QE_intro k1b ?_
  have k1E := ext_trans kE0 k1b
  refine wpE_one 3 (by kernel_rfl) rfl ?_
  go_wp2_with fail
  refine (I1.out _ k1E _ p1).mono ?_
  rintro e k2w ⟨rfl, k2b⟩
  go_wp2_with fail
  refine QE_intro k2b ?_
  have k2E := ext_trans k1E k2b
  have hg0 := Gr.cell k2E c1
  have hg1 := Gr.cell k2E c2
  refine wpE_seg' [4, 5, 6, 8, 9] 3 rfl (by kernel_rfl) ?_
  iterate 5 (refine seg_cons rfl ?_; go_big_quiet_step (rfl))
  refine seg_nil ?_
  clear hg0 hg1
  refine wpE_one 7 (by kernel_rfl) rfl ?_
  go_wp2_with fail
  refine (Z1.out _ k2E).mono ?_
  rintro e k3w ⟨rfl, k3b⟩
  go_wp2_with fail
  refine QE_intro k3b ?_
  have k3E := ext_trans k2E k3b
  have hg0 := Gr.cell k3E c1
  have hg1 := Gr.cell k3E c2
  refine wpE_seg' [10, 11] 0 rfl (by kernel_rfl) ?_
  iterate 2 (refine seg_cons rfl ?_; go_big_quiet_step (rfl))
  refine seg_nil ?_
  clear hg0 hg1
  refine wpE_tail [] (by kernel_rfl) ?_
  refine tail_nil ?_
  have d1 := cellE k3E c1
  have d2 := cellE k3E c2
  go_wp2_with fail
  refine (U1.out _ k3E).mono ?_
  rintro e x1 ⟨rfl, b1⟩
  have X1 := ext_trans k3E b1
  have d1 := cellE X1 c1
  have d2 := cellE X1 c2
  go_wp2_with fail
  refine (A1.out _ X1).mono ?_
  rintro e x2 ⟨s2, rfl, p2, b2⟩
  obtain ⟨sv, fit, hfit, hcall⟩ := V1.out _ _ p2
  have X2 := ext_trans X1 b2
  go_wp2_with fail
  refine hcall.mono ?_
  rintro e x3 ⟨rfl, b3⟩
  have X3 := ext_trans X2 b3
  have d1 := cellE X3 c1
  have d2 := cellE X3 c2
  clear b1 b2 b3 X1 X2 p2 hcall V1 U1 A1 Z1 I1
  go_wp2_with fail
  go_loopw [11, 12] (fun n k wr => ∃ j : Nat, j ≤ D ∧ n = .int .i64 j ∧ k = .int .u64 (x / 2 ^ j : Nat) ∧ wr = x3)
    (fun _ k _ => (intOf k).toNat)
  case atStart => exact ⟨0, Nat.zero_le _, rfl, by simp, rfl⟩
  case round =>
    obtain ⟨j, hj, rfl, rfl, rfl⟩ := hrel
    have hle : x / 2 ^ j ≤ x := Nat.div_le_self _ _
    have hmo := HMore.out j
    have hen := HEnd.out j
    have hq1 : x / 2 ^ (j + 1) = x / 2 ^ j / 2 := by rw [Nat.pow_succ, Nat.div_div_eq_div_mul]
    have HQ1 := Lib.hid hq1
    clear hq1
    generalize x / 2 ^ j = q at *
    by_cases hq : 0 < q
    · have hkk := hmo (by omega)
      clear hmo hen
      go_wp2
      go_roundw
      case rel =>
        have e1 : (q : Int) / 2 = (x / 2 ^ (j + 1) : Nat) := by have := HQ1.out; omega
        rw [e1]
        exact ⟨j + 1, by omega, rfl, rfl, trivial⟩
      case measure => simp [intOf]; omega
    · have hkD := hen (by omega)
      obtain rfl : j = D := by omega
      clear hmo hen hle HQ1 hj
      rcases hfit with ⟨rfl, rfl, hf⟩ | ⟨rfl, rfl, hf⟩
      · have q3 : decide ((x : Int) ≤ 18446744073709551615 - y) = true := decide_eq_true (by omega)
        go_wp2_with fail
        refine (K1.out _ X3).mono ?_
        rintro e x4 ⟨rfl, b4⟩
        have X4 := ext_trans X3 b4
        have d1 := cellE X4 c1
        have d2 := cellE X4 c2
        go_wp2_with fail
        refine (S1.out _ X4).mono ?_
        rintro e x5 ⟨rfl, b5⟩
        go_wp2_with fail
        go_ret
        exact ⟨rfl, ext_trans hc (ext_trans X4 b5)⟩
      · have q3 : decide ((x : Int) ≤ 18446744073709551615 - y) = false := decide_eq_false (by omega)
        go_wp2_with fail
        refine (K1.out _ X3).mono ?_
        rintro e x4 ⟨rfl, b4⟩
        have X4 := ext_trans X3 b4
        have d1 := cellE X4 c1
        have d2 := cellE X4 c2
        go_wp2_with fail
        refine (S1.out _ X4).mono ?_
        rintro e x5 ⟨rfl, b5⟩
        go_wp2_with fail
        go_ret
        exact ⟨rfl, ext_trans hc (ext_trans X4 b5)⟩
end Go.Proofs.Ytcabmibcgedhhaa

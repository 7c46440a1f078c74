/-
  The walk of the law ProdPowers.
-/
import Derived.Test.YtcabmibcgedhhaaProd6
namespace Go.Proofs.Ytcabmibcgedhhaa
open Go.RowKit Go.Cd

theorem SlA.cut {w : World} {a : Option Addr} {n cap k : Nat} {l : List Nat} (h : SlA w (.slice a n cap) (u32s l)) (hk : k ≤ l.length) : SlA w (.slice a k cap) (u32s (l.take k)) := by
  obtain ⟨a', cap', hv, hc, hr⟩ := h
  simp only [Value.slice.injEq] at hv
  obtain ⟨rfl, _, rfl⟩ := hv
  rw [length_u32s] at hc
  have hlen : (u32s (l.take k)).length = k := by simp; omega
  refine ⟨a, cap, by rw [hlen], by rw [hlen]; omega, ?_⟩
  rcases hr with ⟨hr, h0⟩ | ⟨b, off, cs, e, fr, ha, hh, hx⟩
  · exact .inl ⟨by have : l = [] := (by simpa [u32s] using hr); subst this; simp [u32s], h0⟩
  · refine .inr ⟨b, off, cs, e, fr, ha, hh, fun i hi => ?_⟩
    rw [hlen] at hi
    rw [hx i (by simp; omega)]
    simp [u32s]

set_option maxRecDepth 100000 in
set_option maxHeartbeats 1600000 in
theorem prodPowers_ok {w : World} {v : Value} {l : List Nat} (h : SlA w v (u32s l)) (hl : ∀ d ∈ l, d < B) {q : Int} (hq : q ≤ 9223372036854775807) :
    Calls Try.prog 13 #[v, .int .i64 q] w fun e w' => e = .returned (.bool true) ∧ Below w.heap.size w w' := by
  obtain ⟨a0, cap0, rfl, hcap, _⟩ := id h
  rw [length_u32s] at *
  have hl3 : ∀ d ∈ l.take 3, d < B := fun d hd => hl d (List.mem_of_mem_take hd)
  have e40 : (l.take 3).take 40 = l.take 3 := List.take_of_length_le (by simp; omega)
  have lx : (digs B (val B (l.take 3))).length ≤ 3 := by have := val_len_lt two_le_B hl3; simp at this; omega
  have len3 : (l.take 3).length ≤ 3 := by simp; omega
  by_cases h3 : 3 < l.length
  · have HS : SlA w (.slice a0 3 cap0) (u32s (l.take 3)) := SlA.cut h (by omega)
    go_enter Try.func13, Try.ntmps13
    go_wp2_with fail
    refine (awake02_ok _).mono ?_
    rintro e w1 ⟨rfl, h1⟩
    go_wp2_with fail
    refine (few_ok (HS.mono h1)).mono ?_
    rintro e w2 ⟨r2, rfl, o2, h2⟩
    rw [e40] at o2
    go_wp2_with fail
    refine (limbs_ok (Sl.of_own o2) hl3 (by omega)).mono ?_
    rintro e w3 ⟨r3, rfl, x3, h3'⟩
    have E3 := ext_trans h1 (ext_trans h2 h3')
    clear o2 h1 h2 h3' HS h e40 hl3 len3 hl
    generalize val B (l.take 3) = X at *
    obtain ⟨a, n, cap, rfl, x3⟩ := x3.out
    have E0 := ext_trans E3 (below_new (.cells #[.slice a n cap] 42))
    have c1 : (w3.alloc (.cells #[.slice a n cap] 42)).cell? ⟨w3.heap.size, 0, none⟩ = some (.slice a n cap) := by go_simp
    have NX := Lib.hid (fun (W : World) (E : Below (w3.alloc (.cells #[.slice a n cap] 42)).heap.size (w3.alloc (.cells #[.slice a n cap] 42)) W) => x3.mono (ext_trans (below_new (.cells #[.slice a n cap] 42)) E))
    have BT := Lib.hid (fun (W : World) (E : Below (w3.alloc (.cells #[.slice a n cap] 42)).heap.size (w3.alloc (.cells #[.slice a n cap] 42)) W) => bits_ok (NX.out _ E) (by omega))
    have T0 := ext_refl (w3.alloc (.cells #[.slice a n cap] 42))
    clear x3 E3
    by_cases hq0 : q < 0
    · have PN := Lib.hid (pow_neg (NX.out _ T0) hq0)
      go_wp2_with fail
      refine PN.out.mono ?_
      rintro e w4 ⟨r4, rfl, n4, h4⟩
      obtain ⟨a2, n2, cap2, rfl, n4⟩ := n4.out
      have hz : ((0 : Nat) == 0) = true := rfl
      have ZN := Lib.hid (zero_ok (n4.mono (below_new (.cells #[.slice a2 n2 cap2] 42))))
      clear n4
      go_wp2_with fail
      refine ZN.out.mono ?_
      rintro e w5 ⟨rfl, h5⟩
      go_wp2
      go_ret
      exact ⟨rfl, ext_trans E0 (ext_trans h4 (ext_trans (below_new (.cells #[.slice a2 n2 cap2] 42)) h5))⟩
    · obtain ⟨m, rfl⟩ : ∃ m : Nat, q = m := ⟨q.toNat, by omega⟩
      by_cases hbig : 0 < (digs 2 X).length ∧ 131072 / (digs 2 X).length < m
      · obtain ⟨hD0, hDm⟩ := hbig
        have PB := Lib.hid (pow_big (NX.out _ T0) (by omega) hD0 hDm)
        have hD : (131072 : Int) / ((digs 2 X).length : Int) < m := by have := Int.ofNat_lt.2 hDm; rw [Int.natCast_ediv] at this; exact this
        generalize (digs 2 X).length = D at *
        clear hDm
        go_wp2_with fail
        refine PB.out.mono ?_
        rintro e w4 ⟨r4, rfl, n4, h4⟩
        obtain ⟨a2, n2, cap2, rfl, n4⟩ := n4.out
        have hz : ((0 : Nat) == 0) = true := rfl
        have E4 := ext_trans h4 (below_new (.cells #[.slice a2 n2 cap2] 42))
        have d1 := cellE E4 c1
        have d2 : (w4.alloc (.cells #[.slice a2 n2 cap2] 42)).cell? ⟨w4.heap.size, 0, none⟩ = some (.slice a2 n2 cap2) := by go_simp
        have ZN := Lib.hid (fun (W : World) (E : Below (w4.alloc (.cells #[.slice a2 n2 cap2] 42)).heap.size (w4.alloc (.cells #[.slice a2 n2 cap2] 42)) W) => zero_ok (n4.mono (ext_trans (below_new (.cells #[.slice a2 n2 cap2] 42)) E)))
        clear n4 h4
        go_wp2_with fail
        refine (BT.out _ E4).mono ?_
        rintro e w5 ⟨rfl, h5⟩
        have d1 := cellE h5 d1
        go_wp2_with fail
        refine (BT.out _ (ext_trans E4 h5)).mono ?_
        rintro e w6 ⟨rfl, h6⟩
        have E6 := ext_trans h5 h6
        have d2 := cellE E6 d2
        go_wp2_with fail
        refine (ZN.out _ E6).mono ?_
        rintro e w7 ⟨rfl, h7⟩
        go_wp2
        go_ret
        exact ⟨rfl, ext_trans E0 (ext_trans E4 (ext_trans E6 h7))⟩
      · have hsm : (digs 2 X).length = 0 ∨ m ≤ 131072 / (digs 2 X).length := by omega
        have PO := Lib.hid (fun (W : World) (E : Below (w3.alloc (.cells #[.slice a n cap] 42)).heap.size (w3.alloc (.cells #[.slice a n cap] 42)) W) (j : Nat) (hj : j ≤ m) => pow_ok (m := j) (NX.out _ E) (by omega) (by omega) (by omega))
        have HSM := Lib.hid hsm
        have hlen : ∀ j, j ≤ m → (digs B (X ^ j)).length < 268435456 := fun j hj => by
          rcases hsm with h0 | h0
          · have hx0 : X = 0 := (digs_eq_nil (by omega)).1 (List.length_eq_zero_iff.1 h0)
            have := len_pow_le (x := X) (D := 0) (by rw [hx0]; decide) j
            omega
          · have hxD := (len_digs_le (b := 2) (by omega) (x := X)).1 (Nat.le_refl _)
            have h1 := len_pow_le hxD j
            have h2 : (digs 2 X).length * j ≤ (digs 2 X).length * (131072 / (digs 2 X).length) := Nat.mul_le_mul_left _ (Nat.le_trans hj h0)
            have h3 := Nat.mul_div_le 131072 (digs 2 X).length
            omega
        have HLEN := Lib.hid hlen
        clear hlen hbig
        go_wp2_with fail
        refine (PO.out _ T0 m (Nat.le_refl _)).mono ?_
        rintro e w4 ⟨r4, rfl, n4, h4⟩
        obtain ⟨a2, n2, cap2, rfl, n4⟩ := n4.out
        have E4 := ext_trans h4 (below_new (.cells #[.slice a2 n2 cap2] 42))
        have d1 := cellE E4 c1
        have d2 : (w4.alloc (.cells #[.slice a2 n2 cap2] 42)).cell? ⟨w4.heap.size, 0, none⟩ = some (.slice a2 n2 cap2) := by go_simp
        have NP := Lib.hid (fun (W : World) (E : Below (w4.alloc (.cells #[.slice a2 n2 cap2] 42)).heap.size (w4.alloc (.cells #[.slice a2 n2 cap2] 42)) W) => n4.mono (ext_trans (below_new (.cells #[.slice a2 n2 cap2] 42)) E))
        clear n4 h4
        go_wp2_with fail
        refine (BT.out _ E4).mono ?_
        rintro e w5 ⟨rfl, h5⟩
        have e1 := cellE h5 d1
        rcases Nat.eq_zero_or_pos (digs 2 X).length with hz0 | hpos
        · rw [hz0] at BT
          rw [hz0]
          go_wp2_with fail
          refine (BT.out _ (ext_trans E4 h5)).mono ?_
          rintro e w6 ⟨rfl, h6⟩
          have E6 := ext_trans h5 h6
          have f2 := cellE E6 d2
          have T1 := ext_refl w6
          have hX0 : X = 0 := (digs_eq_nil (by omega)).1 (List.length_eq_zero_iff.1 hz0)
          have O1 := Lib.hid (of_ok 1 (by omega))
          have l1 : (digs B 1).length ≤ 1 := lenB_le (by decide)
          have S1 := Lib.hid (fun (W : World) (v u : Value) (h : NatV W v 1) (g : NatV W u 1) => same_ok h g (by omega))
          subst hX0
          by_cases hm0 : m = 0
          · subst hm0
            rw [Nat.pow_zero] at NP
            have ZP := Lib.hid (fun (W : World) (E : Below w6.heap.size w6 W) => zero_ok (NP.out _ (ext_trans E6 E)))
            have hz : ((1 : Nat) == 0) = false := rfl
            go_wp2_with fail
            refine wp_region_E (Array.replicate 15 true) 15 0 mixed (by rfl) ?_
            have pE0 := ext_trans T1 (ext_drew _)
            have hg0 := Gr.cell pE0 f2
            refine wpE_seg' [0, 2, 3] 12 rfl (by kernel_rfl) ?_
            iterate 3 (refine seg_cons rfl ?_; go_big_quiet_step (rfl))
            refine seg_nil ?_
            clear hg0
            refine wpE_one 1 (by kernel_rfl) rfl ?_
            go_wp2_with fail
            refine (ZP.out _ pE0).mono ?_
            rintro e p1w ⟨rfl, p1b⟩
            go_wp2_with fail
            refine QE_intro p1b ?_
            have p1E := ext_trans pE0 p1b
            have hg0 := Gr.cell p1E f2
            refine wpE_seg' [4, 5, 6, 7, 8, 9] 5 rfl (by kernel_rfl) ?_
            iterate 6 (refine seg_cons rfl ?_; go_big_quiet_step (rfl))
            refine seg_nil ?_
            clear hg0
            refine wpE_one 10 (by kernel_rfl) rfl ?_
            go_wp2_with fail
            refine (O1.out _).mono ?_
            rintro e p2w ⟨s1, rfl, p1, p2b⟩
            go_wp2_with fail
            refine QE_intro p2b ?_
            have p2E := ext_trans p1E p2b
            refine wpE_one 11 (by kernel_rfl) rfl ?_
            go_wp2_with fail
            refine (S1.out _ _ _ (NP.out _ (ext_trans E6 p2E)) p1).mono ?_
            rintro e p3w ⟨rfl, p3b⟩
            go_wp2_with fail
            refine QE_intro p3b ?_
            have p3E := ext_trans p2E p3b
            have hg0 := Gr.cell p3E f2
            refine wpE_seg' [12, 13, 14] 0 rfl (by kernel_rfl) ?_
            iterate 3 (refine seg_cons rfl ?_; go_big_quiet_step (rfl))
            refine seg_nil ?_
            clear hg0
            refine wpE_tail [] (by kernel_rfl) ?_
            refine tail_nil ?_
            go_wp2
            go_ret
            exact ⟨rfl, ext_trans E0 (ext_trans E4 (ext_trans E6 p3E))⟩
          · rw [Nat.zero_pow (by omega)] at NP
            have ZP := Lib.hid (fun (W : World) (E : Below w6.heap.size w6 W) => zero_ok (NP.out _ (ext_trans E6 E)))
            have hz : ((0 : Nat) == 0) = true := rfl
            have hmp : 0 < (m : Int) := by omega
            have hmd : decide (0 < (m : Int)) = true := decide_eq_true hmp
            have hmd2 : decide (0 < m) = true := decide_eq_true (by omega)
            go_wp2_with fail
            refine wp_region_E (Array.replicate 15 true) 15 0 mixed (by rfl) ?_
            have pE0 := ext_trans T1 (ext_drew _)
            have hg0 := Gr.cell pE0 f2
            refine wpE_seg' [0, 2, 3] 12 rfl (by kernel_rfl) ?_
            iterate 3 (refine seg_cons rfl ?_; go_big_quiet_step (rfl))
            refine seg_nil ?_
            clear hg0
            refine wpE_one 1 (by kernel_rfl) rfl ?_
            go_wp2_with fail
            refine (ZP.out _ pE0).mono ?_
            rintro e p1w ⟨rfl, p1b⟩
            go_wp2_with fail
            refine QE_intro p1b ?_
            have p1E := ext_trans pE0 p1b
            have hg0 := Gr.cell p1E f2
            refine wpE_seg' [4, 5, 6, 7, 8, 9] 5 rfl (by kernel_rfl) ?_
            iterate 6 (refine seg_cons rfl ?_; go_big_quiet_step (rfl))
            refine seg_nil ?_
            clear hg0
            refine wpE_one 10 (by kernel_rfl) rfl ?_
            go_wp2_with fail
            refine QE_intro (Below.refl _ _) ?_
            refine wpE_one 11 (by kernel_rfl) rfl ?_
            go_wp2_with fail
            refine QE_intro (Below.refl _ _) ?_
            have hg0 := Gr.cell p1E f2
            refine wpE_seg' [12, 13, 14] 0 rfl (by kernel_rfl) ?_
            iterate 3 (refine seg_cons rfl ?_; go_big_quiet_step (rfl))
            refine seg_nil ?_
            clear hg0
            refine wpE_tail [] (by kernel_rfl) ?_
            refine tail_nil ?_
            go_wp2
            go_ret
            exact ⟨rfl, ext_trans E0 (ext_trans E4 (ext_trans E6 p1E))⟩
        · have hD : ¬ (131072 : Int) / ((digs 2 X).length : Int) < m := by
            rcases HSM.out with h0 | h0
            · omega
            · have := Int.ofNat_le.2 h0; rw [Int.natCast_ediv] at this; exact Int.not_lt.2 this
          have hDd : decide ((131072 : Int) / ((digs 2 X).length : Int) < m) = false := decide_eq_false hD
          have hDz : (((digs 2 X).length : Int) == 0) = false := beq_eq_false_iff_ne.2 (by omega)
          generalize (digs 2 X).length = D at *
          go_wp2_with fail
          refine (BT.out _ (ext_trans E4 h5)).mono ?_
          rintro e w6 ⟨rfl, h6⟩
          have g1 := cellE (ext_trans h5 h6) d1
          go_wp2_with fail
          refine (BT.out _ (ext_trans E4 (ext_trans h5 h6))).mono ?_
          rintro e w7 ⟨rfl, h7⟩
          have E7 := ext_trans h5 (ext_trans h6 h7)
          clear g1 e1 h5 h6 h7
          have g1 := cellE E7 d1
          have g2 := cellE E7 d2
          have SM := Lib.hid (fun (W : World) (v u : Value) (h : NatV W v (X ^ m)) (g : NatV W u (X ^ m)) => same_ok h g (by have := HLEN.out m (Nat.le_refl _); omega))
          rw [show decide (X ^ m = X ^ m) = true from decide_eq_true rfl] at SM
          by_cases h40 : 40 < m
          · obtain ⟨j, hj, hj2⟩ : ∃ j : Nat, (m : Int) / 2 = (j : Int) ∧ j = m / 2 := ⟨m / 2, by omega, rfl⟩
            obtain ⟨k, hk, hk2⟩ : ∃ k : Nat, (m : Int) - (j : Int) = (k : Int) ∧ k + j = m := ⟨m - j, by omega, by omega⟩
            have hpw : X ^ k * X ^ j = X ^ m := by rw [← Nat.pow_add, hk2]
            have MM := Lib.hid (fun (W : World) (v u : Value) (h : NatV W v (X ^ k)) (g : NatV W u (X ^ j)) => mul_ok h g (by have := HLEN.out k (by omega); omega) (by have := HLEN.out j (by omega); omega))
            rw [hpw] at MM
            have hk3 : k ≤ m := by omega
            have hj3 : j ≤ m := by omega
            clear hpw hk2 hj2
            go_wp2_with fail
            refine (PO.out _ (ext_trans E4 E7) k hk3).mono ?_
            rintro e w8 ⟨r8, rfl, n8, h8⟩
            obtain ⟨a8, n8', cap8, rfl, n8⟩ := n8.out
            have E8 := ext_trans E7 (ext_trans h8 (below_new (.cells #[.slice a8 n8' cap8] 42)))
            have i1 := cellE E8 d1
            go_wp2_with fail
            refine (PO.out _ (ext_trans E4 E8) j hj3).mono ?_
            rintro e w9 ⟨r9, rfl, n9, h9⟩
            obtain ⟨a9, n9', cap9, rfl, n9⟩ := n9.out
            have b99 := ext_trans h9 (below_new (.cells #[.slice a9 n9' cap9] 42))
            have E9 := ext_trans E8 b99
            have f1 : (w9.alloc (.cells #[.slice a9 n9' cap9] 42)).cell? ⟨w8.heap.size, 0, none⟩ = some (.slice a8 n8' cap8) := cellE b99 (by go_simp)
            have f2 : (w9.alloc (.cells #[.slice a9 n9' cap9] 42)).cell? ⟨w9.heap.size, 0, none⟩ = some (.slice a9 n9' cap9) := by go_simp
            have f3 := cellE E9 d2
            have N8 := Lib.hid (fun (W : World) (E : Below (w9.alloc (.cells #[.slice a9 n9' cap9] 42)).heap.size (w9.alloc (.cells #[.slice a9 n9' cap9] 42)) W) => n8.mono (ext_trans (ext_trans (below_new (.cells #[.slice a8 n8' cap8] 42)) b99) E))
            have N9 := Lib.hid (fun (W : World) (E : Below (w9.alloc (.cells #[.slice a9 n9' cap9] 42)).heap.size (w9.alloc (.cells #[.slice a9 n9' cap9] 42)) W) => n9.mono (ext_trans (below_new (.cells #[.slice a9 n9' cap9] 42)) E))
            have T9 := ext_refl (w9.alloc (.cells #[.slice a9 n9' cap9] 42))
            clear n8 n9 h8 h9 b99 i1
            go_wp2_with fail
            refine wp_region_E (Array.replicate 14 true) 14 0 mixed (by rfl) ?_
            have sE0 := ext_trans T9 (ext_drew _)
            have hg0 := Gr.cell sE0 f1
            have hg1 := Gr.cell sE0 f2
            have hg2 := Gr.cell sE0 f3
            refine wpE_seg' [0, 1, 2, 3, 4, 5, 6, 7, 8, 10] 4 rfl (by kernel_rfl) ?_
            iterate 10 (refine seg_cons rfl ?_; go_big_quiet_step (rfl))
            refine seg_nil ?_
            clear hg0 hg1 hg2
            refine wpE_one 9 (by kernel_rfl) rfl ?_
            go_wp2_with fail
            refine (MM.out _ _ _ (N8.out _ sE0) (N9.out _ sE0)).mono ?_
            rintro e s1w ⟨y1, rfl, v1, s1b⟩
            go_wp2_with fail
            refine QE_intro s1b ?_
            have s1E := ext_trans sE0 s1b
            refine wpE_one 11 (by kernel_rfl) rfl ?_
            go_wp2_with fail
            refine (SM.out _ _ _ v1 (NP.out _ (ext_trans E9 s1E))).mono ?_
            rintro e s2w ⟨rfl, s2b⟩
            go_wp2_with fail
            refine QE_intro s2b ?_
            have s2E := ext_trans s1E s2b
            have hg0 := Gr.cell s2E f1
            have hg1 := Gr.cell s2E f2
            have hg2 := Gr.cell s2E f3
            refine wpE_seg' [12, 13] 0 rfl (by kernel_rfl) ?_
            iterate 2 (refine seg_cons rfl ?_; go_big_quiet_step (rfl))
            refine seg_nil ?_
            clear hg0 hg1 hg2
            refine wpE_tail [] (by kernel_rfl) ?_
            refine tail_nil ?_
            go_wp2
            go_ret
            exact ⟨rfl, ext_trans E0 (ext_trans E4 (ext_trans E9 s2E))⟩
          · have hm40 : ¬ (40 : Int) < (m : Int) := by omega
            go_wp2_with fail
            refine (of_ok 1 (by omega) _).mono ?_
            rintro e w8 ⟨r8, rfl, n8, h8⟩
            obtain ⟨a8, n8', cap8, rfl, n8⟩ := n8.out
            have E78 := ext_trans E7 h8
            have z8 : (w8.alloc (.cells #[.slice a8 n8' cap8] 42)).heap[w8.heap.size]? = some (.cells #[.slice a8 n8' cap8] 42) := heap_alloc_new' _ _ _ rfl
            have n88 := n8.mono (below_new (.cells #[.slice a8 n8' cap8] 42))
            have b88 := below_new (w := w8) (.cells #[.slice a8 n8' cap8] 42)
            clear n8 h8
            go_wp2_with fail
            go_loopw [105] (fun i wr => ∃ (j : Nat) (a5 : Option Addr) (m5 cap5 : Nat), j ≤ m ∧ i = .int .i64 j ∧ wr.heap[w8.heap.size]? = some (.cells #[.slice a5 m5 cap5] 42) ∧ NatV wr (.agg #[.slice a5 m5 cap5]) (X ^ j) ∧ Below w8.heap.size w8 wr)
              (fun i _ => m - (intOf i).toNat)
            case atStart => exact ⟨0, a8, n8', cap8, Nat.zero_le _, rfl, z8, by rw [Nat.pow_zero]; exact n88, b88⟩
            case round =>
              clear z8 n88 b88
              obtain ⟨j, a5, m5, cap5, hj, rfl, z5, n5, b5⟩ := hrel
              have E5 := ext_trans E78 b5
              have i1 := cellE E5 d1
              have i2 := cellE E5 d2
              have hcell5 : wr.cell? ⟨w8.heap.size, 0, none⟩ = some (.slice a5 m5 cap5) := by unfold World.cell?; rw [z5]; rfl
              by_cases hjm : j < m
              · have hM := Lib.hid (mul_ok n5 (NX.out _ (ext_trans E4 E5)) (by have := HLEN.out j hj; omega) (by omega))
                clear n5
                go_wp2_with fail
                refine hM.out.mono ?_
                rintro e w9 ⟨r9, rfl, n9, b9⟩
                obtain ⟨a9, n9', cap9, rfl, n9⟩ := n9.out
                have z9 := (b9.block _ (block_lt z5)).trans z5
                have hcell9 : w9.cell? ⟨w8.heap.size, 0, none⟩ = some (.slice a5 m5 cap5) := by unfold World.cell?; rw [z9]; rfl
                have hfr9 : w9.frozen? ⟨w8.heap.size, 0, none⟩ = false := by unfold World.frozen?; rw [z9]; rfl
                obtain ⟨c9, n10⟩ := box_nat z9 (by decide) n9
                have z10 : (w9.setCell ⟨w8.heap.size, 0, none⟩ (.slice a9 n9' cap9)).heap[w8.heap.size]? = some (.cells #[.slice a9 n9' cap9] 42) := heap_setCell_same w9 w8.heap.size 0 _ _ _ z9
                have b10 : Below w8.heap.size w8 (w9.setCell ⟨w8.heap.size, 0, none⟩ (.slice a9 n9' cap9)) := below_put (b5.trans (b9.mono b5.size)) (Nat.le_refl _)
                clear z9 n9 b9
                go_wp2
                go_roundw
                case rel => exact ⟨j + 1, a9, n9', cap9, by omega, rfl, z10, by rw [Nat.pow_succ]; exact n10, b10⟩
                case measure => simp [intOf]; omega
              · obtain rfl : j = m := by omega
                have hS := Lib.hid (SM.out _ _ _ n5 (NP.out _ E5))
                clear n5
                go_wp2_with fail
                refine hS.out.mono ?_
                rintro e w9 ⟨rfl, b9⟩
                go_wp2
                go_ret
                exact ⟨rfl, ext_trans E0 (ext_trans E4 (ext_trans E5 b9))⟩
  · have HS : SlA w (.slice a0 l.length cap0) (u32s (l.take 3)) := by rw [List.take_of_length_le (by omega)]; exact h
    go_enter Try.func13, Try.ntmps13
    go_wp2_with fail
    refine (awake02_ok _).mono ?_
    rintro e w1 ⟨rfl, h1⟩
    go_wp2_with fail
    refine (few_ok (HS.mono h1)).mono ?_
    rintro e w2 ⟨r2, rfl, o2, h2⟩
    rw [e40] at o2
    go_wp2_with fail
    refine (limbs_ok (Sl.of_own o2) hl3 (by omega)).mono ?_
    rintro e w3 ⟨r3, rfl, x3, h3'⟩
    have E3 := ext_trans h1 (ext_trans h2 h3')
    clear o2 h1 h2 h3' HS h e40 hl3 len3 hl
    generalize val B (l.take 3) = X at *
    obtain ⟨a, n, cap, rfl, x3⟩ := x3.out
    have E0 := ext_trans E3 (below_new (.cells #[.slice a n cap] 42))
    have c1 : (w3.alloc (.cells #[.slice a n cap] 42)).cell? ⟨w3.heap.size, 0, none⟩ = some (.slice a n cap) := by go_simp
    have NX := Lib.hid (fun (W : World) (E : Below (w3.alloc (.cells #[.slice a n cap] 42)).heap.size (w3.alloc (.cells #[.slice a n cap] 42)) W) => x3.mono (ext_trans (below_new (.cells #[.slice a n cap] 42)) E))
    have BT := Lib.hid (fun (W : World) (E : Below (w3.alloc (.cells #[.slice a n cap] 42)).heap.size (w3.alloc (.cells #[.slice a n cap] 42)) W) => bits_ok (NX.out _ E) (by omega))
    have T0 := ext_refl (w3.alloc (.cells #[.slice a n cap] 42))
    clear x3 E3
    by_cases hq0 : q < 0
    · have PN := Lib.hid (pow_neg (NX.out _ T0) hq0)
      go_wp2_with fail
      refine PN.out.mono ?_
      rintro e w4 ⟨r4, rfl, n4, h4⟩
      obtain ⟨a2, n2, cap2, rfl, n4⟩ := n4.out
      have hz : ((0 : Nat) == 0) = true := rfl
      have ZN := Lib.hid (zero_ok (n4.mono (below_new (.cells #[.slice a2 n2 cap2] 42))))
      clear n4
      go_wp2_with fail
      refine ZN.out.mono ?_
      rintro e w5 ⟨rfl, h5⟩
      go_wp2
      go_ret
      exact ⟨rfl, ext_trans E0 (ext_trans h4 (ext_trans (below_new (.cells #[.slice a2 n2 cap2] 42)) h5))⟩
    · obtain ⟨m, rfl⟩ : ∃ m : Nat, q = m := ⟨q.toNat, by omega⟩
      by_cases hbig : 0 < (digs 2 X).length ∧ 131072 / (digs 2 X).length < m
      · obtain ⟨hD0, hDm⟩ := hbig
        have PB := Lib.hid (pow_big (NX.out _ T0) (by omega) hD0 hDm)
        have hD : (131072 : Int) / ((digs 2 X).length : Int) < m := by have := Int.ofNat_lt.2 hDm; rw [Int.natCast_ediv] at this; exact this
        generalize (digs 2 X).length = D at *
        clear hDm
        go_wp2_with fail
        refine PB.out.mono ?_
        rintro e w4 ⟨r4, rfl, n4, h4⟩
        obtain ⟨a2, n2, cap2, rfl, n4⟩ := n4.out
        have hz : ((0 : Nat) == 0) = true := rfl
        have E4 := ext_trans h4 (below_new (.cells #[.slice a2 n2 cap2] 42))
        have d1 := cellE E4 c1
        have d2 : (w4.alloc (.cells #[.slice a2 n2 cap2] 42)).cell? ⟨w4.heap.size, 0, none⟩ = some (.slice a2 n2 cap2) := by go_simp
        have ZN := Lib.hid (fun (W : World) (E : Below (w4.alloc (.cells #[.slice a2 n2 cap2] 42)).heap.size (w4.alloc (.cells #[.slice a2 n2 cap2] 42)) W) => zero_ok (n4.mono (ext_trans (below_new (.cells #[.slice a2 n2 cap2] 42)) E)))
        clear n4 h4
        go_wp2_with fail
        refine (BT.out _ E4).mono ?_
        rintro e w5 ⟨rfl, h5⟩
        have d1 := cellE h5 d1
        go_wp2_with fail
        refine (BT.out _ (ext_trans E4 h5)).mono ?_
        rintro e w6 ⟨rfl, h6⟩
        have E6 := ext_trans h5 h6
        have d2 := cellE E6 d2
        go_wp2_with fail
        refine (ZN.out _ E6).mono ?_
        rintro e w7 ⟨rfl, h7⟩
        go_wp2
        go_ret
        exact ⟨rfl, ext_trans E0 (ext_trans E4 (ext_trans E6 h7))⟩
      · have hsm : (digs 2 X).length = 0 ∨ m ≤ 131072 / (digs 2 X).length := by omega
        have PO := Lib.hid (fun (W : World) (E : Below (w3.alloc (.cells #[.slice a n cap] 42)).heap.size (w3.alloc (.cells #[.slice a n cap] 42)) W) (j : Nat) (hj : j ≤ m) => pow_ok (m := j) (NX.out _ E) (by omega) (by omega) (by omega))
        have HSM := Lib.hid hsm
        have hlen : ∀ j, j ≤ m → (digs B (X ^ j)).length < 268435456 := fun j hj => by
          rcases hsm with h0 | h0
          · have hx0 : X = 0 := (digs_eq_nil (by omega)).1 (List.length_eq_zero_iff.1 h0)
            have := len_pow_le (x := X) (D := 0) (by rw [hx0]; decide) j
            omega
          · have hxD := (len_digs_le (b := 2) (by omega) (x := X)).1 (Nat.le_refl _)
            have h1 := len_pow_le hxD j
            have h2 : (digs 2 X).length * j ≤ (digs 2 X).length * (131072 / (digs 2 X).length) := Nat.mul_le_mul_left _ (Nat.le_trans hj h0)
            have h3 := Nat.mul_div_le 131072 (digs 2 X).length
            omega
        have HLEN := Lib.hid hlen
        clear hlen hbig
        go_wp2_with fail
        refine (PO.out _ T0 m (Nat.le_refl _)).mono ?_
        rintro e w4 ⟨r4, rfl, n4, h4⟩
        obtain ⟨a2, n2, cap2, rfl, n4⟩ := n4.out
        have E4 := ext_trans h4 (below_new (.cells #[.slice a2 n2 cap2] 42))
        have d1 := cellE E4 c1
        have d2 : (w4.alloc (.cells #[.slice a2 n2 cap2] 42)).cell? ⟨w4.heap.size, 0, none⟩ = some (.slice a2 n2 cap2) := by go_simp
        have NP := Lib.hid (fun (W : World) (E : Below (w4.alloc (.cells #[.slice a2 n2 cap2] 42)).heap.size (w4.alloc (.cells #[.slice a2 n2 cap2] 42)) W) => n4.mono (ext_trans (below_new (.cells #[.slice a2 n2 cap2] 42)) E))
        clear n4 h4
        go_wp2_with fail
        refine (BT.out _ E4).mono ?_
        rintro e w5 ⟨rfl, h5⟩
        have e1 := cellE h5 d1
        rcases Nat.eq_zero_or_pos (digs 2 X).length with hz0 | hpos
        · rw [hz0] at BT
          rw [hz0]
          go_wp2_with fail
          refine (BT.out _ (ext_trans E4 h5)).mono ?_
          rintro e w6 ⟨rfl, h6⟩
          have E6 := ext_trans h5 h6
          have f2 := cellE E6 d2
          have T1 := ext_refl w6
          have hX0 : X = 0 := (digs_eq_nil (by omega)).1 (List.length_eq_zero_iff.1 hz0)
          have O1 := Lib.hid (of_ok 1 (by omega))
          have l1 : (digs B 1).length ≤ 1 := lenB_le (by decide)
          have S1 := Lib.hid (fun (W : World) (v u : Value) (h : NatV W v 1) (g : NatV W u 1) => same_ok h g (by omega))
          subst hX0
          by_cases hm0 : m = 0
          · subst hm0
            rw [Nat.pow_zero] at NP
            have ZP := Lib.hid (fun (W : World) (E : Below w6.heap.size w6 W) => zero_ok (NP.out _ (ext_trans E6 E)))
            have hz : ((1 : Nat) == 0) = false := rfl
            go_wp2_with fail
            refine wp_region_E (Array.replicate 15 true) 15 0 mixed (by rfl) ?_
            have pE0 := ext_trans T1 (ext_drew _)
            have hg0 := Gr.cell pE0 f2
            refine wpE_seg' [0, 2, 3] 12 rfl (by kernel_rfl) ?_
            iterate 3 (refine seg_cons rfl ?_; go_big_quiet_step (rfl))
            refine seg_nil ?_
            clear hg0
            refine wpE_one 1 (by kernel_rfl) rfl ?_
            go_wp2_with fail
            refine (ZP.out _ pE0).mono ?_
            rintro e p1w ⟨rfl, p1b⟩
            go_wp2_with fail
            refine QE_intro p1b ?_
            have p1E := ext_trans pE0 p1b
            have hg0 := Gr.cell p1E f2
            refine wpE_seg' [4, 5, 6, 7, 8, 9] 5 rfl (by kernel_rfl) ?_
            iterate 6 (refine seg_cons rfl ?_; go_big_quiet_step (rfl))
            refine seg_nil ?_
            clear hg0
            refine wpE_one 10 (by kernel_rfl) rfl ?_
            go_wp2_with fail
            refine (O1.out _).mono ?_
            rintro e p2w ⟨s1, rfl, p1, p2b⟩
            go_wp2_with fail
            refine QE_intro p2b ?_
            have p2E := ext_trans p1E p2b
            refine wpE_one 11 (by kernel_rfl) rfl ?_
            go_wp2_with fail
            refine (S1.out _ _ _ (NP.out _ (ext_trans E6 p2E)) p1).mono ?_
            rintro e p3w ⟨rfl, p3b⟩
            go_wp2_with fail
            refine QE_intro p3b ?_
            have p3E := ext_trans p2E p3b
            have hg0 := Gr.cell p3E f2
            refine wpE_seg' [12, 13, 14] 0 rfl (by kernel_rfl) ?_
            iterate 3 (refine seg_cons rfl ?_; go_big_quiet_step (rfl))
            refine seg_nil ?_
            clear hg0
            refine wpE_tail [] (by kernel_rfl) ?_
            refine tail_nil ?_
            go_wp2
            go_ret
            exact ⟨rfl, ext_trans E0 (ext_trans E4 (ext_trans E6 p3E))⟩
          · rw [Nat.zero_pow (by omega)] at NP
            have ZP := Lib.hid (fun (W : World) (E : Below w6.heap.size w6 W) => zero_ok (NP.out _ (ext_trans E6 E)))
            have hz : ((0 : Nat) == 0) = true := rfl
            have hmp : 0 < (m : Int) := by omega
            have hmd : decide (0 < (m : Int)) = true := decide_eq_true hmp
            have hmd2 : decide (0 < m) = true := decide_eq_true (by omega)
            go_wp2_with fail
            refine wp_region_E (Array.replicate 15 true) 15 0 mixed (by rfl) ?_
            have pE0 := ext_trans T1 (ext_drew _)
            have hg0 := Gr.cell pE0 f2
            refine wpE_seg' [0, 2, 3] 12 rfl (by kernel_rfl) ?_
            iterate 3 (refine seg_cons rfl ?_; go_big_quiet_step (rfl))
            refine seg_nil ?_
            clear hg0
            refine wpE_one 1 (by kernel_rfl) rfl ?_
            go_wp2_with fail
            refine (ZP.out _ pE0).mono ?_
            rintro e p1w ⟨rfl, p1b⟩
            go_wp2_with fail
            refine QE_intro p1b ?_
            have p1E := ext_trans pE0 p1b
            have hg0 := Gr.cell p1E f2
            refine wpE_seg' [4, 5, 6, 7, 8, 9] 5 rfl (by kernel_rfl) ?_
            iterate 6 (refine seg_cons rfl ?_; go_big_quiet_step (rfl))
            refine seg_nil ?_
            clear hg0
            refine wpE_one 10 (by kernel_rfl) rfl ?_
            go_wp2_with fail
            refine QE_intro (Below.refl _ _) ?_
            refine wpE_one 11 (by kernel_rfl) rfl ?_
            go_wp2_with fail
            refine QE_intro (Below.refl _ _) ?_
            have hg0 := Gr.cell p1E f2
            refine wpE_seg' [12, 13, 14] 0 rfl (by kernel_rfl) ?_
            iterate 3 (refine seg_cons rfl ?_; go_big_quiet_step (rfl))
            refine seg_nil ?_
            clear hg0
            refine wpE_tail [] (by kernel_rfl) ?_
            refine tail_nil ?_
            go_wp2
            go_ret
            exact ⟨rfl, ext_trans E0 (ext_trans E4 (ext_trans E6 p1E))⟩
        · have hD : ¬ (131072 : Int) / ((digs 2 X).length : Int) < m := by
            rcases HSM.out with h0 | h0
            · omega
            · have := Int.ofNat_le.2 h0; rw [Int.natCast_ediv] at this; exact Int.not_lt.2 this
          have hDd : decide ((131072 : Int) / ((digs 2 X).length : Int) < m) = false := decide_eq_false hD
          have hDz : (((digs 2 X).length : Int) == 0) = false := beq_eq_false_iff_ne.2 (by omega)
          generalize (digs 2 X).length = D at *
          go_wp2_with fail
          refine (BT.out _ (ext_trans E4 h5)).mono ?_
          rintro e w6 ⟨rfl, h6⟩
          have g1 := cellE (ext_trans h5 h6) d1
          go_wp2_with fail
          refine (BT.out _ (ext_trans E4 (ext_trans h5 h6))).mono ?_
          rintro e w7 ⟨rfl, h7⟩
          have E7 := ext_trans h5 (ext_trans h6 h7)
          clear g1 e1 h5 h6 h7
          have g1 := cellE E7 d1
          have g2 := cellE E7 d2
          have SM := Lib.hid (fun (W : World) (v u : Value) (h : NatV W v (X ^ m)) (g : NatV W u (X ^ m)) => same_ok h g (by have := HLEN.out m (Nat.le_refl _); omega))
          rw [show decide (X ^ m = X ^ m) = true from decide_eq_true rfl] at SM
          by_cases h40 : 40 < m
          · obtain ⟨j, hj, hj2⟩ : ∃ j : Nat, (m : Int) / 2 = (j : Int) ∧ j = m / 2 := ⟨m / 2, by omega, rfl⟩
            obtain ⟨k, hk, hk2⟩ : ∃ k : Nat, (m : Int) - (j : Int) = (k : Int) ∧ k + j = m := ⟨m - j, by omega, by omega⟩
            have hpw : X ^ k * X ^ j = X ^ m := by rw [← Nat.pow_add, hk2]
            have MM := Lib.hid (fun (W : World) (v u : Value) (h : NatV W v (X ^ k)) (g : NatV W u (X ^ j)) => mul_ok h g (by have := HLEN.out k (by omega); omega) (by have := HLEN.out j (by omega); omega))
            rw [hpw] at MM
            have hk3 : k ≤ m := by omega
            have hj3 : j ≤ m := by omega
            clear hpw hk2 hj2
            go_wp2_with fail
            refine (PO.out _ (ext_trans E4 E7) k hk3).mono ?_
            rintro e w8 ⟨r8, rfl, n8, h8⟩
            obtain ⟨a8, n8', cap8, rfl, n8⟩ := n8.out
            have E8 := ext_trans E7 (ext_trans h8 (below_new (.cells #[.slice a8 n8' cap8] 42)))
            have i1 := cellE E8 d1
            go_wp2_with fail
            refine (PO.out _ (ext_trans E4 E8) j hj3).mono ?_
            rintro e w9 ⟨r9, rfl, n9, h9⟩
            obtain ⟨a9, n9', cap9, rfl, n9⟩ := n9.out
            have b99 := ext_trans h9 (below_new (.cells #[.slice a9 n9' cap9] 42))
            have E9 := ext_trans E8 b99
            have f1 : (w9.alloc (.cells #[.slice a9 n9' cap9] 42)).cell? ⟨w8.heap.size, 0, none⟩ = some (.slice a8 n8' cap8) := cellE b99 (by go_simp)
            have f2 : (w9.alloc (.cells #[.slice a9 n9' cap9] 42)).cell? ⟨w9.heap.size, 0, none⟩ = some (.slice a9 n9' cap9) := by go_simp
            have f3 := cellE E9 d2
            have N8 := Lib.hid (fun (W : World) (E : Below (w9.alloc (.cells #[.slice a9 n9' cap9] 42)).heap.size (w9.alloc (.cells #[.slice a9 n9' cap9] 42)) W) => n8.mono (ext_trans (ext_trans (below_new (.cells #[.slice a8 n8' cap8] 42)) b99) E))
            have N9 := Lib.hid (fun (W : World) (E : Below (w9.alloc (.cells #[.slice a9 n9' cap9] 42)).heap.size (w9.alloc (.cells #[.slice a9 n9' cap9] 42)) W) => n9.mono (ext_trans (below_new (.cells #[.slice a9 n9' cap9] 42)) E))
            have T9 := ext_refl (w9.alloc (.cells #[.slice a9 n9' cap9] 42))
            clear n8 n9 h8 h9 b99 i1
            go_wp2_with fail
            refine wp_region_E (Array.replicate 14 true) 14 0 mixed (by rfl) ?_
            have sE0 := ext_trans T9 (ext_drew _)
            have hg0 := Gr.cell sE0 f1
            have hg1 := Gr.cell sE0 f2
            have hg2 := Gr.cell sE0 f3
            refine wpE_seg' [0, 1, 2, 3, 4, 5, 6, 7, 8, 10] 4 rfl (by kernel_rfl) ?_
            iterate 10 (refine seg_cons rfl ?_; go_big_quiet_step (rfl))
            refine seg_nil ?_
            clear hg0 hg1 hg2
            refine wpE_one 9 (by kernel_rfl) rfl ?_
            go_wp2_with fail
            refine (MM.out _ _ _ (N8.out _ sE0) (N9.out _ sE0)).mono ?_
            rintro e s1w ⟨y1, rfl, v1, s1b⟩
            go_wp2_with fail
            refine QE_intro s1b ?_
            have s1E := ext_trans sE0 s1b
            refine wpE_one 11 (by kernel_rfl) rfl ?_
            go_wp2_with fail
            refine (SM.out _ _ _ v1 (NP.out _ (ext_trans E9 s1E))).mono ?_
            rintro e s2w ⟨rfl, s2b⟩
            go_wp2_with fail
            refine QE_intro s2b ?_
            have s2E := ext_trans s1E s2b
            have hg0 := Gr.cell s2E f1
            have hg1 := Gr.cell s2E f2
            have hg2 := Gr.cell s2E f3
            refine wpE_seg' [12, 13] 0 rfl (by kernel_rfl) ?_
            iterate 2 (refine seg_cons rfl ?_; go_big_quiet_step (rfl))
            refine seg_nil ?_
            clear hg0 hg1 hg2
            refine wpE_tail [] (by kernel_rfl) ?_
            refine tail_nil ?_
            go_wp2
            go_ret
            exact ⟨rfl, ext_trans E0 (ext_trans E4 (ext_trans E9 s2E))⟩
          · have hm40 : ¬ (40 : Int) < (m : Int) := by omega
            go_wp2_with fail
            refine (of_ok 1 (by omega) _).mono ?_
            rintro e w8 ⟨r8, rfl, n8, h8⟩
            obtain ⟨a8, n8', cap8, rfl, n8⟩ := n8.out
            have E78 := ext_trans E7 h8
            have z8 : (w8.alloc (.cells #[.slice a8 n8' cap8] 42)).heap[w8.heap.size]? = some (.cells #[.slice a8 n8' cap8] 42) := heap_alloc_new' _ _ _ rfl
            have n88 := n8.mono (below_new (.cells #[.slice a8 n8' cap8] 42))
            have b88 := below_new (w := w8) (.cells #[.slice a8 n8' cap8] 42)
            clear n8 h8
            go_wp2_with fail
            go_loopw [105] (fun i wr => ∃ (j : Nat) (a5 : Option Addr) (m5 cap5 : Nat), j ≤ m ∧ i = .int .i64 j ∧ wr.heap[w8.heap.size]? = some (.cells #[.slice a5 m5 cap5] 42) ∧ NatV wr (.agg #[.slice a5 m5 cap5]) (X ^ j) ∧ Below w8.heap.size w8 wr)
              (fun i _ => m - (intOf i).toNat)
            case atStart => exact ⟨0, a8, n8', cap8, Nat.zero_le _, rfl, z8, by rw [Nat.pow_zero]; exact n88, b88⟩
            case round =>
              clear z8 n88 b88
              obtain ⟨j, a5, m5, cap5, hj, rfl, z5, n5, b5⟩ := hrel
              have E5 := ext_trans E78 b5
              have i1 := cellE E5 d1
              have i2 := cellE E5 d2
              have hcell5 : wr.cell? ⟨w8.heap.size, 0, none⟩ = some (.slice a5 m5 cap5) := by unfold World.cell?; rw [z5]; rfl
              by_cases hjm : j < m
              · have hM := Lib.hid (mul_ok n5 (NX.out _ (ext_trans E4 E5)) (by have := HLEN.out j hj; omega) (by omega))
                clear n5
                go_wp2_with fail
                refine hM.out.mono ?_
                rintro e w9 ⟨r9, rfl, n9, b9⟩
                obtain ⟨a9, n9', cap9, rfl, n9⟩ := n9.out
                have z9 := (b9.block _ (block_lt z5)).trans z5
                have hcell9 : w9.cell? ⟨w8.heap.size, 0, none⟩ = some (.slice a5 m5 cap5) := by unfold World.cell?; rw [z9]; rfl
                have hfr9 : w9.frozen? ⟨w8.heap.size, 0, none⟩ = false := by unfold World.frozen?; rw [z9]; rfl
                obtain ⟨c9, n10⟩ := box_nat z9 (by decide) n9
                have z10 : (w9.setCell ⟨w8.heap.size, 0, none⟩ (.slice a9 n9' cap9)).heap[w8.heap.size]? = some (.cells #[.slice a9 n9' cap9] 42) := heap_setCell_same w9 w8.heap.size 0 _ _ _ z9
                have b10 : Below w8.heap.size w8 (w9.setCell ⟨w8.heap.size, 0, none⟩ (.slice a9 n9' cap9)) := below_put (b5.trans (b9.mono b5.size)) (Nat.le_refl _)
                clear z9 n9 b9
                go_wp2
                go_roundw
                case rel => exact ⟨j + 1, a9, n9', cap9, by omega, rfl, z10, by rw [Nat.pow_succ]; exact n10, b10⟩
                case measure => simp [intOf]; omega
              · obtain rfl : j = m := by omega
                have hS := Lib.hid (SM.out _ _ _ n5 (NP.out _ E5))
                clear n5
                go_wp2_with fail
                refine hS.out.mono ?_
                rintro e w9 ⟨rfl, b9⟩
                go_wp2
                go_ret
                exact ⟨rfl, ext_trans E0 (ext_trans E4 (ext_trans E5 b9))⟩
end Go.Proofs.Ytcabmibcgedhhaa

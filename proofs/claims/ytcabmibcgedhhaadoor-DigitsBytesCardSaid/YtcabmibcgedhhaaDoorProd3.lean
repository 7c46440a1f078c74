/-
  The walk of prod.DivMod, its long division taken as it is told.
-/
import Derived.Test.YtcabmibcgedhhaaDoorProd2
import Derived.Test.YtcabmibcgedhhaaDoorLawNatCompares
namespace Go.Proofs.YtcabmibcgedhhaaDoor
open Go.RowKit Go.Cd

def LongOk (x y : Nat) : Prop := ∀ (W : World) (r1 r2 : Value), Sl eU32 W r1 (u32s (digs B x)) → Sl eU32 W r2 (u32s (digs B y)) →
  Calls Tryd.prog 46 #[r1, r2] W fun e w' => ∃ (q r : Value) (ql rl : List Nat), e = .returned (.tuple #[q, r]) ∧ Sl eU32 w' q (u32s ql) ∧ Sl eU32 w' r (u32s rl) ∧ (∀ d ∈ ql, d < B) ∧ (∀ d ∈ rl, d < B) ∧
    ql.length < 1099511627776 ∧ rl.length < 1099511627776 ∧ val B ql = x / y ∧ val B rl = x % y ∧ Below W.heap.size W w'

/-- Two boxes are written, one behind the other. -/
theorem box2 {w : World} {k k2 : Nat} {s s2 c c2 : Value} {T : TypeId} {fr fr2 : Nat × Nat} {x y : Nat} (hk : w.heap[k]? = some (.cells #[c] T fr)) (hk2 : w.heap[k2]? = some (.cells #[c2] T fr2)) (hT : T ≠ eU32) (hne : k ≠ k2) (h : NatV w (.agg #[s]) x) (g : NatV w (.agg #[s2]) y) :
    ((w.setCell ⟨k, 0, none⟩ s).setCell ⟨k2, 0, none⟩ s2).cell? ⟨k, 0, none⟩ = some s ∧ ((w.setCell ⟨k, 0, none⟩ s).setCell ⟨k2, 0, none⟩ s2).cell? ⟨k2, 0, none⟩ = some s2 ∧
    NatV ((w.setCell ⟨k, 0, none⟩ s).setCell ⟨k2, 0, none⟩ s2) (.agg #[s]) x ∧ NatV ((w.setCell ⟨k, 0, none⟩ s).setCell ⟨k2, 0, none⟩ s2) (.agg #[s2]) y := by
  have hk2' : (w.setCell ⟨k, 0, none⟩ s).heap[k2]? = some (.cells #[c2] T fr2) := (Below.heap_setCell _ _ _ _ (by simp only; omega)).trans hk2
  refine ⟨?_, cell_put hk2' (by simp), (h.put hk hT).put hk2' hT, (g.put hk hT).put hk2' hT⟩
  rw [World.cell?_setCell_other _ _ _ _ (fun e => hne (by cases e; rfl))]
  exact cell_put hk (by simp)

theorem sl_lit (w : World) (r : Nat) : Sl eU32 (w.alloc (.cells #[.int .u32 (r : Int)] eU32)) (.slice (some ⟨w.heap.size, 0, none⟩) 1 1) (u32s [r]) :=
  ⟨_, 1, rfl, Nat.le_refl _, .inr ⟨w.heap.size, 0, _, (0, 0), rfl, heap_alloc_new' _ _ _ rfl, fun i hi => by
    have : i = 0 := by simp [u32s] at hi; omega
    subst this; rfl⟩⟩

set_option maxRecDepth 100000 in
set_option maxHeartbeats 1600000 in
theorem divMod_ok {w : World} {v u : Value} {x y : Nat} (h : NatV w v x) (k : NatV w u y) (hx : (digs B x).length < 274877906944) (hy : (digs B y).length < 274877906944) (hy0 : 0 < y) (hlong : 2 ≤ (digs B y).length → y ≤ x → LongOk x y) :
    Calls Tryd.prog 28 #[v, u] w fun e w' => ∃ q r, e = .returned (.tuple #[q, r, .int .i64 0]) ∧ NatV w' q (x / y) ∧ NatV w' r (x % y) ∧ Below w.heap.size w w' := by
  obtain ⟨a, n, cap, rfl, h⟩ := h.out
  obtain ⟨a2, n2, cap2, rfl, k⟩ := k.out
  have hb := (((below_new (w := w) (.cells #[.slice a n cap] 25)).alloc (by simp) (.cells #[.slice a2 n2 cap2] 25)).alloc (by simp; omega) (.cells #[.slice none 0 0] 25)).alloc (by simp; omega) (.cells #[.slice none 0 0] 25)
  have c1 : ((((w.alloc (.cells #[.slice a n cap] 25)).alloc (.cells #[.slice a2 n2 cap2] 25)).alloc (.cells #[.slice none 0 0] 25)).alloc (.cells #[.slice none 0 0] 25)).cell? ⟨w.heap.size, 0, none⟩ = some (.slice a n cap) := by go_simp
  have c2 : ((((w.alloc (.cells #[.slice a n cap] 25)).alloc (.cells #[.slice a2 n2 cap2] 25)).alloc (.cells #[.slice none 0 0] 25)).alloc (.cells #[.slice none 0 0] 25)).cell? ⟨w.heap.size + 1, 0, none⟩ = some (.slice a2 n2 cap2) := by go_simp
  have c4 : ((((w.alloc (.cells #[.slice a n cap] 25)).alloc (.cells #[.slice a2 n2 cap2] 25)).alloc (.cells #[.slice none 0 0] 25)).alloc (.cells #[.slice none 0 0] 25)).heap[w.heap.size + 1 + 1 + 1]? = some (.cells #[.slice none 0 0] 25) := heap_alloc_new' _ _ _ (by simp)
  have c3 : ((((w.alloc (.cells #[.slice a n cap] 25)).alloc (.cells #[.slice a2 n2 cap2] 25)).alloc (.cells #[.slice none 0 0] 25)).alloc (.cells #[.slice none 0 0] 25)).heap[w.heap.size + 1 + 1]? = some (.cells #[.slice none 0 0] 25) := ((below_new _).block _ (by simp)).trans (heap_alloc_new' _ _ _ (by simp))
  have N1 := h.mono hb
  have N2 := k.mono hb
  have L1 := Lib.hid (fun (W : World) (E : Below _ _ W) => natLimbs_ok (N1.mono E) (by omega))
  have L2 := Lib.hid (fun (W : World) (E : Below _ _ W) => natLimbs_ok (N2.mono E) (by omega))
  have CM := Lib.hid (fun (W : World) (E : Below _ _ W) => compare_ok (N1.mono E) (N2.mono E) (by omega) (by omega))
  have NN := Lib.hid (fun (W : World) (E : Below _ _ W) => N1.mono E)
  have T0 := ext_refl ((((w.alloc (.cells #[.slice a n cap] 25)).alloc (.cells #[.slice a2 n2 cap2] 25)).alloc (.cells #[.slice none 0 0] 25)).alloc (.cells #[.slice none 0 0] 25))
  have s3 : ((((w.alloc (.cells #[.slice a n cap] 25)).alloc (.cells #[.slice a2 n2 cap2] 25)).alloc (.cells #[.slice none 0 0] 25)).alloc (.cells #[.slice none 0 0] 25)).heap.size = w.heap.size + 4 := by simp
  have hne : (digs B y).length ≠ 0 := by
    intro h0
    have := (digs_eq_nil two_le_B).1 (List.length_eq_zero_iff.1 h0)
    omega
  have hlen0 : (((digs B y).length : Int) == 0) = false := beq_eq_false_iff_ne.2 (by omega)
  have hvy := val_digs two_le_B y
  have hly := digs_lt two_le_B y
  have hvx := val_digs two_le_B x
  have hlx := digs_lt two_le_B x
  have HVX := Lib.hid hvx
  have HLX := Lib.hid hlx
  have HVY := Lib.hid hvy
  have HLY := Lib.hid hly
  have HB := Lib.hid hb
  have HLong := Lib.hid hlong
  unfold LongOk at hlong
  have hl2 := hlong
  generalize digs B x = X at *
  generalize digs B y = Y at *
  clear h k N1 N2 hb hvx hlx hvy hly hlong HLong
  have HLong := Lib.hid hl2
  clear hl2
  go_enter Tryd.func28, Tryd.ntmps28
  go_wp2_with fail
  refine wp_region_E (Array.replicate 6 true) 6 0 mixed (by rfl) ?_
  have kE0 := ext_trans T0 (ext_drew _)
  have hg0 := Gr.cell kE0 c1
  have hg1 := Gr.cell kE0 c2
  refine wpE_seg' [0, 2] 4 rfl (by kernel_rfl) ?_
  iterate 2 (refine seg_cons rfl ?_; go_big_quiet_step (rfl))
  refine seg_nil ?_
  clear hg0 hg1
  refine wpE_one 1 (by kernel_rfl) rfl ?_
  go_wp2_with fail
  refine (L1.out _ kE0).mono ?_
  rintro e k1w ⟨r1, rfl, o1, k1b⟩
  go_wp2_with fail
  refine QE_intro k1b ?_
  have k1E := ext_trans kE0 k1b
  refine wpE_one 3 (by kernel_rfl) rfl ?_
  go_wp2_with fail
  refine (L2.out _ k1E).mono ?_
  rintro e k2w ⟨r2, rfl, o2, k2b⟩
  go_wp2_with fail
  refine QE_intro k2b ?_
  have k2E := ext_trans k1E k2b
  have hg0 := Gr.cell k2E c1
  have hg1 := Gr.cell k2E c2
  refine wpE_seg' [4, 5] 0 rfl (by kernel_rfl) ?_
  iterate 2 (refine seg_cons rfl ?_; go_big_quiet_step (rfl))
  refine seg_nil ?_
  clear hg0 hg1
  refine wpE_tail [] (by kernel_rfl) ?_
  refine tail_nil ?_
  have S1 := (Sl.of_own o1).mono k2b
  have S2 := Sl.of_own o2
  have hE := k2E
  have d1 := cellE hE c1
  have d2 := cellE hE c2
  have z3 : k2w.heap[w.heap.size + 1 + 1]? = some (.cells #[.slice none 0 0] 25) := (hE.block _ (by rw [s3]; omega)).trans c3
  have z4 : k2w.heap[w.heap.size + 1 + 1 + 1]? = some (.cells #[.slice none 0 0] 25) := (hE.block _ (by rw [s3]; omega)).trans c4
  have zs : w.heap.size + 4 ≤ k2w.heap.size := by have := hE.size; rw [s3] at this; exact this
  have hBw : Below w.heap.size w k2w := HB.out.trans (hE.mono (by rw [s3]; omega))
  obtain ⟨x2, cp2, hr2, _, hx2⟩ := Sl.outU S2
  obtain ⟨x1, cp1, hr1, _, _⟩ := Sl.outU S1
  subst hr1 hr2
  have SS1 := Lib.hid (fun (W : World) (E : Below k2w.heap.size k2w W) => S1.mono E)
  have SS2 := Lib.hid (fun (W : World) (E : Below k2w.heap.size k2w W) => S2.mono E)
  have HX2 := Lib.hid hx2
  have Z3 := Lib.hid z3
  have Z4 := Lib.hid z4
  clear o1 o2 S1 S2 hx2 k2E k1b k2b L1 L2 T0 z3 z4 HB c3 c4
  by_cases hlt : x < y
  · rw [cmp_of_lt hlt] at CM
    go_wp2_with fail
    refine (CM.out _ hE).mono ?_
    rintro e w4 ⟨rfl, b4⟩
    have e1 := cellE b4 d1
    have NX := NN.out _ (ext_trans hE b4)
    have z3 := (b4.block _ (by omega)).trans Z3.out
    have z4 := (b4.block _ (by omega)).trans Z4.out
    have hcell3 : w4.cell? ⟨w.heap.size + 1 + 1, 0, none⟩ = some (.slice none 0 0) := by unfold World.cell?; rw [z3]; rfl
    have hfr3 : w4.frozen? ⟨w.heap.size + 1 + 1, 0, none⟩ = false := by unfold World.frozen?; rw [z3]; rfl
    have hcell4 : w4.cell? ⟨w.heap.size + 1 + 1 + 1, 0, none⟩ = some (.slice none 0 0) := by unfold World.cell?; rw [z4]; rfl
    have hfr4 : w4.frozen? ⟨w.heap.size + 1 + 1 + 1, 0, none⟩ = false := by unfold World.frozen?; rw [z4]; rfl
    have NZ : NatV w4 (.agg #[.slice none 0 0]) (x / y) := by rw [Nat.div_eq_of_lt hlt]; exact ⟨_, rfl, by rw [digs_zero]; exact .nil _ _ _ _ (fun _ => rfl)⟩
    have NX2 : NatV w4 (.agg #[.slice a n cap]) (x % y) := by rw [Nat.mod_eq_of_lt hlt]; exact NX
    obtain ⟨q1, q2, M1, M2⟩ := box2 (w := w4) z3 z4 (by decide) (by omega) NZ NX2
    have q1 := cellE (ext_drew _) q1
    have q2 := cellE (ext_drew _) q2
    have M1 := M1.mono (ext_drew _)
    have M2 := M2.mono (ext_drew _)
    have hBf := (below_put (off := 0) (u := .slice a n cap) (b := w.heap.size + 1 + 1 + 1) (below_put (off := 0) (u := .slice none 0 0) (b := w.heap.size + 1 + 1) (hBw.trans (b4.mono hBw.size)) (by omega)) (by omega)).trans (below_drew _)
    clear z3 z4 NX NZ NX2 b4 hBw
    go_wp2_with fail
    go_region
    all_goals go_wp2
    all_goals exact bodyPost_ret (v := .tuple #[.agg #[.slice none 0 0], .agg #[.slice a n cap], .int .i64 0]) (by simp [results, Tryd.results28, go_sem, q1, q2]) rfl ⟨_, _, rfl, M1, M2, hBf⟩
  · obtain ⟨c, hc, hc0⟩ : ∃ c : Int, cmpN x y = c ∧ ¬ c < 0 := ⟨_, rfl, by unfold cmpN; rw [if_neg hlt]; split <;> omega⟩
    rw [hc] at CM
    clear hc
    go_wp2_with fail
    refine (CM.out _ hE).mono ?_
    rintro e w4 ⟨rfl, b4⟩
    have b4w := hBw.trans (b4.mono hBw.size)
    have g3 := (b4.block _ (by omega)).trans Z3.out
    have g4 := (b4.block _ (by omega)).trans Z4.out
    have b4s := b4.size
    by_cases hY1 : Y.length = 1
    · have hl1 : ((Y.length : Int) == 1) = true := beq_iff_eq.2 (by omega)
      obtain ⟨b2, off2, rfl, hb2, hc2⟩ := HX2.out 0 (by omega)
      have hc2 := (b4.cell (p := ⟨b2, off2 + 0, none⟩) hb2).trans hc2
      rw [Nat.add_zero] at hc2
      obtain ⟨d, rfl⟩ : ∃ d, Y = [d] := by
        match Y, hY1 with
        | [d], _ => exact ⟨d, rfl⟩
      have hd : d < B := HLY.out d (by simp)
      have hdy : d = y := by have := HVY.out; simp [val] at this; exact this
      subst hdy
      have hc3 : w4.cell? ⟨b2, off2, none⟩ = some (.int .u32 (d : Nat)) := hc2
      clear hc2
      go_wp2_with fail
      refine (small_ok (SS1.out _ b4) HLX.out hx d hy0 hd).mono ?_
      rintro e w5 ⟨r5, ql, rfl, o5, hql, hqv, b5⟩
      rw [HVX.out]
      rw [HVX.out] at hqv
      have hqll : ql.length = X.length := by have := o5.1; simp at this; exact this
      go_wp2_with fail
      refine (limbs_ok (Sl.of_own o5) hql (by omega)).mono ?_
      rintro e w6 ⟨r6, rfl, N6, b6⟩
      rw [hqv] at N6
      obtain ⟨a6, n6, cap6, rfl, N6⟩ := N6.out
      go_wp2_with fail
      refine (limbs_ok (l := [x % d]) (sl_lit _ _) (fun z hz => by rw [List.mem_singleton.1 hz]; have := Nat.mod_lt x hy0; omega) (by simp)).mono ?_
      rintro e w7 ⟨r7, rfl, N7, b7⟩
      have hv1 : val B [x % d] = x % d := by simp [val]
      rw [hv1] at N7
      obtain ⟨a7, n7, cap7, rfl, N7⟩ := N7.out
      have b67 := ext_trans (below_new (w := w6) (.cells #[.int .u32 ((x % d : Nat) : Int)] eU32)) b7
      have b47 := ext_trans b5 (ext_trans b6 b67)
      have N6 := N6.mono b67
      have z3 := (b47.block _ (by omega)).trans g3
      have z4 := (b47.block _ (by omega)).trans g4
      have hcell3 : w7.cell? ⟨w.heap.size + 1 + 1, 0, none⟩ = some (.slice none 0 0) := by unfold World.cell?; rw [z3]; rfl
      have hfr3 : w7.frozen? ⟨w.heap.size + 1 + 1, 0, none⟩ = false := by unfold World.frozen?; rw [z3]; rfl
      have hcell4 : w7.cell? ⟨w.heap.size + 1 + 1 + 1, 0, none⟩ = some (.slice none 0 0) := by unfold World.cell?; rw [z4]; rfl
      have hfr4 : w7.frozen? ⟨w.heap.size + 1 + 1 + 1, 0, none⟩ = false := by unfold World.frozen?; rw [z4]; rfl
      obtain ⟨q1, q2, M1, M2⟩ := box2 (w := w7) z3 z4 (by decide) (by omega) N6 N7
      have hBf := below_put (off := 0) (u := .slice a7 n7 cap7) (b := w.heap.size + 1 + 1 + 1) (below_put (off := 0) (u := .slice a6 n6 cap6) (b := w.heap.size + 1 + 1) (b4w.trans (b47.mono b4w.size)) (by omega)) (by omega)
      clear z3 z4 N6 N7 g3 g4
      go_wp2
      exact bodyPost_ret (v := .tuple #[.agg #[.slice a6 n6 cap6], .agg #[.slice a7 n7 cap7], .int .i64 0]) (by simp [results, Tryd.results28, go_sem, q1, q2]) rfl ⟨_, _, rfl, M1, M2, hBf⟩
    · have hl1 : ((Y.length : Int) == 1) = false := beq_eq_false_iff_ne.2 (by omega)
      go_wp2_with fail
      refine (HLong.out (by omega) (by omega) w4 _ _ (SS1.out _ b4) (SS2.out _ b4)).mono ?_
      rintro e w5 ⟨r5, r6, ql, rl, rfl, o5, o6, hql, hrl, hqn, hrn, hqv, hrv, b5⟩
      go_wp2_with fail
      refine (limbs_ok o5 hql hqn).mono ?_
      rintro e w6 ⟨r7, rfl, N6, b6⟩
      rw [hqv] at N6
      go_wp2_with fail
      refine (limbs_ok (o6.mono b6) hrl hrn).mono ?_
      rintro e w7 ⟨r8, rfl, N7, b7⟩
      rw [hrv] at N7
      have N6 := N6.mono b7
      obtain ⟨a6, n6, cap6, rfl, N6⟩ := N6.out
      obtain ⟨a7, n7, cap7, rfl, N7⟩ := N7.out
      have b47 := ext_trans b5 (ext_trans b6 b7)
      have z3 := (b47.block _ (by omega)).trans g3
      have z4 := (b47.block _ (by omega)).trans g4
      have hcell3 : w7.cell? ⟨w.heap.size + 1 + 1, 0, none⟩ = some (.slice none 0 0) := by unfold World.cell?; rw [z3]; rfl
      have hfr3 : w7.frozen? ⟨w.heap.size + 1 + 1, 0, none⟩ = false := by unfold World.frozen?; rw [z3]; rfl
      have hcell4 : w7.cell? ⟨w.heap.size + 1 + 1 + 1, 0, none⟩ = some (.slice none 0 0) := by unfold World.cell?; rw [z4]; rfl
      have hfr4 : w7.frozen? ⟨w.heap.size + 1 + 1 + 1, 0, none⟩ = false := by unfold World.frozen?; rw [z4]; rfl
      obtain ⟨q1, q2, M1, M2⟩ := box2 (w := w7) z3 z4 (by decide) (by omega) N6 N7
      have hBf := below_put (off := 0) (u := .slice a7 n7 cap7) (b := w.heap.size + 1 + 1 + 1) (below_put (off := 0) (u := .slice a6 n6 cap6) (b := w.heap.size + 1 + 1) (b4w.trans (b47.mono b4w.size)) (by omega)) (by omega)
      clear z3 z4 N6 N7 g3 g4
      go_wp2
      exact bodyPost_ret (v := .tuple #[.agg #[.slice a6 n6 cap6], .agg #[.slice a7 n7 cap7], .int .i64 0]) (by simp [results, Tryd.results28, go_sem, q1, q2]) rfl ⟨_, _, rfl, M1, M2, hBf⟩
end Go.Proofs.YtcabmibcgedhhaaDoor

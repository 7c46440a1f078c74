/-
  The walk of the law DigitsOrder.
-/
import Derived.Test.YtcabmibcgedhhaaDoorDgA
import Derived.Test.YtcabmibcgedhhaaDoorDgO
import Derived.Test.YtcabmibcgedhhaaDoorLawNatCompares
namespace Go.Proofs.YtcabmibcgedhhaaDoor
open Go.RowKit Go.Cd

set_option maxRecDepth 100000 in
set_option maxHeartbeats 3200000 in
theorem digitsOrder_ok {w : World} {v u : Value} {l m : List Nat} (h : SlA w v (u32s l)) (k : SlA w u (u32s m)) (hl : ∀ d ∈ l, d < B) (hm : ∀ d ∈ m, d < B) :
    Calls Tryd.prog 3 #[v, u] w fun e w' => e = .returned (.bool true) ∧ Below w.heap.size w w' := by
  have lx := fewLen l hl
  have ly := fewLen m hm
  have F1 := Lib.hid (fun (W : World) (E : Below w.heap.size w W) => few_ok (h.mono E))
  have F2 := Lib.hid (fun (W : World) (E : Below w.heap.size w W) => few_ok (k.mono E))
  have HL := Lib.hid (take_lt hl)
  have HM := Lib.hid (take_lt hm)
  have lenl : (l.take 40).length ≤ 40 := by simp; omega
  have lenm : (m.take 40).length ≤ 40 := by simp; omega
  clear h k hl hm
  generalize l.take 40 = l' at *
  generalize m.take 40 = m' at *
  go_enter Tryd.func3, Tryd.ntmps3
  go_wp2_with fail
  refine (awake03_ok _).mono ?_
  rintro e w1 ⟨rfl, h1⟩
  go_wp2_with fail
  refine (F1.out _ h1).mono ?_
  rintro e w2 ⟨r2, rfl, o2, h2⟩
  go_wp2_with fail
  refine (limbs_ok (Sl.of_own o2) HL.out (by omega)).mono ?_
  rintro e w3 ⟨r3, rfl, x3, h3⟩
  go_wp2_with fail
  refine (F2.out _ (ext_trans h1 (ext_trans h2 h3))).mono ?_
  rintro e w4 ⟨r4, rfl, o4, h4⟩
  go_wp2_with fail
  refine (limbs_ok (Sl.of_own o4) HM.out (by omega)).mono ?_
  rintro e w5 ⟨r5, rfl, x5, h5⟩
  have E5 := ext_trans h1 (ext_trans h2 (ext_trans h3 (ext_trans h4 h5)))
  have x3 := x3.mono (ext_trans h4 h5)
  clear o2 o4 h1 h2 h3 h4 h5 F1 F2 HL HM lenl lenm
  generalize val B l' = X at *
  generalize val B m' = Y at *
  obtain ⟨a1, n1, cap1, rfl, x3⟩ := x3.out
  obtain ⟨a2, n2, cap2, rfl, x5⟩ := x5.out
  have hb := below2 (w := w5) (.cells #[.slice a1 n1 cap1] tNat) (.cells #[.slice a2 n2 cap2] tNat)
  have c1 : ((w5.alloc (.cells #[.slice a1 n1 cap1] tNat)).alloc (.cells #[.slice a2 n2 cap2] tNat)).cell? ⟨w5.heap.size, 0, none⟩ = some (.slice a1 n1 cap1) := by go_simp
  have c2 : ((w5.alloc (.cells #[.slice a1 n1 cap1] tNat)).alloc (.cells #[.slice a2 n2 cap2] tNat)).cell? ⟨w5.heap.size + 1, 0, none⟩ = some (.slice a2 n2 cap2) := by go_simp
  have E6 := E5.trans (hb.mono E5.size)
  have y1 := x3.mono hb
  have y2 := x5.mono hb
  have TX := Lib.hid (fun (W : World) (E : Below _ ((w5.alloc (.cells #[.slice a1 n1 cap1] tNat)).alloc (.cells #[.slice a2 n2 cap2] tNat)) W) => text_ok (y1.mono E) (by omega))
  have TY := Lib.hid (fun (W : World) (E : Below _ ((w5.alloc (.cells #[.slice a1 n1 cap1] tNat)).alloc (.cells #[.slice a2 n2 cap2] tNat)) W) => text_ok (y2.mono E) (by omega))
  have CM := Lib.hid (fun (W : World) (E : Below _ ((w5.alloc (.cells #[.slice a1 n1 cap1] tNat)).alloc (.cells #[.slice a2 n2 cap2] tNat)) W) => compare_ok (y1.mono E) (y2.mono E) (by omega) (by omega))
  clear x3 x5 y1 y2 hb E5
  go_wp2_with fail
  refine wp_region_E (Array.replicate 6 true) 6 0 mixed (by rfl) ?_
  have kE0 := ext_drew ((w5.alloc (.cells #[.slice a1 n1 cap1] tNat)).alloc (.cells #[.slice a2 n2 cap2] tNat))
  have hg0 := Gr.cell kE0 c1
  have hg1 := Gr.cell kE0 c2
  refine wpE_seg' [0, 2] 4 rfl (by kernel_rfl) ?_
  refine seg_ex ?_
  iterate 2 (refine ex_cons rfl ?_)
  refine ex_nil ?_
  iterate 2 (go_big_quiet_step (rfl))
  refine seg_nil ?_
  clear hg0 hg1
  refine wpE_one 1 (by kernel_rfl) rfl ?_
  go_wp2_with fail
  refine (TX.out _ kE0).mono ?_
  rintro e k1w ⟨rfl, k1b⟩
  go_wp2_with fail
  refine QE_intro k1b ?_
  have k1E := ext_trans kE0 k1b
  refine wpE_one 3 (by kernel_rfl) rfl ?_
  go_wp2_with fail
  refine (TY.out _ k1E).mono ?_
  rintro e k2w ⟨rfl, k2b⟩
  go_wp2_with fail
  refine QE_intro k2b ?_
  have EW := ext_trans k1E k2b
  refine wpE_seg' [4, 5] 0 rfl (by kernel_rfl) ?_
  refine seg_ex ?_
  iterate 2 (refine ex_cons rfl ?_)
  refine ex_nil ?_
  iterate 2 (go_big_quiet_step (rfl))
  refine seg_nil ?_
  refine wpE_tail [] (by kernel_rfl) ?_
  refine tail_nil ?_
  have c1 := cellE EW c1
  have c2 := cellE EW c2
  have hp := size_dec X
  have hq := size_dec Y
  have hpq : X ≤ Y → (dl X).length ≤ (dl Y).length := dl_len
  have hqp : Y ≤ X → (dl Y).length ≤ (dl X).length := dl_len
  have hlt : (dl X).length = (dl Y).length → Op.bytesLess (str (decT X)).toList (str (decT Y)).toList = decide (X < Y) := dec_less
  have heq := dec_eq (x := X) (y := Y)
  clear TX TY k1b k2b k1E kE0
  generalize str (decT X) = s at *
  generalize str (decT Y) = t at *
  generalize (dl X).length = p at *
  generalize (dl Y).length = q at *
  rcases Nat.lt_trichotomy X Y with hXY | hXY | hXY
  · have hcm := cmp_of_lt hXY
    rw [hcm] at CM
    have hle := hpq (by omega)
    by_cases hpl : p < q
    · have d1 : decide ((p : Int) < (q : Int)) = true := decide_eq_true (by omega)
      have d2 : decide (p < q) = true := decide_eq_true hpl
      clear hpq hqp hlt heq hcm
      go_wp2_with fail
      refine (CM.out _ EW).mono ?_
      rintro e w9 ⟨rfl, h9⟩
      go_wp2
      go_ret
      exact ⟨by simp, E6.trans ((ext_trans EW h9).mono E6.size)⟩
    · obtain rfl : p = q := by omega
      have hls := hlt rfl
      rw [decide_eq_true hXY] at hls
      clear hpq hqp hlt heq hcm
      go_wp2_with fail
      refine (CM.out _ EW).mono ?_
      rintro e w9 ⟨rfl, h9⟩
      go_wp2
      go_ret
      exact ⟨by simp, E6.trans ((ext_trans EW h9).mono E6.size)⟩
  · subst hXY
    have hcm := cmp_self X
    rw [hcm] at CM
    have h1 := hpq (Nat.le_refl _)
    have h2 := hqp (Nat.le_refl _)
    obtain rfl : p = q := by omega
    have hls := hlt rfl
    rw [decide_eq_false (Nat.lt_irrefl X)] at hls
    rw [decide_eq_true rfl] at heq
    clear hpq hqp hlt hcm h1 h2
    go_wp2_with fail
    refine (CM.out _ EW).mono ?_
    rintro e w9 ⟨rfl, h9⟩
    go_wp2
    go_ret
    exact ⟨by simp, E6.trans ((ext_trans EW h9).mono E6.size)⟩
  · have hcm := cmp_of_gt hXY
    rw [hcm] at CM
    have hle := hqp (by omega)
    by_cases hpl : q < p
    · have d1 : decide ((p : Int) < (q : Int)) = false := decide_eq_false (by omega)
      have d2 : decide (p < q) = false := decide_eq_false (by omega)
      have d3 : ((p : Int) == (q : Int)) = false := beq_eq_false_iff_ne.2 (by omega)
      have d4 : decide ((q : Int) < (p : Int)) = true := decide_eq_true (by omega)
      have d5 : decide (q < p) = true := decide_eq_true hpl
      clear hpq hqp hlt heq hcm
      go_wp2_with fail
      refine (CM.out _ EW).mono ?_
      rintro e w9 ⟨rfl, h9⟩
      go_wp2
      go_ret
      exact ⟨by simp, E6.trans ((ext_trans EW h9).mono E6.size)⟩
    · obtain rfl : p = q := by omega
      have hls := hlt rfl
      rw [decide_eq_false (by omega)] at hls
      rw [decide_eq_false (by omega)] at heq
      clear hpq hqp hlt hcm
      go_wp2_with fail
      refine (CM.out _ EW).mono ?_
      rintro e w9 ⟨rfl, h9⟩
      go_wp2
      go_ret
      exact ⟨by simp, E6.trans ((ext_trans EW h9).mono E6.size)⟩
end Go.Proofs.YtcabmibcgedhhaaDoor

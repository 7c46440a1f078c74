/-
  The walks of radix.Bases, of the laws' same.
-/
import Derived.Test.YtcabmibcgedhhaaLawRadixOrder
import Derived.Test.YtcabmibcgedhhaaSeg
namespace Go.Proofs.Ytcabmibcgedhhaa
open Go.RowKit Go.Cd

set_option maxRecDepth 100000 in
set_option maxHeartbeats 1600000 in
theorem same23_ok {w : World} {v u : Value} {L M : List Nat} (h : SlA w v (ds L)) (g : SlA w u (ds M)) (hL : L = M) (hmax : L.length < 1099511627776) :
    Calls Try.prog 25 #[v, u] w fun e w' => e = .returned (.bool true) ∧ Below w.heap.size w w' := by
  subst hL
  obtain ⟨a, cp, rfl, _, k1⟩ := SlA.outN h
  obtain ⟨a', cp', rfl, _, k2⟩ := SlA.outN g
  have K1 := Lib.hid k1
  have K2 := Lib.hid k2
  clear h g k1 k2
  go_enter Try.func25, Try.ntmps25
  go_wp2_with fail
  go_loopw [13] (fun i wr => ∃ k : Nat, k ≤ L.length ∧ i = .int .i64 k ∧ Below w.heap.size w wr)
    (fun i _ => L.length - (intOf i).toNat)
  case atStart => exact ⟨0, Nat.zero_le _, rfl, Below.refl _ _⟩
  case round =>
    obtain ⟨k, hk, rfl, hE⟩ := hrel
    by_cases hkl : k < L.length
    · obtain ⟨b1, o1, rfl, hb1, k1⟩ := K1.out k hkl
      obtain ⟨b2, o2, rfl, hb2, k2⟩ := K2.out k hkl
      have k1 := (hE.cell (p := ⟨b1, o1 + k, none⟩) hb1).trans k1
      have k2 := (hE.cell (p := ⟨b2, o2 + k, none⟩) hb2).trans k2
      generalize L[k] = p at *
      go_wp2_with fail
      go_quiet (fail)
      go_wp2_with fail
      go_roundw
      case rel => exact ⟨k + 1, by omega, rfl, ⟨hE.os, hE.tape, hE.output, hE.size, hE.block⟩⟩
      case measure => simp [intOf]; omega
    · obtain rfl : k = L.length := by omega
      go_wp2
      go_ret
      exact ⟨rfl, hE⟩

set_option maxRecDepth 100000 in
set_option maxHeartbeats 1600000 in
theorem bases_ok {w : World} {v : Value} {bs : List Nat} (h : RadixV w v bs) (hlen : bs.length < 1099511627776) :
    Calls Try.prog 26 #[v] w fun e w' => ∃ r, e = .returned r ∧ SlA w' r (ds bs) ∧ Below w.heap.size w w' := by
  obtain ⟨a1, c1, a2, c2, rfl, hs, _⟩ := h.out
  have hb := below_new (w := w) (.cells #[.slice a1 bs.length c1, .slice a2 bs.length c2, .int .i64 (prodN bs : Nat)] tRadix)
  have IX : Is3 (w.alloc (.cells #[.slice a1 bs.length c1, .slice a2 bs.length c2, .int .i64 (prodN bs : Nat)] tRadix)) w.heap.size (.slice a1 bs.length c1) (.slice a2 bs.length c2) (.int .i64 (prodN bs : Nat)) tRadix := ⟨heap_alloc_new' _ _ _ rfl⟩
  obtain ⟨e0, e1, e2⟩ := IX.cell
  have hs' := hs.mono hb
  rw [← i64s_ds] at hs'
  have CL := Lib.hid (cloneI_ok hs' (by simpa using hlen))
  clear h hs hs'
  go_enter Try.func26, Try.ntmps26
  go_wp2_with fail
  refine CL.out.mono ?_
  rintro e w2 ⟨r, rfl, ho, h2⟩
  rw [i64s_ds] at ho
  go_wp2
  go_ret
  exact ⟨_, rfl, (Sl.of_own ho).any, ext_trans hb h2⟩

set_option maxRecDepth 100000 in
set_option maxHeartbeats 3200000 in
theorem step_in {w : World} {v : Value} {bs : List Nat} (h : RadixV w v bs) (hpos : ∀ b ∈ bs, 1 ≤ b) (hmax : prodN bs ≤ 1073741824) {n m : Nat} (hn : n < prodN bs) (hm : m < bs.length) :
    Calls Try.prog 27 #[v, .int .i64 n, .int .i64 m] w fun e w' => e = .returned (.tuple #[.int .i64 (if (dgs bs n)[m]'(by simpa using hm) + 1 < bs[m] then (n + prodN (bs.drop (m + 1)) : Nat) else (0 : Nat)), .bool (decide ((dgs bs n)[m]'(by simpa using hm) + 1 < bs[m]))]) ∧ Below w.heap.size w w' := by
  have h' := h
  obtain ⟨a1, c1, a2, c2, rfl, _, hc1, hc2, hy1, hy2⟩ := h.out
  obtain ⟨b1, o1, rfl, hb1, k1⟩ := hy1 m hm
  obtain ⟨b2, o2, rfl, hb2, k2⟩ := hy2 m hm
  have hb := below_new (w := w) (.cells #[.slice (some ⟨b1, o1, none⟩) bs.length c1, .slice (some ⟨b2, o2, none⟩) bs.length c2, .int .i64 (prodN bs : Nat)] tRadix)
  have IX : Is3 (w.alloc (.cells #[.slice (some ⟨b1, o1, none⟩) bs.length c1, .slice (some ⟨b2, o2, none⟩) bs.length c2, .int .i64 (prodN bs : Nat)] tRadix)) w.heap.size (.slice (some ⟨b1, o1, none⟩) bs.length c1) (.slice (some ⟨b2, o2, none⟩) bs.length c2) (.int .i64 (prodN bs : Nat)) tRadix := ⟨heap_alloc_new' _ _ _ rfl⟩
  have IN := Lib.hid (fun (W : World) (E : Below w.heap.size w W) => in_ok (h'.mono E) hpos hmax (n : Int))
  have DG := Lib.hid (fun (W : World) (E : Below w.heap.size w W) => digit_ok (h'.mono E) hpos hmax hn hm)
  rw [decide_eq_true (show 0 ≤ (n : Int) ∧ (n : Int) < (prodN bs : Nat) by omega)] at IN
  have k1 := (hb.cell (p := ⟨b1, o1 + m, none⟩) hb1).trans k1
  have k2 := (hb.cell (p := ⟨b2, o2 + m, none⟩) hb2).trans k2
  have hlt := dgs_lt hm hpos hn
  have hdr := prodN_drop hpos (m + 1)
  have hwr : wrap64 ((n : Int) + (prodN (bs.drop (m + 1)) : Int)) = ((n + prodN (bs.drop (m + 1)) : Nat) : Int) := by
    rw [← Int.natCast_add]; unfold wrap64; omega
  have hle : bs[m] ≤ 1073741824 := by
    have h1 := prodN_drop hpos m
    rw [prodN_step hm] at h1
    have h2 := Nat.le_mul_of_pos_right bs[m] (prodN_pos (bs := bs.drop (m + 1)) (fun b hb => hpos b (List.mem_of_mem_drop hb)))
    omega
  clear h h' hy1 hy2 hpos hmax hdr
  generalize (dgs bs n)[m]'(by simpa using hm) = d at *
  generalize bs[m] = b at *
  generalize prodN (bs.drop (m + 1)) = Q at *
  generalize prodN bs = P at *
  have hwd : wrap64 ((d : Int) + 1) = ((d + 1 : Nat) : Int) := by unfold wrap64; omega
  obtain ⟨e0, e1, e2⟩ := IX.cell
  have HLT := Lib.hid hlt
  clear hlt
  have hg5 : decide ((m : Int) < 0) = false := decide_eq_false (by omega)
  have hg6 : decide (bs.length ≤ m) = false := decide_eq_false (by omega)
  by_cases hd : d + 1 < b
  · have hq : (((d + 1 : Nat) : Int) == (b : Int)) = false := beq_eq_false_iff_ne.2 (by omega)
    rw [if_pos hd, decide_eq_true hd]
    go_enter Try.func27, Try.ntmps27
    go_wp2_with fail
    refine wp_region_E (Array.replicate 28 true) 28 0 mixed (by rfl) ?_
    have kE0 := ext_drew (w.alloc (.cells #[.slice (some ⟨b1, o1, none⟩) bs.length c1, .slice (some ⟨b2, o2, none⟩) bs.length c2, .int .i64 (P : Nat)] tRadix))
    have hg0 := Gr.cell kE0 e0
    have hg1 := Gr.cell kE0 e1
    have hg2 := Gr.cell kE0 e2
    refine wpE_seg' [0, 1] 26 rfl (by kernel_rfl) ?_
    refine seg_ex ?_
    iterate 2 (refine ex_cons rfl ?_)
    refine ex_nil ?_
    iterate 2 (go_big_quiet_step (rfl))
    refine seg_nil ?_
    clear hg0 hg1 hg2
    refine wpE_one 2 (by kernel_rfl) rfl ?_
    go_wp2_with fail
    refine (IN.out _ (ext_trans hb kE0)).mono ?_
    rintro e k1w ⟨rfl, k1b⟩
    go_wp2_with fail
    refine QE_intro k1b ?_
    have k1E := ext_trans kE0 k1b
    have hg0 := Gr.cell k1E e0
    have hg1 := Gr.cell k1E e1
    have hg2 := Gr.cell k1E e2
    have hg3 := Gr.cell k1E k1
    have hg4 := Gr.cell k1E k2
    refine wpE_seg' [3, 4, 5, 6, 7, 8, 9, 10, 11, 12, 13, 14, 15, 16, 17, 18, 21, 22, 23, 24, 25] 4 rfl (by kernel_rfl) ?_
    refine seg_ex ?_
    iterate 21 (refine ex_cons rfl ?_)
    refine ex_nil ?_
    iterate 21 (go_big_quiet_step (rfl))
    refine seg_nil ?_
    clear hg0 hg1 hg2 hg3 hg4
    refine wpE_one 19 (by kernel_rfl) rfl ?_
    go_wp2_with fail
    refine (DG.out _ (ext_trans hb k1E)).mono ?_
    rintro e k2w ⟨rfl, k2b⟩
    go_wp2_with fail
    refine QE_intro k2b ?_
    have k2E := ext_trans k1E k2b
    refine wpE_seg' [20, 26, 27] 0 rfl (by kernel_rfl) ?_
    refine seg_ex ?_
    iterate 3 (refine ex_cons rfl ?_)
    refine ex_nil ?_
    iterate 3 (go_big_quiet_step (rfl))
    refine seg_nil ?_
    refine wpE_tail [] (by kernel_rfl) ?_
    refine tail_nil ?_
    obtain ⟨f0, f1, f2⟩ := (IX.mono k2E).cell
    have k2' := cellE k2E k2
    go_wp2
    go_ret2
    refine ⟨?_, ext_trans hb k2E⟩
    show Ending.returned (.tuple #[.int .i64 (wrap64 ((n : Int) + (Q : Int))), .bool true]) = _
    rw [hwr]
  · have hq : (((d + 1 : Nat) : Int) == (b : Int)) = true := beq_iff_eq.2 (by have := HLT.out; omega)
    rw [if_neg hd, decide_eq_false hd]
    go_enter Try.func27, Try.ntmps27
    go_wp2_with fail
    refine wp_region_E (Array.replicate 28 true) 28 0 mixed (by rfl) ?_
    have kE0 := ext_drew (w.alloc (.cells #[.slice (some ⟨b1, o1, none⟩) bs.length c1, .slice (some ⟨b2, o2, none⟩) bs.length c2, .int .i64 (P : Nat)] tRadix))
    have hg0 := Gr.cell kE0 e0
    have hg1 := Gr.cell kE0 e1
    have hg2 := Gr.cell kE0 e2
    refine wpE_seg' [0, 1] 26 rfl (by kernel_rfl) ?_
    refine seg_ex ?_
    iterate 2 (refine ex_cons rfl ?_)
    refine ex_nil ?_
    iterate 2 (go_big_quiet_step (rfl))
    refine seg_nil ?_
    clear hg0 hg1 hg2
    refine wpE_one 2 (by kernel_rfl) rfl ?_
    go_wp2_with fail
    refine (IN.out _ (ext_trans hb kE0)).mono ?_
    rintro e k1w ⟨rfl, k1b⟩
    go_wp2_with fail
    refine QE_intro k1b ?_
    have k1E := ext_trans kE0 k1b
    have hg0 := Gr.cell k1E e0
    have hg1 := Gr.cell k1E e1
    have hg2 := Gr.cell k1E e2
    have hg3 := Gr.cell k1E k1
    have hg4 := Gr.cell k1E k2
    refine wpE_seg' [3, 4, 5, 6, 7, 8, 9, 10, 11, 12, 13, 14, 15, 16, 17, 18, 21, 22, 23, 24, 25] 4 rfl (by kernel_rfl) ?_
    refine seg_ex ?_
    iterate 21 (refine ex_cons rfl ?_)
    refine ex_nil ?_
    iterate 21 (go_big_quiet_step (rfl))
    refine seg_nil ?_
    clear hg0 hg1 hg2 hg3 hg4
    refine wpE_one 19 (by kernel_rfl) rfl ?_
    go_wp2_with fail
    refine (DG.out _ (ext_trans hb k1E)).mono ?_
    rintro e k2w ⟨rfl, k2b⟩
    go_wp2_with fail
    refine QE_intro k2b ?_
    have k2E := ext_trans k1E k2b
    refine wpE_seg' [20, 26, 27] 0 rfl (by kernel_rfl) ?_
    refine seg_ex ?_
    iterate 3 (refine ex_cons rfl ?_)
    refine ex_nil ?_
    iterate 3 (go_big_quiet_step (rfl))
    refine seg_nil ?_
    refine wpE_tail [] (by kernel_rfl) ?_
    refine tail_nil ?_
    go_wp2
    go_ret2
    exact ⟨rfl, ext_trans hb k2E⟩

set_option maxRecDepth 100000 in
set_option maxHeartbeats 3200000 in
theorem step_out {w : World} {v : Value} {bs : List Nat} (h : RadixV w v bs) (hpos : ∀ b ∈ bs, 1 ≤ b) (hmax : prodN bs ≤ 1073741824) {i k : Int} (hik : ¬ ((0 ≤ i ∧ i < (prodN bs : Nat)) ∧ 0 ≤ k ∧ k < bs.length)) :
    Calls Try.prog 27 #[v, .int .i64 i, .int .i64 k] w fun e w' => e = .returned (.tuple #[.int .i64 (0 : Int), .bool false]) ∧ Below w.heap.size w w' := by
  have h' := h
  obtain ⟨a1, c1, a2, c2, rfl, _, hc1, hc2, hy1, hy2⟩ := h.out
  have hb := below_new (w := w) (.cells #[.slice a1 bs.length c1, .slice a2 bs.length c2, .int .i64 (prodN bs : Nat)] tRadix)
  have IX : Is3 (w.alloc (.cells #[.slice a1 bs.length c1, .slice a2 bs.length c2, .int .i64 (prodN bs : Nat)] tRadix)) w.heap.size (.slice a1 bs.length c1) (.slice a2 bs.length c2) (.int .i64 (prodN bs : Nat)) tRadix := ⟨heap_alloc_new' _ _ _ rfl⟩
  have IN := Lib.hid (fun (W : World) (E : Below w.heap.size w W) => in_ok (h'.mono E) hpos hmax i)
  obtain ⟨e0, e1, e2⟩ := IX.cell
  clear h h' hy1 hy2 hpos hmax
  generalize prodN bs = P at *
  by_cases hin : 0 ≤ i ∧ i < (P : Int)
  · rw [decide_eq_true hin] at IN
    by_cases hk0 : k < 0
    · have hg5 : decide (k < 0) = true := decide_eq_true hk0
      clear hik hin
      go_enter Try.func27, Try.ntmps27
      go_wp2_with fail
      refine wp_region_E (Array.replicate 28 true) 28 0 mixed (by rfl) ?_
      have kE0 := ext_drew (w.alloc (.cells #[.slice a1 bs.length c1, .slice a2 bs.length c2, .int .i64 (P : Nat)] tRadix))
      have hg0 := Gr.cell kE0 e0
      have hg1 := Gr.cell kE0 e1
      have hg2 := Gr.cell kE0 e2
      refine wpE_seg' [0, 1] 26 rfl (by kernel_rfl) ?_
      refine seg_ex ?_
      iterate 2 (refine ex_cons rfl ?_)
      refine ex_nil ?_
      iterate 2 (go_big_quiet_step (rfl))
      refine seg_nil ?_
      clear hg0 hg1 hg2
      refine wpE_one 2 (by kernel_rfl) rfl ?_
      go_wp2_with fail
      refine (IN.out _ (ext_trans hb kE0)).mono ?_
      rintro e k1w ⟨rfl, k1b⟩
      go_wp2_with fail
      refine QE_intro k1b ?_
      have k1E := ext_trans kE0 k1b
      have hg0 := Gr.cell k1E e0
      have hg1 := Gr.cell k1E e1
      have hg2 := Gr.cell k1E e2
      refine wpE_seg' [3, 4, 5, 6, 7, 8, 9, 10, 11, 12, 13, 14, 15, 16, 17, 18, 21, 22, 23, 24, 25] 4 rfl (by kernel_rfl) ?_
      refine seg_ex ?_
      iterate 21 (refine ex_cons rfl ?_)
      refine ex_nil ?_
      iterate 21 (go_big_quiet_step (rfl))
      refine seg_nil ?_
      clear hg0 hg1 hg2
      refine wpE_one 19 (by kernel_rfl) rfl ?_
      go_wp2_with fail
      refine QE_intro (Below.refl _ _) ?_
      refine wpE_seg' [20, 26, 27] 0 rfl (by kernel_rfl) ?_
      refine seg_ex ?_
      iterate 3 (refine ex_cons rfl ?_)
      refine ex_nil ?_
      iterate 3 (go_big_quiet_step (rfl))
      refine seg_nil ?_
      refine wpE_tail [] (by kernel_rfl) ?_
      refine tail_nil ?_
      go_wp2
      go_ret2
      exact ⟨rfl, ext_trans hb k1E⟩
    · have hg5 : decide (k < 0) = false := decide_eq_false hk0
      obtain ⟨m, rfl⟩ : ∃ m : Nat, k = m := ⟨k.toNat, by omega⟩
      have hg6 : decide (bs.length ≤ m) = true := decide_eq_true (by omega)
      clear hik hin
      go_enter Try.func27, Try.ntmps27
      go_wp2_with fail
      refine wp_region_E (Array.replicate 28 true) 28 0 mixed (by rfl) ?_
      have kE0 := ext_drew (w.alloc (.cells #[.slice a1 bs.length c1, .slice a2 bs.length c2, .int .i64 (P : Nat)] tRadix))
      have hg0 := Gr.cell kE0 e0
      have hg1 := Gr.cell kE0 e1
      have hg2 := Gr.cell kE0 e2
      refine wpE_seg' [0, 1] 26 rfl (by kernel_rfl) ?_
      refine seg_ex ?_
      iterate 2 (refine ex_cons rfl ?_)
      refine ex_nil ?_
      iterate 2 (go_big_quiet_step (rfl))
      refine seg_nil ?_
      clear hg0 hg1 hg2
      refine wpE_one 2 (by kernel_rfl) rfl ?_
      go_wp2_with fail
      refine (IN.out _ (ext_trans hb kE0)).mono ?_
      rintro e k1w ⟨rfl, k1b⟩
      go_wp2_with fail
      refine QE_intro k1b ?_
      have k1E := ext_trans kE0 k1b
      have hg0 := Gr.cell k1E e0
      have hg1 := Gr.cell k1E e1
      have hg2 := Gr.cell k1E e2
      refine wpE_seg' [3, 4, 5, 6, 7, 8, 9, 10, 11, 12, 13, 14, 15, 16, 17, 18, 21, 22, 23, 24, 25] 4 rfl (by kernel_rfl) ?_
      refine seg_ex ?_
      iterate 21 (refine ex_cons rfl ?_)
      refine ex_nil ?_
      iterate 21 (go_big_quiet_step (rfl))
      refine seg_nil ?_
      clear hg0 hg1 hg2
      refine wpE_one 19 (by kernel_rfl) rfl ?_
      go_wp2_with fail
      refine QE_intro (Below.refl _ _) ?_
      refine wpE_seg' [20, 26, 27] 0 rfl (by kernel_rfl) ?_
      refine seg_ex ?_
      iterate 3 (refine ex_cons rfl ?_)
      refine ex_nil ?_
      iterate 3 (go_big_quiet_step (rfl))
      refine seg_nil ?_
      refine wpE_tail [] (by kernel_rfl) ?_
      refine tail_nil ?_
      go_wp2
      go_ret2
      exact ⟨rfl, ext_trans hb k1E⟩
  · rw [decide_eq_false hin] at IN
    clear hik hin
    go_enter Try.func27, Try.ntmps27
    go_wp2_with fail
    refine wp_region_E (Array.replicate 28 true) 28 0 mixed (by rfl) ?_
    have kE0 := ext_drew (w.alloc (.cells #[.slice a1 bs.length c1, .slice a2 bs.length c2, .int .i64 (P : Nat)] tRadix))
    have hg0 := Gr.cell kE0 e0
    have hg1 := Gr.cell kE0 e1
    have hg2 := Gr.cell kE0 e2
    refine wpE_seg' [0, 1] 26 rfl (by kernel_rfl) ?_
    refine seg_ex ?_
    iterate 2 (refine ex_cons rfl ?_)
    refine ex_nil ?_
    iterate 2 (go_big_quiet_step (rfl))
    refine seg_nil ?_
    clear hg0 hg1 hg2
    refine wpE_one 2 (by kernel_rfl) rfl ?_
    go_wp2_with fail
    refine (IN.out _ (ext_trans hb kE0)).mono ?_
    rintro e k1w ⟨rfl, k1b⟩
    go_wp2_with fail
    refine QE_intro k1b ?_
    have k1E := ext_trans kE0 k1b
    have hg0 := Gr.cell k1E e0
    have hg1 := Gr.cell k1E e1
    have hg2 := Gr.cell k1E e2
    refine wpE_seg' [3, 4, 5, 6, 7, 8, 9, 10, 11, 12, 13, 14, 15, 16, 17, 18, 21, 22, 23, 24, 25] 4 rfl (by kernel_rfl) ?_
    refine seg_ex ?_
    iterate 21 (refine ex_cons rfl ?_)
    refine ex_nil ?_
    iterate 21 (go_big_quiet_step (rfl))
    refine seg_nil ?_
    clear hg0 hg1 hg2
    refine wpE_one 19 (by kernel_rfl) rfl ?_
    go_wp2_with fail
    refine QE_intro (Below.refl _ _) ?_
    refine wpE_seg' [20, 26, 27] 0 rfl (by kernel_rfl) ?_
    refine seg_ex ?_
    iterate 3 (refine ex_cons rfl ?_)
    refine ex_nil ?_
    iterate 3 (go_big_quiet_step (rfl))
    refine seg_nil ?_
    refine wpE_tail [] (by kernel_rfl) ?_
    refine tail_nil ?_
    go_wp2
    go_ret2
    exact ⟨rfl, ext_trans hb k1E⟩
end Go.Proofs.Ytcabmibcgedhhaa

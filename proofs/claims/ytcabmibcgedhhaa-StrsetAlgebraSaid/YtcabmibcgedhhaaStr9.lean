/-
  The walks of the statements' helpers Is and awake.
-/
import Derived.Test.YtcabmibcgedhhaaStr4
import Derived.Test.YtcabmibcgedhhaaStr7
namespace Go.Proofs.Ytcabmibcgedhhaa
open Go.RowKit Go.Cd

set_option maxRecDepth 100000 in
set_option maxHeartbeats 3200000 in
theorem isT_ok {w : World} {v u : Value} {m l : List Txt} (h : SetV w v m) (hu : SlA w u (txs l)) (hmax : m.length < 1099511627776) :
    Calls Try.prog 59 #[v, u] w fun e w' => e = .returned (.bool (decide (m = l))) ∧ Below w.heap.size w w' := by
  obtain ⟨a, n0, cap, rfl, h, hn0⟩ := h.out
  have hb := below_new (w := w) (.cells #[.slice a n0 cap] tSet)
  have c0 : (w.alloc (.cells #[.slice a n0 cap] tSet)).cell? ⟨w.heap.size, 0, none⟩ = some (.slice a n0 cap) := by unfold World.cell?; rw [heap_alloc_new]; rfl
  obtain ⟨a2, cap2, rfl, _, hx2⟩ := SlA.outT hu
  obtain ⟨W0, hW⟩ : ∃ W0, W0 = w.alloc (.cells #[.slice a n0 cap] tSet) := ⟨_, rfl⟩
  rw [← hW] at hb c0
  have LI := Lib.hid (list_ok (w := W0) (v := .agg #[.slice a n0 cap]) ⟨_, rfl, h.mono hb⟩ hmax)
  have LE := fun (W : World) (E : Below w.heap.size w W) => Lib.hid (setLen_ok (w := W) (v := .agg #[.slice a n0 cap]) ⟨_, rfl, h.mono E⟩)
  have HX2 := Lib.hid hx2
  clear h hu hx2 hn0
  by_cases hlen : m.length = l.length
  · obtain ⟨n, hn⟩ : ∃ n, n = l.length := ⟨_, rfl⟩
    have HN := Lib.hid hn
    have HM := Lib.hid (hlen.trans hn.symm)
    rw [hlen, ← hn] at LI
    simp only [hlen, ← hn] at LE
    rw [← hn]
    have hmx : n < 1099511627776 := by omega
    clear hn hlen hmax
    go_enter Try.func59, Try.ntmps59
    go_wp2_with fail
    rw [← hW]
    clear hW
    refine LI.out.mono ?_
    rintro e w1 ⟨r1, rfl, o1, h1⟩
    have hE1 := hb.trans (h1.mono hb.size)
    have c1 := cellE h1 c0
    obtain ⟨a1, cap1, rfl, _, hx1⟩ := SlA.outTn (Sl.of_own o1).any HM.out.symm
    have HX1 := Lib.hid hx1
    have LE' := LE _ hE1
    clear LI LE hx1 o1 h1 c0 hb
    go_wp2_with fail
    refine LE'.out.mono ?_
    rintro e w2 ⟨rfl, h2⟩
    have hE2 := hE1.trans (h2.mono hE1.size)
    clear LE' c1
    go_wp2_with fail
    go_loopw [23] (fun i wr => ∃ k : Nat, k ≤ n ∧ i = .int .i64 k ∧ m.take k = l.take k ∧ Below w2.heap.size w2 wr) (fun i _ => n - (intOf i).toNat)
    case atStart => exact ⟨0, by omega, rfl, rfl, Below.refl _ _⟩
    case round =>
      obtain ⟨k, hk, rfl, htk, hq⟩ := hrel
      have HT := Lib.hid htk
      clear htk
      by_cases hlt : k < n
      · have hkl : k < l.length := by have := HN.out; omega
        have hkm : k < m.length := by have := HM.out; omega
        obtain ⟨b1, off1, rfl, hb1, hc1⟩ := HX1.out k hkm
        obtain ⟨b2, off2, rfl, hb2, hc2⟩ := HX2.out k hkl
        have hc1 := ((ext_trans h2 hq).cell (p := ⟨b1, off1 + k, none⟩) hb1).trans hc1
        have hc2 := ((hE2.trans (hq.mono hE2.size)).cell (p := ⟨b2, off2 + k, none⟩) hb2).trans hc2
        have HS := Lib.hid (List.take_succ_eq_append_getElem hkm)
        have HS2 := Lib.hid (List.take_succ_eq_append_getElem hkl)
        have HNE : ¬ m[k] = l[k] → ¬ m = l := fun h e => h (by subst e; rfl)
        generalize m[k] = s at *
        generalize l[k] = t at *
        have HNE := Lib.hid HNE
        have hg1 := Gr.cell (ext_drew wr) hc1
        have hg2 := Gr.cell (ext_drew wr) hc2
        go_wp2_with fail
        refine wp_region_E (Array.replicate 9 true) 9 0 mixed (by rfl) ?_
        refine wpE_seg' [0, 1, 2, 3, 4, 5, 6, 7, 8] 0 rfl (by kernel_rfl) ?_
        repeat (refine seg_cons rfl ?_; go_big_quiet_step (rfl))
        refine seg_nil ?_
        refine wpE_tail [] (by kernel_rfl) ?_
        refine tail_nil ?_
        by_cases hst : s = t
        · subst hst
          rw [show (!((sv s).toList == (sv s).toList)) = false by simp]
          go_wp2
          go_roundw
          case rel => exact ⟨k + 1, by omega, rfl, by rw [HS.out, HS2.out, HT.out], ext_trans hq (ext_drew wr)⟩
          case measure => simp [intOf]; omega
        · have HE := Lib.hid (decide_eq_false (HNE.out hst))
          rw [str_ne hst, Bool.not_false]
          go_wp2
          go_ret
          exact ⟨ret_bool HE.out.symm, hE2.trans ((ext_trans hq (ext_drew wr)).mono hE2.size)⟩
      · obtain rfl : k = n := by omega
        have he : m = l := by
          have := HT.out
          rw [List.take_of_length_le (by rw [HM.out]; exact Nat.le_refl _), List.take_of_length_le (by rw [HN.out]; exact Nat.le_refl _)] at this
          exact this
        have HE := Lib.hid (decide_eq_true he)
        go_wp2
        go_ret
        exact ⟨ret_bool HE.out.symm, hE2.trans (hq.mono hE2.size)⟩
  · have hne : ¬ m = l := fun e => hlen (by rw [e])
    have HE := Lib.hid (decide_eq_false hne)
    rw [HE.out]
    have hz : ((m.length : Int) == l.length) = false := by simp; omega
    clear LE hne
    go_enter Try.func59, Try.ntmps59
    go_wp2_with fail
    rw [← hW]
    clear hW
    refine LI.out.mono ?_
    rintro e w1 ⟨r1, rfl, o1, h1⟩
    have hE1 := hb.trans (h1.mono hb.size)
    obtain ⟨a1, cap1, rfl, _, hx1⟩ := SlA.outT (Sl.of_own o1).any
    clear LI hx1 o1 h1 c0 hb
    go_wp2
    go_ret
    exact ⟨rfl, hE1⟩
end Go.Proofs.Ytcabmibcgedhhaa

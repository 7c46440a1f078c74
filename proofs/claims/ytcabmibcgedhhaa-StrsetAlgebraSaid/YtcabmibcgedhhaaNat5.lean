/-
  The walks of the layer nat: Few, Equal, Same.
-/
import Derived.Test.YtcabmibcgedhhaaNat4
import Derived.Test.YtcabmibcgedhhaaShelf
namespace Go.Proofs.Ytcabmibcgedhhaa
open Go.RowKit Go.Cd

set_option maxRecDepth 100000 in
set_option maxHeartbeats 800000 in
theorem few_ok {w : World} {v : Value} {l : List Nat} (h : SlA w v (u32s l)) :
    Calls Try.prog 31 #[v] w fun e w' => ∃ r, e = .returned r ∧ w'.ownsRow w.heap.size eU32 1 r (l.take 40).length (u32s (l.take 40)) ∧ Below w.heap.size w w' := by
  obtain ⟨a, cap, rfl, hc, hr⟩ := id h
  have hl := length_u32s l
  rw [hl] at h hc
  rw [hl]
  have hcut : 40 < l.length → SlA w (.slice a 40 cap) (u32s (l.take 40)) := fun h40 => by
    have hlen : (u32s (l.take 40)).length = 40 := by simp; omega
    refine ⟨a, cap, by rw [hlen], by rw [hlen]; omega, ?_⟩
    rcases hr with hr | ⟨b, off, cs, e, fr, ha, hh, hx⟩
    · exfalso; have := congrArg List.length hr.1; simp at this; rw [this] at h40; simp at h40
    · refine .inr ⟨b, off, cs, e, fr, ha, hh, fun i hi => ?_⟩
      rw [hx i (by simp at hi ⊢; omega)]
      simp [u32s]
  have H := Lib.hid h
  have HC := Lib.hid hcut
  clear h hcut hr
  by_cases h40 : 40 < l.length
  · go_enter Try.func31, Try.ntmps31
    go_wp2_with (at_builtin; refine wpList_append_sl rfl _ _ 40 rfl w.heap.size eU32 _ 4 elemU32 (.slice (some ⟨w.heap.size, 0, none⟩) 0 0) 0 [] rfl (own_empty _ _) _ (u32s (l.take 40)) rfl ((HC.out h40).mono (below_new _)) (oneCell_u32s _) (by simp [maxLen]; omega) (by simp; omega) (by simp) ?_; intro v' w' hown' hgrow)
    rw [length_u32s, Nat.zero_add, List.nil_append] at hown'
    go_wp2
    go_ret
    exact ⟨_, rfl, hown', (below_new _).grown hgrow (by simp) (fun k hk => Nat.le_of_eq (Option.some.inj hk))⟩
  · have e40 : l.take 40 = l := List.take_of_length_le (by omega)
    rw [e40]
    go_enter Try.func31, Try.ntmps31
    go_wp2_with (at_builtin; refine wpList_append_sl rfl _ _ 40 rfl w.heap.size eU32 _ 4 elemU32 (.slice (some ⟨w.heap.size, 0, none⟩) 0 0) 0 [] rfl (own_empty _ _) _ (u32s l) rfl (H.out.mono (below_new _)) (oneCell_u32s _) (by simp [maxLen]; omega) (by simp; omega) (by simp) ?_; intro v' w' hown' hgrow)
    rw [length_u32s, Nat.zero_add, List.nil_append] at hown'
    go_wp2
    go_ret
    exact ⟨_, rfl, hown', (below_new _).grown hgrow (by simp) (fun k hk => Nat.le_of_eq (Option.some.inj hk))⟩

theorem val_inj {k : IntKind} {a b : Int} (h : Value.int k a = Value.int k b) : a = b := by cases h; rfl

set_option maxRecDepth 100000 in
set_option maxHeartbeats 800000 in
/-- slices.Equal at []uint32. -/
theorem equal_ok {w : World} {v u : Value} {l m : List Nat} (h : Sl eU32 w v (u32s l)) (k : Sl eU32 w u (u32s m)) (hmax : l.length < 1099511627776) :
    Calls Try.prog 85 #[v, u] w fun e w' => e = .returned (.bool (decide (l = m))) ∧ Below w.heap.size w w' := by
  obtain ⟨a, cap, rfl, hc, hr⟩ := h.out
  obtain ⟨a2, cap2, rfl, hc2, hr2⟩ := k.out
  simp only [length_u32s] at *
  clear h k
  by_cases hlen : l.length = m.length
  · have hcell : ∀ i (hi : i < l.length) (hj : i < m.length), ∃ b off b2 off2, a = some ⟨b, off, none⟩ ∧ a2 = some ⟨b2, off2, none⟩ ∧ w.cell? ⟨b, off + i, none⟩ = some (.int .u32 (l[i] : Nat)) ∧ w.cell? ⟨b2, off2 + i, none⟩ = some (.int .u32 (m[i] : Nat)) := fun i hi hj => by
      obtain ⟨b, off, ha, _, h1⟩ := hr i hi
      obtain ⟨b2, off2, ha2, _, h2⟩ := hr2 i (by omega)
      rw [u32s_getElem _ _ hi] at h1
      rw [u32s_getElem _ _ (by omega)] at h2
      exact ⟨b, off, b2, off2, ha, ha2, h1, h2⟩
    have HCell := Lib.hid hcell
    have HLen := Lib.hid hlen
    obtain ⟨n, hn⟩ : ∃ n, n = l.length := ⟨_, rfl⟩
    have HN := Lib.hid hn
    rw [← hlen, ← hn]
    rw [← hn] at hmax
    clear hcell hr hr2 hlen hn hc hc2
    go_enter Try.func85, Try.ntmps85
    go_wp2_with fail
    go_loopw [13] (fun i wr => ∃ k : Nat, k ≤ n ∧ i = .int .i64 k ∧ l.take k = m.take k ∧ Below w.heap.size w wr) (fun i _ => n - (intOf i).toNat)
    case atStart => exact ⟨0, by omega, rfl, rfl, Below.refl _ _⟩
    case round =>
      obtain ⟨k, hk, rfl, htk, hb⟩ := hrel
      have HT := Lib.hid htk
      clear htk
      by_cases hlt : k < n
      · obtain ⟨b, off, b2, off2, rfl, rfl, h1, h2⟩ := HCell.out k (by have := HN.out; omega) (by have := HN.out; have := HLen.out; omega)
        obtain ⟨d, hd⟩ : ∃ d, d = l[k]'(by have := HN.out; omega) := ⟨_, rfl⟩
        obtain ⟨d2, hd2⟩ : ∃ d, d = m[k]'(by have := HN.out; have := HLen.out; omega) := ⟨_, rfl⟩
        rw [← hd] at h1
        rw [← hd2] at h2
        have HD := Lib.hid hd
        have HD2 := Lib.hid hd2
        have hg1 := Gr.cell (ext_trans hb (ext_drew wr)) h1
        have hg2 := Gr.cell (ext_trans hb (ext_drew wr)) h2
        clear hd hd2
        go_wp2_with fail
        refine wp_region_E (Array.replicate 9 true) 9 0 mixed (by rfl) ?_
        refine wpE_seg' [0, 1, 2, 3, 4, 5, 6, 7, 8] 0 rfl (by kernel_rfl) ?_
        repeat (refine seg_cons rfl ?_; go_big_quiet_step (rfl))
        refine seg_nil ?_
        refine wpE_tail [] (by kernel_rfl) ?_
        refine tail_nil ?_
        by_cases hdd : d = d2
        · subst hdd
          go_wp2
          go_roundw
          case rel =>
            refine ⟨k + 1, by omega, rfl, ?_, ext_trans hb (ext_drew wr)⟩
            rw [List.take_succ_eq_append_getElem (by have := HN.out; omega), List.take_succ_eq_append_getElem (by have := HN.out; have := HLen.out; omega), HT.out, ← HD.out, ← HD2.out]
          case measure => simp [intOf]; omega
        · have hz : ((d : Int) == d2) = false := by simp; omega
          have hne : ¬ l = m := fun e => hdd (by rw [HD.out, HD2.out]; subst e; rfl)
          have HE := Lib.hid (decide_eq_false hne)
          go_wp2
          go_ret
          exact ⟨ret_bool HE.out.symm, ext_trans hb (ext_drew wr)⟩
      · obtain rfl : k = n := by omega
        have he : l = m := by
          have := HT.out
          rw [List.take_of_length_le (by rw [HN.out]; exact Nat.le_refl _), List.take_of_length_le (by rw [HN.out, HLen.out]; exact Nat.le_refl _)] at this
          exact this
        have HE := Lib.hid (decide_eq_true he)
        go_wp2
        go_ret
        exact ⟨ret_bool HE.out.symm, hb⟩
  · have hne : ¬ l = m := fun e => hlen (by rw [e])
    have HE := Lib.hid (decide_eq_false hne)
    rw [HE.out]
    have hz : ((l.length : Int) == m.length) = false := by simp; omega
    go_enter Try.func85, Try.ntmps85
    go_wp2
    go_ret
    exact ⟨rfl, Below.refl _ _⟩

theorem NatV.sl {w : World} {s : Value} {x : Nat} (h : NatV w (.agg #[s]) x) : Sl eU32 w s (u32s (digs B x)) := by
  obtain ⟨s', hs, h⟩ := h
  simp at hs
  rw [hs]; exact h

set_option maxRecDepth 100000 in
set_option maxHeartbeats 800000 in
theorem same_ok {w : World} {v u : Value} {x y : Nat} (h : NatV w v x) (k : NatV w u y) (hx : (digs B x).length < 1099511627776) :
    Calls Try.prog 41 #[v, u] w fun e w' => e = .returned (.bool (decide (x = y))) ∧ Below w.heap.size w w' := by
  obtain ⟨a, n, cap, rfl, h⟩ := h.out
  obtain ⟨a2, n2, cap2, rfl, k⟩ := k.out
  have l1 := fun (W : World) (E : Below w.heap.size w W) => equal_ok ((NatV.sl h).mono E) ((NatV.sl k).mono E) hx
  have hd : decide (digs B x = digs B y) = decide (x = y) := by
    rw [decide_eq_decide]; exact ⟨fun e => digs_inj two_le_B e, fun e => by rw [e]⟩
  rw [hd] at l1
  have L1 := Lib.hid l1
  clear l1 hd h k
  go_enter Try.func41, Try.ntmps41
  go_wp2_with fail
  refine (L1.out _ (below2 _ _)).mono ?_
  rintro e w1 ⟨rfl, hb⟩
  go_wp2
  go_ret
  exact ⟨rfl, ext_trans (below2 _ _) hb⟩

end Go.Proofs.Ytcabmibcgedhhaa

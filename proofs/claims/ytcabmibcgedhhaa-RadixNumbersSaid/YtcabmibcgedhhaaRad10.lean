/-
  The reference's product, and where its result lies.
-/
import Derived.Test.YtcabmibcgedhhaaRef5
namespace Go.Proofs.Ytcabmibcgedhhaa
open Go.RowKit Go.Cd

/-- The slice's block is not below n. -/
def From (n : Nat) (v : Value) : Prop := ∀ b off m cap, v = .slice (some ⟨b, off, none⟩) m cap → n ≤ b

theorem From.own {w : World} {base n : Nat} {e : TypeId} {v r : Value} {xs : List Value} (h : w.ownsRow base e 1 v n xs) (hs : ∃ a m m' cap, v = .slice a m cap ∧ r = .slice a m' cap) : From base r := by
  obtain ⟨a, m, m', cap, rfl, rfl⟩ := hs
  rintro b off m2 cap2 hv
  simp only [Value.slice.injEq] at hv
  obtain ⟨rfl, _, rfl⟩ := hv
  exact (h.lt b rfl).1

theorem trim10_same {w : World} {v : Value} {l : List Nat} (h : Sl eInt w v (ds l)) (hl : ∀ d ∈ l, d < 10) (hmax : l.length < 1099511627776) :
    Calls Try.prog 83 #[v] w fun e w' => ∃ r, e = .returned r ∧ DecV w' r (val 10 l) ∧ (∃ a m m' cap, v = .slice a m cap ∧ r = .slice a m' cap) ∧ Below w.heap.size w w' := by
  obtain ⟨a, cap, rfl, hc, hr⟩ := h
  rw [length_ds] at *
  rcases hr with ⟨hr, ha⟩ | ⟨b, off, cs, fr, rfl, hh, hx⟩
  · obtain rfl : l = [] := by simpa [ds] using hr
    refine (trim10_none a cap w).mono ?_
    rintro e w' ⟨rfl, rfl⟩
    exact ⟨_, rfl, by unfold DecV; rw [show val 10 [] = 0 from rfl, digs_zero]; exact .nil _ _ _ _ ha, ⟨_, _, _, _, rfl, rfl⟩, Below.refl _ _⟩
  · refine (trim10_block b off l.length cap l w rfl hmax hc fun i hi => ?_).mono ?_
    · unfold World.cell?
      rw [hh]
      have := hx i (by simpa using hi)
      rw [ds_getElem _ _ hi] at this
      simpa using this
    · rintro e w' ⟨n, hn, hz, h0, rfl, rfl⟩
      have e1 : digs 10 (val 10 l) = l.take n := digs_val_take (by omega) l n hl (fun d hd => by
        obtain ⟨j, hj, rfl⟩ := List.mem_iff_getElem.1 hd
        rw [List.getElem_drop]
        exact hz _ (by omega) _) hn h0
      refine ⟨_, rfl, ?_, ⟨_, _, _, _, rfl, rfl⟩, Below.refl _ _⟩
      unfold DecV
      rw [e1]
      have hlen : (ds (l.take n)).length = n := by simp; omega
      refine ⟨_, cap, by rw [hlen], by rw [hlen]; omega, .inr ⟨b, off, cs, fr, rfl, hh, fun i hi => ?_⟩⟩
      rw [hlen] at hi
      rw [hx i (by simp; omega)]
      simp [ds]

set_option maxRecDepth 100000 in
set_option maxHeartbeats 1600000 in
theorem refMul_fresh {w : World} {v u : Value} {x y : Nat} (h : DecV w v x) (g : DecV w u y) (hx : (digs 10 x).length < 268435456) (hy : (digs 10 y).length < 268435456) :
    Calls Try.prog 35 #[v, u] w fun e w' => ∃ r, e = .returned r ∧ DecV w' r (x * y) ∧ From w.heap.size r ∧ Below w.heap.size w w' := by
  obtain ⟨x1, cp1, rfl, _, hx1⟩ := Sl.outD h
  obtain ⟨x2, cp2, rfl, _, hx2⟩ := Sl.outD g
  have vx := val_digs (b := 10) (by omega) x
  have vy := val_digs (b := 10) (by omega) y
  have lx := digs_lt (b := 10) (by omega) x
  have ly := digs_lt (b := 10) (by omega) y
  have hxy : x * y < 10 ^ ((digs 10 x).length + (digs 10 y).length) := by
    rw [Nat.pow_add]
    have h1 := (len_digs_le (b := 10) (by omega) (x := x)).1 (Nat.le_refl _)
    have h2 := (len_digs_le (b := 10) (by omega) (x := y)).1 (Nat.le_refl _)
    exact Nat.mul_lt_mul_of_lt_of_lt h1 h2
  generalize digs 10 x = X at *
  generalize digs 10 y = Y at *
  have VX := Lib.hid vx
  have VY := Lib.hid vy
  have LX := Lib.hid lx
  have LY := Lib.hid ly
  have HX1 := Lib.hid hx1
  have HX2 := Lib.hid hx2
  have HXY := Lib.hid hxy
  clear h g hx1 hx2 vx vy lx ly hxy
  go_enter Try.func35, Try.ntmps35
  go_wp2_with (at_make; refine wpList_make_sl _ rfl _ _ 22 rfl w.heap.size eInt _ 8 elemInt rfl .i64 .i64 _ _ (X.length + Y.length + 1) rfl rfl (by omega) (by omega) (by omega) (by unfold maxLen; omega) (by simp) ?_; intro w3 hown hgrow)
  have hB3 := grown_ext hgrow
  clear hgrow
  go_loopw [6] (fun i wr => ∃ (j : Nat) (l : List Nat), j ≤ X.length ∧ i = .int .i64 j ∧ l.length = X.length + Y.length + 1 ∧ (∀ d ∈ l, d ≤ 81 * j) ∧ val 10 l = val 10 (X.take j) * y ∧
      wr.ownsRow w.heap.size eInt 1 (.slice (some ⟨w.heap.size, 0, none⟩) (X.length + Y.length + 1) (X.length + Y.length + 1)) (X.length + Y.length + 1) (ds l) ∧ Below w.heap.size w wr)
    (fun i _ => X.length - (intOf i).toNat)
  case atStart =>
    refine ⟨0, List.replicate (X.length + Y.length + 1) 0, Nat.zero_le _, rfl, by simp, ?_, by simp [val_zeros, val], by simpa [ds] using hown, hB3⟩
    intro d hd; rw [(List.mem_replicate.1 hd).2]; omega
  case round =>
    obtain ⟨j, l, hj, rfl, hl, hlt, hv, hO, hE⟩ := hrel
    by_cases hjX : j < X.length
    · obtain ⟨b1, off1, rfl, hb1, hc1⟩ := HX1.out j hjX
      have hp : X[j] < 10 := LX.out _ (List.getElem_mem _)
      have HV := Lib.hid hv
      have HLT := Lib.hid hlt
      generalize hP : X[j] = p at *
      have HPX := Lib.hid hP
      clear hv hlt hP
      go_wp2_with fail
      go_loopw [7] (fun k wr' => ∃ (t : Nat) (l : List Nat), t ≤ Y.length ∧ k = .int .i64 t ∧ l.length = X.length + Y.length + 1 ∧ (∀ d ∈ l, d ≤ 81 * (j + 1)) ∧ (∀ s, j + t ≤ s → l[s]?.getD 0 ≤ 81 * j) ∧
          val 10 l = val 10 (X.take j) * y + p * 10 ^ j * val 10 (Y.take t) ∧
          wr'.ownsRow w.heap.size eInt 1 (.slice (some ⟨w.heap.size, 0, none⟩) (X.length + Y.length + 1) (X.length + Y.length + 1)) (X.length + Y.length + 1) (ds l) ∧ Below w.heap.size w wr')
        (fun k _ => Y.length - (intOf k).toNat)
      case atStart =>
        refine ⟨0, l, Nat.zero_le _, rfl, hl, fun d hd => by have := HLT.out d hd; omega, fun s _ => ?_, by simp [val]; exact HV.out, hO, hE⟩
        cases hs : l[s]? with
        | none => simp
        | some d => simp only [Option.getD_some]; exact HLT.out d (List.mem_of_getElem? hs)
      case round =>
        clear HV HLT hO hE
        obtain ⟨t, l2, ht, rfl, hl2, hlt2, hz2, hv2, hO2, hE2⟩ := hrel
        have HV2 := Lib.hid hv2
        have HLT2 := Lib.hid hlt2
        have HZ2 := Lib.hid hz2
        clear hv2 hlt2 hz2
        by_cases htY : t < Y.length
        · obtain ⟨b2, off2, rfl, hb2, hc2⟩ := HX2.out t htY
          have hc2 := (hE2.cell (p := ⟨b2, off2 + t, none⟩) hb2).trans hc2
          have hc1 := (hE2.cell (p := ⟨b1, off1 + j, none⟩) hb1).trans hc1
          have hq : Y[t] < 10 := LY.out _ (List.getElem_mem _)
          obtain ⟨hcell, hfr⟩ := own_at hO2 (j := j + t) (by simp; omega)
          rw [ds_getElem _ _ (by omega)] at hcell
          have ho : l2[j + t] ≤ 81 * j := by have := HZ2.out (j + t) (Nat.le_refl _); rwa [List.getElem?_eq_getElem (by omega)] at this
          generalize hQ : Y[t] = q at *
          generalize hOO : l2[j + t] = o at *
          have HQ := Lib.hid hQ
          have HOO := Lib.hid hOO
          have hpq : p * q ≤ 81 := Nat.mul_le_mul (show p ≤ 9 by omega) (show q ≤ 9 by omega)
          obtain ⟨m, hpm, hm⟩ : ∃ m : Nat, (p : Int) * q = m ∧ m = p * q := ⟨_, (Int.natCast_mul _ _).symm, rfl⟩
          have hm81 : m ≤ 81 := by omega
          have HM := Lib.hid hm
          clear hm hpq
          have HS := Lib.hid (fun (u : Value) => (hO2.stored (j + t) u).1)
          have hfr3 : wr.drew.frozen? ⟨w.heap.size, j + t, none⟩ = false := hfr
          have hcell3 : wr.drew.cell? ⟨w.heap.size, j + t, none⟩ = some (.int .i64 o) := hcell
          clear hQ hOO hO2
          go_wp2_with fail
          refine wp_region_E #[true, true, true, true, true, true, true, true, true, true, true, true, true, true, true, true, true, false] 17 1 mixed (by rfl) ?_
          have hg1 := Gr.cell (ext_drew wr) hc1
          have hg2 := Gr.cell (ext_drew wr) hc2
          have hg3 := Gr.cell (ext_drew wr) hcell
          refine wpE_seg' [0, 1, 2, 3, 4, 5, 6, 7, 8, 9, 10, 11, 12, 13, 14, 15, 16] 0 rfl (by kernel_rfl) ?_
          iterate 17 (refine seg_cons rfl ?_; go_big_quiet_step (rfl))
          refine seg_nil ?_
          clear hg1 hg2 hg3
          refine wpE_tail [17] (by kernel_rfl) ?_
          refine tail_cons rfl ?_
          go_wp2_with fail
          refine tail_nil ?_
          go_wp2
          go_roundw
          case rel =>
            have e4 := val_take_succ 10 Y t htY
            rw [HQ.out] at e4
            have e5 : p * 10 ^ j * val 10 (Y.take (t + 1)) = p * 10 ^ j * val 10 (Y.take t) + m * 10 ^ (j + t) := by
              rw [e4, Nat.mul_add, Nat.pow_add, HM.out]
              congr 1
              rw [Nat.mul_assoc, Nat.mul_assoc, Nat.mul_left_comm (10 ^ j)]
            have e6 : (o : Int) + m = ((o + m : Nat) : Int) := by omega
            have e7 := val_set 10 l2 (j + t) (o + m) (by omega)
            rw [List.getElem?_eq_getElem (by omega), Option.getD_some, HOO.out, Nat.add_mul] at e7
            have e8 := HV2.out
            rw [e6]
            refine ⟨t + 1, l2.set (j + t) (o + m), by omega, rfl, by simp; exact hl2, le_of_mem_set HLT2.out (by omega), fun z hz => ?_, ?_, ?_, ?_⟩
            · rw [getD_set_ne (by omega)]; exact HZ2.out z (by omega)
            · rw [e5]; omega
            · rw [← ds_set]; exact own_ext (HS.out _) (ext_drew _)
            · exact (below_put hE2 (Nat.le_refl _)).trans (below_drew _)
          case measure => simp [intOf]; omega
        · obtain rfl : t = Y.length := by omega
          clear hc1
          go_wp2
          go_roundw
          case rel =>
            have e8 := HV2.out
            rw [List.take_length, VY.out] at e8
            have e4 := val_take_succ 10 X j hjX
            rw [HPX.out] at e4
            exact ⟨j + 1, l2, by omega, rfl, hl2, HLT2.out, by rw [e4, Nat.add_mul]; exact e8, hO2, hE2⟩
          case measure => simp [intOf]; omega
    · obtain rfl : j = X.length := by omega
      rw [List.take_length, VX.out] at hv
      have hM : ∀ s : Nat, l[s]?.getD 0 ≤ 81 * X.length := fun s => by
        cases hs : l[s]? with
        | none => simp
        | some d => simp only [Option.getD_some]; exact hlt d (List.mem_of_getElem? hs)
      have HM := Lib.hid hM
      have HV := Lib.hid hv
      clear hlt hv hM
      go_wp2_with fail
      go_loopw [8] (fun k wr' => ∃ (t : Nat) (l : List Nat), t ≤ X.length + Y.length ∧ k = .int .i64 t ∧ l.length = X.length + Y.length + 1 ∧ (∀ s, s < t → l[s]?.getD 0 < 10) ∧ l[t]?.getD 0 ≤ 162 * X.length ∧ (∀ s, t < s → l[s]?.getD 0 ≤ 81 * X.length) ∧ val 10 l = x * y ∧
          wr'.ownsRow w.heap.size eInt 1 (.slice (some ⟨w.heap.size, 0, none⟩) (X.length + Y.length + 1) (X.length + Y.length + 1)) (X.length + Y.length + 1) (ds l) ∧ Below w.heap.size w wr')
        (fun k _ => X.length + Y.length - (intOf k).toNat)
      case atStart => exact ⟨0, l, Nat.zero_le _, rfl, hl, fun s hs => by omega, by have := HM.out 0; omega, fun s _ => HM.out s, HV.out, hO, hE⟩
      case round =>
        clear HV HM hO hE
        obtain ⟨t, l2, ht, rfl, hl2, hlt2, hc2, hz2, hv2, hO2, hE2⟩ := hrel
        have HV2 := Lib.hid hv2
        have HLT2 := Lib.hid hlt2
        have HZ2 := Lib.hid hz2
        clear hv2 hlt2 hz2
        by_cases htN : t < X.length + Y.length
        · obtain ⟨hcell, hfr⟩ := own_at hO2 (j := t) (by simp; omega)
          obtain ⟨hcell1, hfr1⟩ := own_at hO2 (j := t + 1) (by simp; omega)
          rw [ds_getElem _ _ (by omega)] at hcell hcell1
          have hd := HZ2.out (t + 1) (by omega)
          have hon := carry_on 10 l2 t (by omega)
          rw [List.getElem?_eq_getElem (show t < l2.length by omega), Option.getD_some] at hc2 hon
          rw [List.getElem?_eq_getElem (show t + 1 < l2.length by omega), Option.getD_some] at hd hon
          have HS := Lib.hid (fun (u u' : Value) => ((own_ext (hO2.stored (t + 1) u).1 (ext_drew _)).stored t u').1)
          generalize l2[t] = c at *
          generalize l2[t + 1] = d at *
          have HON := Lib.hid hon
          have hfr3 : ∀ u, (wr.setCell ⟨w.heap.size, t + 1, none⟩ u).drew.frozen? ⟨w.heap.size, t, none⟩ = false := fun u => by rw [← hfr]; exact World.frozen?_setCell wr ⟨w.heap.size, t + 1, none⟩ ⟨w.heap.size, t, none⟩ u
          have hcell3 : ∀ u, (wr.setCell ⟨w.heap.size, t + 1, none⟩ u).drew.cell? ⟨w.heap.size, t, none⟩ = some (.int .i64 c) := fun u => by rw [← hcell]; exact World.cell?_setCell_other wr ⟨w.heap.size, t + 1, none⟩ ⟨w.heap.size, t, none⟩ u (by simp)
          clear hO2 hon
          go_wp2_with fail
          refine wp_region_E #[true, true, true, true, true, true, true, true, true, true, true, true, false] 12 1 mixed (by rfl) ?_
          have hg1 := Gr.cell (ext_drew wr) hcell
          have hg2 := Gr.cell (ext_drew wr) hcell1
          refine wpE_seg' [0, 1, 2, 3, 4, 5, 6, 7, 8, 9, 10, 11] 0 rfl (by kernel_rfl) ?_
          iterate 12 (refine seg_cons rfl ?_; go_big_quiet_step (rfl))
          refine seg_nil ?_
          clear hg1 hg2
          refine wpE_tail [12] (by kernel_rfl) ?_
          refine tail_cons rfl ?_
          go_wp2_with fail
          refine tail_nil ?_
          go_wp2
          go_roundw
          case rel =>
            have e1 : (d : Int) + (c : Int) / 10 = ((d + c / 10 : Nat) : Int) := by omega
            have e2 : (c : Int) % 10 = ((c % 10 : Nat) : Int) := by omega
            rw [e1, e2]
            refine ⟨t + 1, (l2.set (t + 1) (d + c / 10)).set t (c % 10), by omega, rfl, by simp; exact hl2, fun s hs => ?_, ?_, fun s hs => ?_, HON.out.trans HV2.out, ?_, ?_⟩
            · by_cases hst : s = t
              · subst hst; rw [getD_set_eq (by simp; omega)]; omega
              · rw [getD_set_ne (by omega), getD_set_ne (by omega)]; exact HLT2.out s (by omega)
            · rw [getD_set_ne (by omega), getD_set_eq (by omega)]; omega
            · rw [getD_set_ne (by omega), getD_set_ne (by omega)]; exact HZ2.out s (by omega)
            · rw [← ds_set, ← ds_set]; exact HS.out _ _
            · exact below_put ((below_put hE2 (Nat.le_refl _)).trans (below_drew _)) (Nat.le_refl _)
          case measure => simp [intOf]; omega
        · obtain rfl : t = X.length + Y.length := by omega
          have hall : ∀ d ∈ l2, d < 10 := fun d hd => by
            obtain ⟨s, hs, rfl⟩ := List.mem_iff_getElem.1 hd
            by_cases hst : s < X.length + Y.length
            · have := HLT2.out s hst
              rwa [List.getElem?_eq_getElem hs, Option.getD_some] at this
            · obtain rfl : s = X.length + Y.length := by omega
              have h1 := val_ge 10 l2 _ hs
              rw [HV2.out] at h1
              have h2 := HXY.out
              rcases Nat.eq_zero_or_pos l2[X.length + Y.length] with h0 | h0
              · omega
              · have h3 := Nat.le_mul_of_pos_left (10 ^ (X.length + Y.length)) h0
                omega
          clear hc2
          go_wp2_with fail
          refine (trim10_same (Sl.of_own hO2) hall (by omega)).mono ?_
          rintro e w4 ⟨r4, rfl, hr4, hsame, hb4⟩
          have hfrom := From.own hO2 hsame
          rw [HV2.out] at hr4
          clear hall hO2
          go_wp2
          go_ret
          exact ⟨_, rfl, hr4, hfrom, hE2.trans (hb4.mono hE2.size)⟩
end Go.Proofs.Ytcabmibcgedhhaa

/-
  The walks of the reference's arithmetic on decimal digits: Num, Add, Sub, Compare; Is.
-/
import Derived.Test.YtcabmibcgedhhaaDoorRef2
namespace Go.Proofs.YtcabmibcgedhhaaDoor
open Go.RowKit Go.Cd

theorem digL_digs {b : Nat} (hb : 2 ≤ b) (x : Nat) : digL b x (digs b x).length = digs b x := by
  apply List.ext_getElem (by simp)
  intro i h1 h2
  have := dig_eq hb x i
  rw [List.getElem?_eq_getElem h2] at this
  simp only [Option.getD_some] at this
  simp [digL, this]

set_option maxRecDepth 100000 in
set_option maxHeartbeats 1600000 in
theorem refCompare_ok {w : World} {v u : Value} {x y : Nat} (h : DecV w v x) (g : DecV w u y) (hx : (digs 10 x).length < 1073741824) (hy : (digs 10 y).length < 1073741824) :
    Calls Tryd.prog 35 #[v, u] w fun e w' => e = .returned (.int .i64 (cmpN x y)) ∧ Below w.heap.size w w' := by
  obtain ⟨a, cap, rfl, hc, hr⟩ := Sl.out h
  obtain ⟨a2, cap2, rfl, hc2, hr2⟩ := Sl.out g
  simp only [length_ds] at *
  have hcl : ∀ k, k < (digs 10 x).length → k < (digs 10 y).length → ∃ b off b2 off2, a = some ⟨b, off, none⟩ ∧ a2 = some ⟨b2, off2, none⟩ ∧ w.cell? ⟨b, off + k, none⟩ = some (.int .i64 (dig 10 x k : Nat)) ∧ w.cell? ⟨b2, off2 + k, none⟩ = some (.int .i64 (dig 10 y k : Nat)) := fun k hk hk2 => by
    obtain ⟨b, off, ha, _, hcell⟩ := hr k hk
    obtain ⟨b2, off2, ha2, _, hcell2⟩ := hr2 k hk2
    have e : ∀ (x : Nat) (hk : k < (digs 10 x).length), (ds (digs 10 x))[k]'(by simpa using hk) = .int .i64 (dig 10 x k : Nat) := fun x hk => by
      have := dig_eq (b := 10) (by omega) x k
      rw [List.getElem?_eq_getElem hk] at this
      simp only [Option.getD_some] at this
      simp [ds, this]
    rw [e x hk] at hcell
    rw [e y hk2] at hcell2
    exact ⟨b, off, b2, off2, ha, ha2, hcell, hcell2⟩
  have HCl := Lib.hid hcl
  have hlt := lt_of_len_lt (b := 10) (by omega) (x := x) (y := y)
  have hgt := lt_of_len_lt (b := 10) (by omega) (x := y) (y := x)
  have hst : x / 10 ^ (digs 10 x).length = 0 := div_zero_of_len (by omega) (Nat.le_refl _)
  have hst2 : y / 10 ^ (digs 10 y).length = 0 := div_zero_of_len (by omega) (Nat.le_refl _)
  clear h g hcl hr hr2
  generalize (digs 10 x).length = L at *
  generalize (digs 10 y).length = L2 at *
  rcases Nat.lt_trichotomy L L2 with hl | hl | hl
  · have hz : ((L : Int) == L2) = false := by simp; omega
    have HX := Lib.hid (cmp_of_lt (hlt hl))
    rw [HX.out]
    clear hst hst2 hlt hgt
    go_enter Tryd.func35, Tryd.ntmps35
    go_wp2
    go_ret
    exact ⟨rfl, Below.refl _ _⟩
  · subst hl
    have HST := Lib.hid (hst.trans hst2.symm)
    clear hst hst2 hlt hgt
    go_enter Tryd.func35, Tryd.ntmps35
    go_wp2_with fail
    go_loopw [5] (fun i wr => ∃ k : Nat, k ≤ L ∧ i = .int .i64 ((k : Int) - 1) ∧ x / 10 ^ k = y / 10 ^ k ∧ Below w.heap.size w wr) (fun i _ => ((intOf i) + 1).toNat)
    case atStart => exact ⟨L, Nat.le_refl _, rfl, HST.out, Below.refl _ _⟩
    case round =>
      obtain ⟨k, hk, rfl, hq, hb⟩ := hrel
      have HQ := Lib.hid hq
      clear hq
      by_cases hk0 : 0 < k
      · obtain ⟨j, rfl⟩ : ∃ j, k = j + 1 := ⟨k - 1, by omega⟩
        have e1 : ((j + 1 : Nat) : Int) - 1 = j := by omega
        rw [e1]
        obtain ⟨b, off, b2, off2, rfl, rfl, h1, h2⟩ := HCl.out j (by omega) (by omega)
        have hl1 := lt_of_dig (b := 10) HQ.out
        have hl2 := lt_of_dig (b := 10) HQ.out.symm
        have hdv1 := div_succ (b := 10) x j
        have hdv2 := div_succ (b := 10) y j
        generalize dig 10 x j = d at *
        generalize dig 10 y j = d2 at *
        have HL1 := Lib.hid hl1
        have HL2 := Lib.hid hl2
        have HD1 := Lib.hid hdv1
        have HD2 := Lib.hid hdv2
        have hE1 := ext_trans hb (ext_drew wr)
        have hg1 := Gr.cell hE1 h1
        have hg2 := Gr.cell hE1 h2
        clear hl1 hl2 hdv1 hdv2 e1
        go_wp2_with fail
        refine wp_region_E (Array.replicate 9 true) 9 0 mixed (by rfl) ?_
        refine wpE_seg' [0, 1, 2, 3, 4, 5, 6, 7, 8] 0 rfl (by kernel_rfl) ?_
        iterate 9 (refine seg_cons rfl ?_; go_big_quiet_step (rfl))
        refine seg_nil ?_
        refine wpE_tail [] (by kernel_rfl) ?_
        refine tail_nil ?_
        clear hg1 hg2
        by_cases hdd : d < d2
        · have HX := Lib.hid (cmp_of_lt (HL1.out hdd))
          go_wp2
          go_ret
          exact ⟨ret_int HX.out.symm, hE1⟩
        · have hE2 := ext_trans hE1 (ext_drew _)
          have hg1 := Gr.cell hE2 h1
          have hg2 := Gr.cell hE2 h2
          go_wp2_with fail
          refine wp_region_E (Array.replicate 9 true) 9 0 mixed (by rfl) ?_
          refine wpE_seg' [0, 1, 2, 3, 4, 5, 6, 7, 8] 0 rfl (by kernel_rfl) ?_
          iterate 9 (refine seg_cons rfl ?_; go_big_quiet_step (rfl))
          refine seg_nil ?_
          refine wpE_tail [] (by kernel_rfl) ?_
          refine tail_nil ?_
          clear hg1 hg2
          by_cases hdd2 : d2 < d
          · have HX := Lib.hid (cmp_of_gt (HL2.out hdd2))
            go_wp2
            go_ret
            exact ⟨ret_int HX.out.symm, hE2⟩
          · have hq : x / 10 ^ j = y / 10 ^ j := by rw [HD1.out, HD2.out, HQ.out, show d = d2 by omega]
            have HQ2 := Lib.hid hq
            clear hq
            go_wp2
            go_roundw
            case rel => exact ⟨j, by omega, rfl, HQ2.out, hE2⟩
            case measure => simp [intOf]
      · obtain rfl : k = 0 := by omega
        have hxy : x = y := by have := HQ.out; simpa using this
        subst hxy
        go_wp2
        go_ret
        exact ⟨ret_int (cmp_self _).symm, hb⟩
  · have hz : ((L : Int) == L2) = false := by simp; omega
    have HX := Lib.hid (cmp_of_gt (hgt hl))
    rw [HX.out]
    clear hst hst2 hlt hgt
    go_enter Tryd.func35, Tryd.ntmps35
    go_wp2
    go_ret
    exact ⟨rfl, Below.refl _ _⟩

end Go.Proofs.YtcabmibcgedhhaaDoor

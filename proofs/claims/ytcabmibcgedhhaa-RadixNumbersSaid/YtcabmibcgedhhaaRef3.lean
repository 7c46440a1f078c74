/-
  The walks of the reference's arithmetic on decimal digits: Num, Add, Sub, Compare; Is.
-/
import Derived.Test.YtcabmibcgedhhaaRef2
namespace Go.Proofs.Ytcabmibcgedhhaa
open Go.RowKit Go.Cd

theorem digL_digs {b : Nat} (hb : 2 ≤ b) (x : Nat) : digL b x (digs b x).length = digs b x := by
  apply List.ext_getElem (by simp)
  intro i h1 h2
  have := dig_eq hb x i
  rw [List.getElem?_eq_getElem h2] at this
  simp only [Option.getD_some] at this
  simp [digL, this]

set_option maxRecDepth 100000 in
set_option maxHeartbeats 1600000 in
theorem num_ok (x : Nat) (hx : x < 18446744073709551616) (w : World) :
    Calls Try.prog 36 #[.int .u64 x] w fun e w' => ∃ u, e = .returned u ∧ DecV w' u x ∧ Below w.heap.size w w' := by
  have hD : (digs 10 x).length ≤ 20 := (len_digs_le (by omega)).2 (by omega)
  have hmore : ∀ k, x / 10 ^ k ≠ 0 → k < (digs 10 x).length := fun k h => len_pos_of_div (by omega) h
  have hend : ∀ k, x / 10 ^ k = 0 → (digs 10 x).length ≤ k := fun k h => by
    rw [len_digs_le (by omega)]
    rcases Nat.lt_or_ge x (10 ^ k) with h1 | h1
    · exact h1
    · have : 1 ≤ x / 10 ^ k := (Nat.le_div_iff_mul_le (Nat.pow_pos (by omega))).2 (by omega)
      omega
  have hdl := digL_digs (b := 10) (by omega) x
  have HMore := Lib.hid hmore
  have HEnd := Lib.hid hend
  have HDL := Lib.hid hdl
  generalize hDD : (digs 10 x).length = D at *
  have HDD := Lib.hid hDD
  clear hmore hend hdl hDD
  go_enter Try.func36, Try.ntmps36
  go_wp2_with fail
  go_loopw [0, 3] (fun i o wr => ∃ k : Nat, k ≤ D ∧ i = .int .u64 (x / 10 ^ k : Nat) ∧ wr.ownsRow w.heap.size eInt 1 o k (ds (digL 10 x k)) ∧ Below w.heap.size w wr)
    (fun i _ _ => (intOf i).toNat)
  case atStart => exact ⟨0, Nat.zero_le _, by simp, own_empty _ _, below_new _⟩
  case round =>
    obtain ⟨k, hk, rfl, hown, hb⟩ := hrel
    have hle : x / 10 ^ k ≤ x := Nat.div_le_self _ _
    have hmo := HMore.out k
    have hen := HEnd.out k
    have hq1 : x / 10 ^ (k + 1) = x / 10 ^ k / 10 := by rw [Nat.pow_succ, Nat.div_div_eq_div_mul]
    have hq2 : dig 10 x k = x / 10 ^ k % 10 := rfl
    have HQ1 := Lib.hid hq1
    have HQ2 := Lib.hid hq2
    clear hq1 hq2
    generalize x / 10 ^ k = q at *
    by_cases hq : 0 < q
    · have hkk := hmo (by omega)
      clear hmo hen
      go_wp2_with (at_builtin; refine wpList_push rfl _ _ 22 rfl w.heap.size eInt _ 8 elemInt _ k _ rfl hown _ rfl rfl (by omega) (by unfold maxLen; omega) w hb (Nat.le_refl _) ?_; intro v' w' hown' hb')
      go_roundw
      case rel =>
        have e1 : (q : Int) / 10 = (x / 10 ^ (k + 1) : Nat) := by have := HQ1.out; omega
        have e2 : (q : Int) % 10 = (dig 10 x k : Nat) := by have := HQ2.out; omega
        rw [e2] at hown'
        rw [e1]
        exact ⟨k + 1, by omega, rfl, by rw [digL_succ, ds_append]; exact hown', hb'⟩
      case measure => simp [intOf]; omega
    · have hkD := hen (by omega)
      clear hmo hen
      obtain rfl : k = D := by omega
      rw [HDL.out] at hown
      go_wp2
      go_ret
      exact ⟨_, rfl, Sl.of_own hown, hb⟩

set_option maxRecDepth 100000 in
set_option maxHeartbeats 1600000 in
theorem refAdd_ok {w : World} {v u : Value} {x y : Nat} (h : DecV w v x) (g : DecV w u y) (hx : (digs 10 x).length < 1073741824) (hy : (digs 10 y).length < 1073741824) :
    Calls Try.prog 42 #[v, u] w fun e w' => ∃ r, e = .returned r ∧ DecV w' r (x + y) ∧ Below w.heap.size w w' := by
  obtain ⟨a, cap, rfl, hc, _⟩ := Sl.out h
  obtain ⟨a2, cap2, rfl, hc2, _⟩ := Sl.out g
  rw [length_ds] at hc hc2 h g
  rw [length_ds, length_ds]
  have hD : (digs 10 (x + y)).length ≤ (digs 10 x).length + (digs 10 y).length + 1 := by
    rw [len_digs_le (by omega)]
    exact add_lt_pow (by omega) ((len_digs_le (by omega)).1 (by omega)) ((len_digs_le (by omega)).1 (by omega))
  have a1 := fun (W : World) (E : Below w.heap.size w W) (k : Nat) => at_ok (h.mono E) k
  have a2' := fun (W : World) (E : Below w.heap.size w W) (k : Nat) => at_ok (g.mono E) k
  have A1 := Lib.hid a1
  have A2 := Lib.hid a2'
  have hdiv : ∀ k, (x + y) / 10 ^ k = carry 10 x y k + (x / 10 ^ k + y / 10 ^ k) := fun k => by
    have hp : 0 < 10 ^ k := Nat.pow_pos (by omega)
    have e : x + y = (x % 10 ^ k + y % 10 ^ k) + 10 ^ k * (x / 10 ^ k + y / 10 ^ k) := by
      have h1 := Nat.mod_add_div x (10 ^ k)
      have h2 := Nat.mod_add_div y (10 ^ k)
      rw [Nat.mul_add]; omega
    conv => lhs; rw [e]
    rw [Nat.add_mul_div_left _ _ hp]; rfl
  have hend : ∀ k, (digs 10 x).length ≤ k → (digs 10 y).length ≤ k → carry 10 x y k = 0 → val 10 (digL 10 (x + y) k) = x + y := fun k h1 h2 h3 =>
    digL_all (by omega) (by rw [hdiv, h3, div_zero_of_len (by omega) h1, div_zero_of_len (by omega) h2])
  have hmore : ∀ k, k < (digs 10 x).length ∨ k < (digs 10 y).length ∨ 0 < carry 10 x y k → k < (digs 10 x).length + (digs 10 y).length + (digs 10 (x + y)).length := fun k hk => by
    rcases hk with hk | hk | hk
    · omega
    · omega
    · have : k < (digs 10 (x + y)).length := len_pos_of_div (by omega) (by rw [hdiv]; exact Nat.ne_of_gt (Nat.lt_of_lt_of_le hk (Nat.le_add_right _ _)))
      omega
  have HEnd := Lib.hid hend
  have HMore := Lib.hid hmore
  generalize (digs 10 x).length = L at *
  generalize (digs 10 y).length = L2 at *
  generalize (digs 10 (x + y)).length = D at *
  clear h g a1 a2' hend hmore hdiv
  go_enter Try.func42, Try.ntmps42
  go_wp2_with fail
  go_loopw [5, 6, 7] (fun o c i wr => ∃ k : Nat, k ≤ L + L2 + D ∧ i = .int .i64 k ∧ c = .int .i64 (carry 10 x y k : Nat) ∧ wr.ownsRow w.heap.size eInt 1 o k (ds (digL 10 (x + y) k)) ∧ Below w.heap.size w wr)
    (fun _ _ i _ => L + L2 + D - (intOf i).toNat)
  case atStart => exact ⟨0, Nat.zero_le _, rfl, by rw [carry_zero]; rfl, own_empty _ _, below_new _⟩
  case round =>
    obtain ⟨k, hk, rfl, rfl, hown, hb⟩ := hrel
    have b1 := fun (W : World) (E : Below w.heap.size w W) => A1.out W E k
    have b2 := fun (W : World) (E : Below w.heap.size w W) => A2.out W E k
    have hcs := carry_succ (b := 10) (by omega) x y k
    have hdg := dig_add (b := 10) (by omega) x y k
    have hle := carry_le (b := 10) (by omega) x y k
    have hd1 := dig_lt (b := 10) (by omega) x k
    have hd2 := dig_lt (b := 10) (by omega) y k
    have hmo := HMore.out k
    have hen := HEnd.out k
    generalize carry 10 x y k = c at *
    generalize dig 10 x k = d at *
    generalize dig 10 y k = d2 at *
    have B1 := Lib.hid b1
    have B2 := Lib.hid b2
    have HCS := Lib.hid hcs
    have HDG := Lib.hid hdg
    have HEn := Lib.hid hen
    clear b1 b2 hcs hdg hen
    by_cases hgo : k < L ∨ k < L2 ∨ 0 < c
    · have hkk := hmo hgo
      clear hmo
      by_cases hkL : k < L
      all_goals by_cases hkL2 : k < L2
      all_goals
        go_wp2_with fail
        refine (B1.out _ hb).mono ?_
        rintro e w2 ⟨rfl, rfl⟩
        go_wp2_with fail
        refine (B2.out _ hb).mono ?_
        rintro e w2 ⟨rfl, rfl⟩
        go_wp2_with (at_builtin; refine wpList_push rfl _ _ 22 rfl w.heap.size eInt _ 8 elemInt _ k _ rfl hown _ rfl rfl (by omega) (by unfold maxLen; omega) w hb (Nat.le_refl _) ?_; intro v' w' hown' hb')
        go_roundw
        case rel =>
          have e1 : ((d : Int) + d2 + c) / 10 = (carry 10 x y (k + 1) : Nat) := by have := HCS.out; omega
          have e2 : ((d : Int) + d2 + c) % 10 = (dig 10 (x + y) k : Nat) := by have := HDG.out; omega
          rw [e2] at hown'
          rw [e1]
          exact ⟨k + 1, by omega, rfl, rfl, by rw [digL_succ, ds_append]; exact hown', hb'⟩
        case measure => simp [intOf]; omega
    · have hkL : ¬ k < L := by omega
      have hkL2 : ¬ k < L2 := by omega
      have hc0 : c = 0 := by omega
      subst hc0
      go_wp2_with fail
      refine (trim10_ok (Sl.of_own hown) (digL_lt (by omega) _ _) (by simp; omega)).mono ?_
      rintro e w2 ⟨u, rfl, hu, hb2⟩
      rw [HEn.out (by omega) (by omega) (by simp)] at hu
      go_wp2
      go_ret
      exact ⟨_, rfl, hu, ext_trans hb hb2⟩

set_option maxRecDepth 100000 in
set_option maxHeartbeats 1600000 in
theorem refSub_ok {w : World} {v u : Value} {x y : Nat} (h : DecV w v x) (g : DecV w u y) (hx : (digs 10 x).length < 1073741824) (hle : y ≤ x) :
    Calls Try.prog 45 #[v, u] w fun e w' => ∃ r, e = .returned r ∧ DecV w' r (x - y) ∧ Below w.heap.size w w' := by
  obtain ⟨a, cap, rfl, hc, hr⟩ := Sl.out h
  simp only [length_ds] at *
  have a2' := fun (W : World) (E : Below w.heap.size w W) (k : Nat) => at_ok (g.mono E) k
  have A2 := Lib.hid a2'
  have hcl : ∀ k, k < (digs 10 x).length → ∃ b off, a = some ⟨b, off, none⟩ ∧ w.cell? ⟨b, off + k, none⟩ = some (.int .i64 (dig 10 x k : Nat)) := fun k hk => by
    obtain ⟨b, off, ha, _, hcell⟩ := hr k hk
    have e : (ds (digs 10 x))[k]'(by simpa using hk) = .int .i64 (dig 10 x k : Nat) := by
      have := dig_eq (b := 10) (by omega) x k
      rw [List.getElem?_eq_getElem hk] at this
      simp only [Option.getD_some] at this
      simp [ds, this]
    rw [e] at hcell
    exact ⟨b, off, ha, hcell⟩
  have HCl := Lib.hid hcl
  have hend : val 10 (digL 10 (x - y) (digs 10 x).length) = x - y := digL_all (by omega) (by
    apply Nat.div_eq_of_lt
    exact Nat.lt_of_le_of_lt (Nat.sub_le _ _) ((len_digs_le (by omega)).1 (Nat.le_refl _)))
  have HEnd := Lib.hid hend
  clear h g a2' hend hcl hr
  generalize (digs 10 x).length = L at *
  go_enter Try.func45, Try.ntmps45
  go_wp2_with fail
  go_loopw [5, 6, 7, 8] (fun o c i s wr => ∃ k : Nat, k ≤ L ∧ i = .int .i64 k ∧ c = .int .i64 (bor 10 x y k : Nat) ∧ wr.ownsRow w.heap.size eInt 1 o k (ds (digL 10 (x - y) k)) ∧ Below w.heap.size w wr)
    (fun _ _ i _ _ => L - (intOf i).toNat)
  case atStart => exact ⟨0, Nat.zero_le _, rfl, by rw [bor_zero]; rfl, own_empty _ _, below_new _⟩
  case round =>
    obtain ⟨k, hk, rfl, rfl, hown, hb⟩ := hrel
    by_cases hkL : k < L
    · have b2 := fun (W : World) (E : Below w.heap.size w W) => A2.out W E k
      obtain ⟨b, off, rfl, hcell⟩ := HCl.out k hkL
      have hcs := bor_succ (b := 10) (by omega) x y k
      have hdg := dig_sub (b := 10) (by omega) hle k
      have hc1 := bor_le 10 x y k
      have hd1 := dig_lt (b := 10) (by omega) x k
      have hd2 := dig_lt (b := 10) (by omega) y k
      generalize bor 10 x y k = c at *
      generalize dig 10 x k = d at *
      generalize dig 10 y k = d2 at *
      have B2 := Lib.hid b2
      have HCS := Lib.hid hcs
      have HDG := Lib.hid hdg
      have hE1 := ext_trans hb (ext_drew wr)
      have hg1 := Gr.cell hE1 hcell
      have hown1 := own_ext hown (ext_drew wr)
      clear b2 hcs hdg hcell hown
      go_wp2_with fail
      refine wp_region_E (Array.replicate 11 true) 11 0 mixed (by rfl) ?_
      refine wpE_seg' [0, 1, 2, 3, 4, 5, 8] 4 rfl (by kernel_rfl) ?_
      iterate 7 (refine seg_cons rfl ?_; go_big_quiet_step (rfl))
      refine seg_nil ?_
      clear hg1
      refine wpE_one 6 (by kernel_rfl) rfl ?_
      go_wp2_with fail
      refine (B2.out _ hE1).mono ?_
      rintro e w2 ⟨rfl, rfl⟩
      go_wp2_with fail
      refine QE_intro (Below.refl _ _) ?_
      refine wpE_seg' [7, 9, 10] 0 rfl (by kernel_rfl) ?_
      iterate 3 (refine seg_cons rfl ?_; go_big_quiet_step (rfl))
      refine seg_nil ?_
      refine wpE_tail [] (by kernel_rfl) ?_
      refine tail_nil ?_
      by_cases hs : (d : Int) - d2 - c < 0
      all_goals
        go_wp2_with (at_builtin; refine wpList_push rfl _ _ 22 rfl w.heap.size eInt _ 8 elemInt _ k _ rfl hown1 _ rfl rfl (by omega) (by unfold maxLen; omega) w hE1 (Nat.le_refl _) ?_; intro v' w' hown' hb')
        go_roundw
        case rel =>
          have e1 : (bor 10 x y (k + 1) : Int) = if (d : Int) - d2 - c < 0 then 1 else 0 := by
            rw [HCS.out]; split <;> rfl
          have e2 : (if (d : Int) - d2 - c < 0 then (d : Int) - d2 - c + 10 else (d : Int) - d2 - c) = (dig 10 (x - y) k : Nat) := by
            have := HDG.out; split <;> omega
          first | rw [if_pos hs] at e1 e2 | rw [if_neg hs] at e1 e2
          rw [e2] at hown'
          exact ⟨k + 1, by omega, rfl, by rw [e1], by rw [digL_succ, ds_append]; exact hown', hb'⟩
        case measure => simp [intOf]; omega
    · obtain rfl : k = L := by omega
      go_wp2_with fail
      refine (trim10_ok (Sl.of_own hown) (digL_lt (by omega) _ _) (by simp; omega)).mono ?_
      rintro e w2 ⟨u, rfl, hu, hb2⟩
      rw [HEnd.out] at hu
      go_wp2
      go_ret
      exact ⟨_, rfl, hu, ext_trans hb hb2⟩

set_option maxRecDepth 100000 in
set_option maxHeartbeats 1600000 in
theorem refCompare_ok {w : World} {v u : Value} {x y : Nat} (h : DecV w v x) (g : DecV w u y) (hx : (digs 10 x).length < 1073741824) (hy : (digs 10 y).length < 1073741824) :
    Calls Try.prog 39 #[v, u] w fun e w' => e = .returned (.int .i64 (cmpN x y)) ∧ Below w.heap.size w w' := by
  obtain ⟨a, cap, rfl, hc, hr⟩ := Sl.out h
  obtain ⟨a2, cap2, rfl, hc2, hr2⟩ := Sl.out g
  simp only [length_ds] at *
  have hcl : ∀ k, k < (digs 10 x).length → k < (digs 10 y).length → ∃ b off b2 off2, a = some ⟨b, off, none⟩ ∧ a2 = some ⟨b2, off2, none⟩ ∧ w.cell? ⟨b, off + k, none⟩ = some (.int .i64 (dig 10 x k : Nat)) ∧ w.cell? ⟨b2, off2 + k, none⟩ = some (.int .i64 (dig 10 y k : Nat)) := fun k hk hk2 => by
    obtain ⟨b, off, ha, _, hcell⟩ := hr k hk
    obtain ⟨b2, off2, ha2, _, hcell2⟩ := hr2 k hk2
    have e : ∀ (x : Nat) (hk : k < (digs 10 x).length), (ds (digs 10 x))[k]'(by simpa using hk) = .int .i64 (dig 10 x k : Nat) := fun x hk => by
      have := dig_eq (b := 10) (by omega) x k
      rw [List.getElem?_eq_getElem hk] at this
      simp only [Option.getD_some] at this
      simp [ds, this]
    rw [e x hk] at hcell
    rw [e y hk2] at hcell2
    exact ⟨b, off, b2, off2, ha, ha2, hcell, hcell2⟩
  have HCl := Lib.hid hcl
  have hlt := lt_of_len_lt (b := 10) (by omega) (x := x) (y := y)
  have hgt := lt_of_len_lt (b := 10) (by omega) (x := y) (y := x)
  have hst : x / 10 ^ (digs 10 x).length = 0 := div_zero_of_len (by omega) (Nat.le_refl _)
  have hst2 : y / 10 ^ (digs 10 y).length = 0 := div_zero_of_len (by omega) (Nat.le_refl _)
  clear h g hcl hr hr2
  generalize (digs 10 x).length = L at *
  generalize (digs 10 y).length = L2 at *
  rcases Nat.lt_trichotomy L L2 with hl | hl | hl
  · have hz : ((L : Int) == L2) = false := by simp; omega
    have HX := Lib.hid (cmp_of_lt (hlt hl))
    rw [HX.out]
    clear hst hst2 hlt hgt
    go_enter Try.func39, Try.ntmps39
    go_wp2
    go_ret
    exact ⟨rfl, Below.refl _ _⟩
  · subst hl
    have HST := Lib.hid (hst.trans hst2.symm)
    clear hst hst2 hlt hgt
    go_enter Try.func39, Try.ntmps39
    go_wp2_with fail
    go_loopw [5] (fun i wr => ∃ k : Nat, k ≤ L ∧ i = .int .i64 ((k : Int) - 1) ∧ x / 10 ^ k = y / 10 ^ k ∧ Below w.heap.size w wr) (fun i _ => ((intOf i) + 1).toNat)
    case atStart => exact ⟨L, Nat.le_refl _, rfl, HST.out, Below.refl _ _⟩
    case round =>
      obtain ⟨k, hk, rfl, hq, hb⟩ := hrel
      have HQ := Lib.hid hq
      clear hq
      by_cases hk0 : 0 < k
      · obtain ⟨j, rfl⟩ : ∃ j, k = j + 1 := ⟨k - 1, by omega⟩
        have e1 : ((j + 1 : Nat) : Int) - 1 = j := by omega
        rw [e1]
        obtain ⟨b, off, b2, off2, rfl, rfl, h1, h2⟩ := HCl.out j (by omega) (by omega)
        have hl1 := lt_of_dig (b := 10) HQ.out
        have hl2 := lt_of_dig (b := 10) HQ.out.symm
        have hdv1 := div_succ (b := 10) x j
        have hdv2 := div_succ (b := 10) y j
        generalize dig 10 x j = d at *
        generalize dig 10 y j = d2 at *
        have HL1 := Lib.hid hl1
        have HL2 := Lib.hid hl2
        have HD1 := Lib.hid hdv1
        have HD2 := Lib.hid hdv2
        have hE1 := ext_trans hb (ext_drew wr)
        have hg1 := Gr.cell hE1 h1
        have hg2 := Gr.cell hE1 h2
        clear hl1 hl2 hdv1 hdv2 e1
        go_wp2_with fail
        refine wp_region_E (Array.replicate 9 true) 9 0 mixed (by rfl) ?_
        refine wpE_seg' [0, 1, 2, 3, 4, 5, 6, 7, 8] 0 rfl (by kernel_rfl) ?_
        iterate 9 (refine seg_cons rfl ?_; go_big_quiet_step (rfl))
        refine seg_nil ?_
        refine wpE_tail [] (by kernel_rfl) ?_
        refine tail_nil ?_
        clear hg1 hg2
        by_cases hdd : d < d2
        · have HX := Lib.hid (cmp_of_lt (HL1.out hdd))
          go_wp2
          go_ret
          exact ⟨ret_int HX.out.symm, hE1⟩
        · have hE2 := ext_trans hE1 (ext_drew _)
          have hg1 := Gr.cell hE2 h1
          have hg2 := Gr.cell hE2 h2
          go_wp2_with fail
          refine wp_region_E (Array.replicate 9 true) 9 0 mixed (by rfl) ?_
          refine wpE_seg' [0, 1, 2, 3, 4, 5, 6, 7, 8] 0 rfl (by kernel_rfl) ?_
          iterate 9 (refine seg_cons rfl ?_; go_big_quiet_step (rfl))
          refine seg_nil ?_
          refine wpE_tail [] (by kernel_rfl) ?_
          refine tail_nil ?_
          clear hg1 hg2
          by_cases hdd2 : d2 < d
          · have HX := Lib.hid (cmp_of_gt (HL2.out hdd2))
            go_wp2
            go_ret
            exact ⟨ret_int HX.out.symm, hE2⟩
          · have hq : x / 10 ^ j = y / 10 ^ j := by rw [HD1.out, HD2.out, HQ.out, show d = d2 by omega]
            have HQ2 := Lib.hid hq
            clear hq
            go_wp2
            go_roundw
            case rel => exact ⟨j, by omega, rfl, HQ2.out, hE2⟩
            case measure => simp [intOf]
      · obtain rfl : k = 0 := by omega
        have hxy : x = y := by have := HQ.out; simpa using this
        subst hxy
        go_wp2
        go_ret
        exact ⟨ret_int (cmp_self _).symm, hb⟩
  · have hz : ((L : Int) == L2) = false := by simp; omega
    have HX := Lib.hid (cmp_of_gt (hgt hl))
    rw [HX.out]
    clear hst hst2 hlt hgt
    go_enter Try.func39, Try.ntmps39
    go_wp2
    go_ret
    exact ⟨rfl, Below.refl _ _⟩

end Go.Proofs.Ytcabmibcgedhhaa

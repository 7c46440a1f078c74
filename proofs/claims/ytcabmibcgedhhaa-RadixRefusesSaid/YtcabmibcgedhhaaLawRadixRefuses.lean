/-
  The walk of the law RadixRefuses.
-/
import Derived.Test.YtcabmibcgedhhaaRad8
namespace Go.Proofs.Ytcabmibcgedhhaa
open Go.RowKit Go.Cd

theorem seg_skip {P : Program} {ops : Array Oper} {C : World → Prop} {K : Act → Prop} {i : Nat} {o : Oper} {l : List Nat} {a : Act} (ho : nth ops.toList i = some o) (hw : Region.wanted o (yielded ops a.tmps) = false) (h : wpQuiet P ops C K (pickOps ops l) (a.put o.dst undef)) :
    wpQuiet P ops C K (pickOps ops (i :: l)) a := by
  have hp : pickOps ops (i :: l) = o :: pickOps ops l := by simp [pickOps, at_of_nth ho]
  rw [hp]
  simp only [wpQuiet, hw, Bool.false_eq_true, if_false]
  exact h

theorem seg_val {P : Program} {ops : Array Oper} {C : World → Prop} {K : Act → Prop} {i : Nat} {o : Oper} {l : List Nat} {a : Act} (ho : nth ops.toList i = some o) (hw : Region.wanted o (yielded ops a.tmps) = true) (v : Value) (hv : ∀ w, (execOp a.eval o).run P w = .ok (.value v) w)
    (h : wpQuiet P ops C K (pickOps ops l) (a.put o.dst v)) : wpQuiet P ops C K (pickOps ops (i :: l)) a := by
  have hp : pickOps ops (i :: l) = o :: pickOps ops l := by simp [pickOps, at_of_nth ho]
  rw [hp]
  simp only [wpQuiet, hw, if_true]
  exact ⟨v, fun w' _ => by unfold Oper.quietAt; rw [hv w']; exact ⟨rfl, rfl⟩, h⟩

theorem natL_drop {l : List Int} {k : Nat} (h : k < l.length) : natL (l.drop k) = l[k].toNat :: natL (l.drop (k + 1)) := by
  rw [List.drop_eq_getElem_cons h]; rfl
theorem any_drop {l : List Int} {k : Nat} (h : k < l.length) : ((l.drop k).any fun b => decide (b < 1)) = (decide (l[k] < 1) || (l.drop (k + 1)).any fun b => decide (b < 1)) := by
  rw [List.drop_eq_getElem_cons h]; rfl

set_option maxRecDepth 100000 in
set_option maxHeartbeats 3200000 in
theorem radixRefuses_ok {w : World} {v u : Value} {l m : List Int} (h : SlA w v (i64s l)) (g : SlA w u (i64s m)) (hl : ∀ d ∈ l, -9223372036854775808 ≤ d ∧ d ≤ 9223372036854775807) :
    Calls Try.prog 3 #[v, u] w fun e w' => e = .returned (.bool true) ∧ Below w.heap.size w w' := by
  obtain ⟨a0, cap0, rfl, hcap0, _⟩ := SlA.outI h
  obtain ⟨a1, cap1, rfl, hcap1, _⟩ := SlA.outI g
  have hL : ∀ d ∈ l.take 12, d < 9223372036854775808 := fun d hd => by have := hl d (List.mem_of_mem_take hd); omega
  have hL12 : (l.take 12).length ≤ 12 := by simp; omega
  have hM12 : (m.take 12).length ≤ 12 := by simp; omega
  have et : ∀ x : List Int, i64s (x.take 12) = (i64s x).take 12 := fun x => by simp [i64s, List.map_take]
  clear hl
  by_cases h1 : 12 < l.length
  · have HS0 : SlA w (.slice a0 12 cap0) (i64s (l.take 12)) := by rw [et]; exact SlA.cutA h (by simp; omega)
    have el : (l.take 12).length = 12 := by simp; omega
    by_cases h2 : 12 < m.length
    · have HS1 : SlA w (.slice a1 12 cap1) (i64s (m.take 12)) := by rw [et]; exact SlA.cutA g (by simp; omega)
      obtain ⟨_, _, hv0, _, hx0⟩ := SlA.outI HS0
      rw [el] at hv0
      cases hv0
      have HX0 := Lib.hid hx0
      have HL := Lib.hid hL
      clear h g et hx0 hL
      generalize l.take 12 = L at *
      generalize m.take 12 = D at *
      go_enter Try.func3, Try.ntmps3
      go_wp2_with fail
      refine (awake23_ok _).mono ?_
      rintro e w1 ⟨rfl, hb1⟩
      go_wp2_with fail
      refine (new_all (HS0.mono hb1) (by omega) HL.out).mono ?_
      rintro e w2 ⟨b1, b2, m1, d1, m2, d2, z, e0, rfl, hb2, hfact⟩
      have FACT := Lib.hid hfact
      have EB := ext_trans hb1 hb2
      have BN := below_new (w := w2) (.cells #[.slice b1 m1 d1, .slice b2 m2 d2, .int .i64 z] tRadix)
      have I3 : Is3 (w2.alloc (.cells #[.slice b1 m1 d1, .slice b2 m2 d2, .int .i64 z] tRadix)) w2.heap.size (.slice b1 m1 d1) (.slice b2 m2 d2) (.int .i64 z) tRadix := ⟨heap_alloc_new' _ _ _ rfl⟩
      have EW := ext_trans EB BN
      clear hfact hb1 hb2
      go_wp2_with fail
      go_loopw [7, 8, 9, 10] (fun bad s big i wr => ∃ (j sn : Nat) (bb gb : Bool), j ≤ 12 ∧ i = .int .i64 ((j : Int) - 1) ∧ bad = .bool bb ∧ s = .int .i64 (sn : Int) ∧ big = .bool gb ∧ 1 ≤ sn ∧ sn ≤ 1073741824 ∧ bb = ((L.drop j).any fun b => decide (b < 1)) ∧
          (bb = false → (gb = false ∧ sn = prodN (natL (L.drop j))) ∨ (gb = true ∧ 1073741824 < prodN (natL (L.drop j)))) ∧ Below (w2.alloc (.cells #[.slice b1 m1 d1, .slice b2 m2 d2, .int .i64 z] tRadix)).heap.size (w2.alloc (.cells #[.slice b1 m1 d1, .slice b2 m2 d2, .int .i64 z] tRadix)) wr)
        (fun _ _ _ i _ => (intOf i + 1).toNat)
      case atStart =>
        have hd0 : L.drop 12 = [] := List.drop_of_length_le (by omega)
        exact ⟨12, 1, false, false, by omega, by first | rfl | exact congrArg (Value.int .i64) (by omega), rfl, rfl, rfl, by omega, by omega, by rw [hd0]; rfl, fun _ => .inl ⟨rfl, by rw [hd0]; rfl⟩, Below.refl _ _⟩
      case round =>
        obtain ⟨j, sn, bb, gb, hj, rfl, rfl, rfl, rfl, hs1, hs2, hbb, hgb, hE⟩ := hrel
        have HBB := Lib.hid hbb
        have HGB := Lib.hid hgb
        clear hbb hgb
        by_cases hj0 : 0 < j
        · obtain ⟨k, rfl⟩ : ∃ k, j = k + 1 := ⟨j - 1, by omega⟩
          have hsi : ((k + 1 : Nat) : Int) - 1 = k := by omega
          rw [hsi]
          clear hsi
          have hkl : k < L.length := by omega
          obtain ⟨q1, o1, rfl, hq1, k1⟩ := HX0.out k hkl
          have k1 := ((EW.trans (hE.mono EW.size)).cell (p := ⟨q1, o1 + k, none⟩) hq1).trans k1
          have ANY := Lib.hid (any_drop hkl)
          have NAT := Lib.hid (natL_drop hkl)
          have hdB : L[k] < 9223372036854775808 := HL.out _ (List.getElem_mem _)
          generalize L[k] = d at *
          have hsz : sn ≠ 0 := by omega
          have hsz0 : (0 : Int) < (sn : Int) := by omega
          by_cases hd1 : d < 1
          · have hdd : decide (d < 1) = true := decide_eq_true hd1
            go_wp2
            go_roundw
            case rel => exact ⟨k, sn, true, gb, by omega, rfl, rfl, rfl, rfl, hs1, hs2, by rw [ANY.out, hdd]; rfl, fun h => absurd h (by simp), hE⟩
            case measure => simp [intOf]
          · have hdd : decide (d < 1) = false := decide_eq_false hd1
            have hany : bb = ((L.drop k).any fun b => decide (b < 1)) := by rw [ANY.out, hdd, HBB.out]; rfl
            have HANY := Lib.hid hany
            clear hany
            obtain ⟨dn, rfl⟩ : ∃ dn : Nat, d = dn := ⟨d.toNat, by omega⟩
            have hdn : 1 ≤ dn := by omega
            have hnat : prodN (natL (L.drop k)) = dn * prodN (natL (L.drop (k + 1))) := by rw [NAT.out]; simp [prodN]
            have HNAT := Lib.hid hnat
            clear hnat
            cases gb with
            | true =>
              go_wp2_with fail
              go_quiet (fail)
              go_wp2
              go_roundw
              case rel =>
                refine ⟨k, sn, bb, true, by omega, rfl, rfl, rfl, rfl, hs1, hs2, HANY.out, fun h => ?_, ⟨hE.os, hE.tape, hE.output, hE.size, hE.block⟩⟩
                rcases HGB.out h with ⟨h1, _⟩ | ⟨_, h2⟩
                · cases h1
                · refine .inr ⟨rfl, ?_⟩
                  rw [HNAT.out]
                  have := Nat.le_mul_of_pos_left (prodN (natL (L.drop (k + 1)))) hdn
                  omega
              case measure => simp [intOf]
            | false =>
              have hg0 := Gr.cell (ext_drew wr) k1
              by_cases hbig : 1073741824 / sn < dn
              · have hbd : decide ((1073741824 : Int) / (sn : Int) < (dn : Int)) = true := decide_eq_true (by have := Int.ofNat_lt.2 hbig; rw [Int.natCast_ediv] at this; exact this)
                have hbi : (1073741824 : Int) / (sn : Int) < (dn : Int) := of_decide_eq_true hbd
                have hover : 1073741824 < dn * sn := by
                  have := Nat.lt_mul_of_div_lt hbig (by omega)
                  first | exact this | (rw [Nat.mul_comm]; exact this)
                have HOV := Lib.hid hover
                clear hover
                go_wp2_with fail
                refine wp_region_E (Array.replicate 11 true) 11 0 mixed (by rfl) ?_
                refine wpE_seg' [0, 1, 2, 3, 4, 5, 6, 7, 8, 9, 10] 0 rfl (by kernel_rfl) ?_
                iterate 11 (refine seg_cons rfl ?_; go_big_quiet_step (rfl))
                refine seg_nil ?_
                refine wpE_tail [] (by kernel_rfl) ?_
                refine tail_nil ?_
                go_wp2
                go_roundw
                case rel =>
                  refine ⟨k, sn, bb, true, by omega, rfl, rfl, rfl, rfl, hs1, hs2, HANY.out, fun h => ?_, hE.drew⟩
                  rcases HGB.out h with ⟨_, h2⟩ | ⟨h1, _⟩
                  · refine .inr ⟨rfl, ?_⟩
                    rw [HNAT.out, ← h2]; exact HOV.out
                  · cases h1
                case measure => simp [intOf]
              · have hbd : decide ((1073741824 : Int) / (sn : Int) < (dn : Int)) = false := decide_eq_false (by have := Int.ofNat_le.2 (Nat.le_of_not_lt hbig); rw [Int.natCast_ediv] at this; exact Int.not_lt.2 this)
                have hbi : ¬ (1073741824 : Int) / (sn : Int) < (dn : Int) := of_decide_eq_false hbd
                have hsb : sn * dn ≤ 1073741824 := by
                  have h1 := Nat.le_of_not_lt hbig
                  have h2 := Nat.mul_le_mul_left sn h1
                  have h3 := Nat.mul_div_le 1073741824 sn
                  omega
                have hsb1 : 1 ≤ sn * dn := Nat.mul_le_mul hs1 hdn
                obtain ⟨O, hO⟩ : ∃ O, O = sn * dn := ⟨_, rfl⟩
                rw [← hO] at hsb hsb1
                have hw1 : wrap64 ((sn : Int) * (dn : Int)) = (O : Int) := by rw [← Int.natCast_mul, ← hO]; exact wr1 (by omega)
                have HO := Lib.hid hO
                clear hO
                go_wp2_with fail
                refine wp_region_E (Array.replicate 11 true) 11 0 mixed (by rfl) ?_
                refine wpE_seg' [0, 1, 2, 3, 4, 5, 6, 7, 8, 9, 10] 0 rfl (by kernel_rfl) ?_
                iterate 11 (refine seg_cons rfl ?_; go_big_quiet_step (rfl))
                refine seg_nil ?_
                refine wpE_tail [] (by kernel_rfl) ?_
                refine tail_nil ?_
                have k2 := cellE (ext_drew wr) k1
                go_wp2
                go_roundw
                case rel =>
                  refine ⟨k, O, bb, false, by omega, rfl, rfl, congrArg (Value.int .i64) hw1, rfl, hsb1, hsb, HANY.out, fun h => ?_, hE.drew⟩
                  rcases HGB.out h with ⟨_, h2⟩ | ⟨h1, _⟩
                  · exact .inl ⟨rfl, by rw [HNAT.out, ← h2, HO.out, Nat.mul_comm]⟩
                  · cases h1
                case measure => simp [intOf]
        · obtain rfl : j = 0 := by omega
          have hbb := HBB.out
          have hgb := HGB.out
          rw [List.drop_zero] at hbb hgb
          have EE := EW.trans (hE.mono EW.size)
          have J3 := I3.mono hE
          obtain ⟨f0, f1, f2⟩ := J3.cell
          cases bb with
          | true =>
            have he : e0 = 1 := by
              rcases FACT.out with ⟨_, h⟩ | ⟨h, _⟩
              · exact h
              · rw [← hbb] at h; cases h
            subst he
            clear hbb hgb
            go_wp2
            go_ret
            exact ⟨rfl, EE⟩
          | false =>
            have hf2 := FACT.out
            rw [← hbb] at hf2
            cases gb with
            | true =>
              have he : e0 = 4 := by
                rcases hf2 with ⟨h, _⟩ | ⟨_, ⟨h, _⟩ | ⟨_, h⟩⟩
                · cases h
                · rcases hgb rfl with ⟨h1, _⟩ | ⟨_, h2⟩
                  · cases h1
                  · omega
                · exact h
              subst he
              clear hbb hgb hf2
              go_wp2
              go_ret
              exact ⟨rfl, EE⟩
            | false =>
              have hsn : sn = prodN (natL L) := by
                rcases hgb rfl with ⟨_, h1⟩ | ⟨h1, _⟩
                · exact h1
                · cases h1
              obtain ⟨he, hR⟩ : e0 = 0 ∧ RadixV w2 (.agg #[.slice b1 m1 d1, .slice b2 m2 d2, .int .i64 z]) (natL L) := by
                rcases hf2 with ⟨h, _⟩ | ⟨_, ⟨_, h1, h2⟩ | ⟨h, _⟩⟩
                · cases h
                · exact ⟨h1, h2⟩
                · omega
              subst he
              obtain ⟨hds, hpos⟩ := natL_ds hbb.symm
              have hmaxp : prodN (natL L) ≤ 1073741824 := by omega
              have hlN : (natL L).length < 1099511627776 := by simp; omega
              have IX := Lib.hid (fun (W : World) (E : Below w2.heap.size w2 W) => index_ok (hR.mono E) (HS1.mono (ext_trans EB E)) hmaxp hpos (by omega) hlN)
              have RI := Lib.hid (fun (W : World) (E : Below w2.heap.size w2 W) => refIndex_ok (by rw [hds]; exact HS0.mono (ext_trans EB E)) (HS1.mono (ext_trans EB E)) hmaxp hpos (by omega) hlN)
              have SZ := Lib.hid (fun (W : World) (E : Below w2.heap.size w2 W) => size_ok (hR.mono E) hpos hmaxp)
              rw [← hsn] at SZ
              have E2 := ext_trans BN hE
              clear hbb hgb hf2 hsn hR hds hpos hmaxp hlN
              cases hv : vldI (natL L) D with
              | true =>
                rw [hv] at IX RI
                simp only [if_true] at IX RI
                generalize horN (natL L) D (natL L).length = H at *
                clear hv
                go_wp2_with fail
                refine (IX.out _ E2).mono ?_
                rintro e w5 ⟨rfl, hb5⟩
                go_wp2_with fail
                refine (RI.out _ (ext_trans E2 hb5)).mono ?_
                rintro e w6 ⟨rfl, hb6⟩
                have E6 := ext_trans hb5 hb6
                obtain ⟨p0, p1, p2⟩ := (J3.mono E6).cell
                go_wp2_with fail
                refine (SZ.out _ (ext_trans E2 E6)).mono ?_
                rintro e w7 ⟨rfl, hb7⟩
                have hmx : max (H : Int) 0 = (H : Int) := by omega
                go_wp2
                go_ret
                exact ⟨rfl, EE.trans ((ext_trans E6 hb7).mono EE.size)⟩
              | false =>
                rw [hv] at IX RI
                simp only [Bool.false_eq_true, if_false] at IX RI
                clear hv
                go_wp2_with fail
                refine (IX.out _ E2).mono ?_
                rintro e w5 ⟨rfl, hb5⟩
                go_wp2_with fail
                refine (RI.out _ (ext_trans E2 hb5)).mono ?_
                rintro e w6 ⟨rfl, hb6⟩
                have E6 := ext_trans hb5 hb6
                obtain ⟨p0, p1, p2⟩ := (J3.mono E6).cell
                go_wp2_with fail
                refine (SZ.out _ (ext_trans E2 E6)).mono ?_
                rintro e w7 ⟨rfl, hb7⟩
                go_wp2
                go_ret
                exact ⟨rfl, EE.trans ((ext_trans E6 hb7).mono EE.size)⟩
    · have HS1 : SlA w (.slice a1 m.length cap1) (i64s (m.take 12)) := by rw [List.take_of_length_le (by omega)]; exact g
      obtain ⟨_, _, hv0, _, hx0⟩ := SlA.outI HS0
      rw [el] at hv0
      cases hv0
      have HX0 := Lib.hid hx0
      have HL := Lib.hid hL
      clear h g et hx0 hL
      generalize l.take 12 = L at *
      generalize m.take 12 = D at *
      go_enter Try.func3, Try.ntmps3
      go_wp2_with fail
      refine (awake23_ok _).mono ?_
      rintro e w1 ⟨rfl, hb1⟩
      go_wp2_with fail
      refine (new_all (HS0.mono hb1) (by omega) HL.out).mono ?_
      rintro e w2 ⟨b1, b2, m1, d1, m2, d2, z, e0, rfl, hb2, hfact⟩
      have FACT := Lib.hid hfact
      have EB := ext_trans hb1 hb2
      have BN := below_new (w := w2) (.cells #[.slice b1 m1 d1, .slice b2 m2 d2, .int .i64 z] tRadix)
      have I3 : Is3 (w2.alloc (.cells #[.slice b1 m1 d1, .slice b2 m2 d2, .int .i64 z] tRadix)) w2.heap.size (.slice b1 m1 d1) (.slice b2 m2 d2) (.int .i64 z) tRadix := ⟨heap_alloc_new' _ _ _ rfl⟩
      have EW := ext_trans EB BN
      clear hfact hb1 hb2
      go_wp2_with fail
      go_loopw [7, 8, 9, 10] (fun bad s big i wr => ∃ (j sn : Nat) (bb gb : Bool), j ≤ 12 ∧ i = .int .i64 ((j : Int) - 1) ∧ bad = .bool bb ∧ s = .int .i64 (sn : Int) ∧ big = .bool gb ∧ 1 ≤ sn ∧ sn ≤ 1073741824 ∧ bb = ((L.drop j).any fun b => decide (b < 1)) ∧
          (bb = false → (gb = false ∧ sn = prodN (natL (L.drop j))) ∨ (gb = true ∧ 1073741824 < prodN (natL (L.drop j)))) ∧ Below (w2.alloc (.cells #[.slice b1 m1 d1, .slice b2 m2 d2, .int .i64 z] tRadix)).heap.size (w2.alloc (.cells #[.slice b1 m1 d1, .slice b2 m2 d2, .int .i64 z] tRadix)) wr)
        (fun _ _ _ i _ => (intOf i + 1).toNat)
      case atStart =>
        have hd0 : L.drop 12 = [] := List.drop_of_length_le (by omega)
        exact ⟨12, 1, false, false, by omega, by first | rfl | exact congrArg (Value.int .i64) (by omega), rfl, rfl, rfl, by omega, by omega, by rw [hd0]; rfl, fun _ => .inl ⟨rfl, by rw [hd0]; rfl⟩, Below.refl _ _⟩
      case round =>
        obtain ⟨j, sn, bb, gb, hj, rfl, rfl, rfl, rfl, hs1, hs2, hbb, hgb, hE⟩ := hrel
        have HBB := Lib.hid hbb
        have HGB := Lib.hid hgb
        clear hbb hgb
        by_cases hj0 : 0 < j
        · obtain ⟨k, rfl⟩ : ∃ k, j = k + 1 := ⟨j - 1, by omega⟩
          have hsi : ((k + 1 : Nat) : Int) - 1 = k := by omega
          rw [hsi]
          clear hsi
          have hkl : k < L.length := by omega
          obtain ⟨q1, o1, rfl, hq1, k1⟩ := HX0.out k hkl
          have k1 := ((EW.trans (hE.mono EW.size)).cell (p := ⟨q1, o1 + k, none⟩) hq1).trans k1
          have ANY := Lib.hid (any_drop hkl)
          have NAT := Lib.hid (natL_drop hkl)
          have hdB : L[k] < 9223372036854775808 := HL.out _ (List.getElem_mem _)
          generalize L[k] = d at *
          have hsz : sn ≠ 0 := by omega
          have hsz0 : (0 : Int) < (sn : Int) := by omega
          by_cases hd1 : d < 1
          · have hdd : decide (d < 1) = true := decide_eq_true hd1
            go_wp2
            go_roundw
            case rel => exact ⟨k, sn, true, gb, by omega, rfl, rfl, rfl, rfl, hs1, hs2, by rw [ANY.out, hdd]; rfl, fun h => absurd h (by simp), hE⟩
            case measure => simp [intOf]
          · have hdd : decide (d < 1) = false := decide_eq_false hd1
            have hany : bb = ((L.drop k).any fun b => decide (b < 1)) := by rw [ANY.out, hdd, HBB.out]; rfl
            have HANY := Lib.hid hany
            clear hany
            obtain ⟨dn, rfl⟩ : ∃ dn : Nat, d = dn := ⟨d.toNat, by omega⟩
            have hdn : 1 ≤ dn := by omega
            have hnat : prodN (natL (L.drop k)) = dn * prodN (natL (L.drop (k + 1))) := by rw [NAT.out]; simp [prodN]
            have HNAT := Lib.hid hnat
            clear hnat
            cases gb with
            | true =>
              go_wp2_with fail
              go_quiet (fail)
              go_wp2
              go_roundw
              case rel =>
                refine ⟨k, sn, bb, true, by omega, rfl, rfl, rfl, rfl, hs1, hs2, HANY.out, fun h => ?_, ⟨hE.os, hE.tape, hE.output, hE.size, hE.block⟩⟩
                rcases HGB.out h with ⟨h1, _⟩ | ⟨_, h2⟩
                · cases h1
                · refine .inr ⟨rfl, ?_⟩
                  rw [HNAT.out]
                  have := Nat.le_mul_of_pos_left (prodN (natL (L.drop (k + 1)))) hdn
                  omega
              case measure => simp [intOf]
            | false =>
              have hg0 := Gr.cell (ext_drew wr) k1
              by_cases hbig : 1073741824 / sn < dn
              · have hbd : decide ((1073741824 : Int) / (sn : Int) < (dn : Int)) = true := decide_eq_true (by have := Int.ofNat_lt.2 hbig; rw [Int.natCast_ediv] at this; exact this)
                have hbi : (1073741824 : Int) / (sn : Int) < (dn : Int) := of_decide_eq_true hbd
                have hover : 1073741824 < dn * sn := by
                  have := Nat.lt_mul_of_div_lt hbig (by omega)
                  first | exact this | (rw [Nat.mul_comm]; exact this)
                have HOV := Lib.hid hover
                clear hover
                go_wp2_with fail
                refine wp_region_E (Array.replicate 11 true) 11 0 mixed (by rfl) ?_
                refine wpE_seg' [0, 1, 2, 3, 4, 5, 6, 7, 8, 9, 10] 0 rfl (by kernel_rfl) ?_
                iterate 11 (refine seg_cons rfl ?_; go_big_quiet_step (rfl))
                refine seg_nil ?_
                refine wpE_tail [] (by kernel_rfl) ?_
                refine tail_nil ?_
                go_wp2
                go_roundw
                case rel =>
                  refine ⟨k, sn, bb, true, by omega, rfl, rfl, rfl, rfl, hs1, hs2, HANY.out, fun h => ?_, hE.drew⟩
                  rcases HGB.out h with ⟨_, h2⟩ | ⟨h1, _⟩
                  · refine .inr ⟨rfl, ?_⟩
                    rw [HNAT.out, ← h2]; exact HOV.out
                  · cases h1
                case measure => simp [intOf]
              · have hbd : decide ((1073741824 : Int) / (sn : Int) < (dn : Int)) = false := decide_eq_false (by have := Int.ofNat_le.2 (Nat.le_of_not_lt hbig); rw [Int.natCast_ediv] at this; exact Int.not_lt.2 this)
                have hbi : ¬ (1073741824 : Int) / (sn : Int) < (dn : Int) := of_decide_eq_false hbd
                have hsb : sn * dn ≤ 1073741824 := by
                  have h1 := Nat.le_of_not_lt hbig
                  have h2 := Nat.mul_le_mul_left sn h1
                  have h3 := Nat.mul_div_le 1073741824 sn
                  omega
                have hsb1 : 1 ≤ sn * dn := Nat.mul_le_mul hs1 hdn
                obtain ⟨O, hO⟩ : ∃ O, O = sn * dn := ⟨_, rfl⟩
                rw [← hO] at hsb hsb1
                have hw1 : wrap64 ((sn : Int) * (dn : Int)) = (O : Int) := by rw [← Int.natCast_mul, ← hO]; exact wr1 (by omega)
                have HO := Lib.hid hO
                clear hO
                go_wp2_with fail
                refine wp_region_E (Array.replicate 11 true) 11 0 mixed (by rfl) ?_
                refine wpE_seg' [0, 1, 2, 3, 4, 5, 6, 7, 8, 9, 10] 0 rfl (by kernel_rfl) ?_
                iterate 11 (refine seg_cons rfl ?_; go_big_quiet_step (rfl))
                refine seg_nil ?_
                refine wpE_tail [] (by kernel_rfl) ?_
                refine tail_nil ?_
                have k2 := cellE (ext_drew wr) k1
                go_wp2
                go_roundw
                case rel =>
                  refine ⟨k, O, bb, false, by omega, rfl, rfl, congrArg (Value.int .i64) hw1, rfl, hsb1, hsb, HANY.out, fun h => ?_, hE.drew⟩
                  rcases HGB.out h with ⟨_, h2⟩ | ⟨h1, _⟩
                  · exact .inl ⟨rfl, by rw [HNAT.out, ← h2, HO.out, Nat.mul_comm]⟩
                  · cases h1
                case measure => simp [intOf]
        · obtain rfl : j = 0 := by omega
          have hbb := HBB.out
          have hgb := HGB.out
          rw [List.drop_zero] at hbb hgb
          have EE := EW.trans (hE.mono EW.size)
          have J3 := I3.mono hE
          obtain ⟨f0, f1, f2⟩ := J3.cell
          cases bb with
          | true =>
            have he : e0 = 1 := by
              rcases FACT.out with ⟨_, h⟩ | ⟨h, _⟩
              · exact h
              · rw [← hbb] at h; cases h
            subst he
            clear hbb hgb
            go_wp2
            go_ret
            exact ⟨rfl, EE⟩
          | false =>
            have hf2 := FACT.out
            rw [← hbb] at hf2
            cases gb with
            | true =>
              have he : e0 = 4 := by
                rcases hf2 with ⟨h, _⟩ | ⟨_, ⟨h, _⟩ | ⟨_, h⟩⟩
                · cases h
                · rcases hgb rfl with ⟨h1, _⟩ | ⟨_, h2⟩
                  · cases h1
                  · omega
                · exact h
              subst he
              clear hbb hgb hf2
              go_wp2
              go_ret
              exact ⟨rfl, EE⟩
            | false =>
              have hsn : sn = prodN (natL L) := by
                rcases hgb rfl with ⟨_, h1⟩ | ⟨h1, _⟩
                · exact h1
                · cases h1
              obtain ⟨he, hR⟩ : e0 = 0 ∧ RadixV w2 (.agg #[.slice b1 m1 d1, .slice b2 m2 d2, .int .i64 z]) (natL L) := by
                rcases hf2 with ⟨h, _⟩ | ⟨_, ⟨_, h1, h2⟩ | ⟨h, _⟩⟩
                · cases h
                · exact ⟨h1, h2⟩
                · omega
              subst he
              obtain ⟨hds, hpos⟩ := natL_ds hbb.symm
              have hmaxp : prodN (natL L) ≤ 1073741824 := by omega
              have hlN : (natL L).length < 1099511627776 := by simp; omega
              have IX := Lib.hid (fun (W : World) (E : Below w2.heap.size w2 W) => index_ok (hR.mono E) (HS1.mono (ext_trans EB E)) hmaxp hpos (by omega) hlN)
              have RI := Lib.hid (fun (W : World) (E : Below w2.heap.size w2 W) => refIndex_ok (by rw [hds]; exact HS0.mono (ext_trans EB E)) (HS1.mono (ext_trans EB E)) hmaxp hpos (by omega) hlN)
              have SZ := Lib.hid (fun (W : World) (E : Below w2.heap.size w2 W) => size_ok (hR.mono E) hpos hmaxp)
              rw [← hsn] at SZ
              have E2 := ext_trans BN hE
              clear hbb hgb hf2 hsn hR hds hpos hmaxp hlN
              cases hv : vldI (natL L) D with
              | true =>
                rw [hv] at IX RI
                simp only [if_true] at IX RI
                generalize horN (natL L) D (natL L).length = H at *
                clear hv
                go_wp2_with fail
                refine (IX.out _ E2).mono ?_
                rintro e w5 ⟨rfl, hb5⟩
                go_wp2_with fail
                refine (RI.out _ (ext_trans E2 hb5)).mono ?_
                rintro e w6 ⟨rfl, hb6⟩
                have E6 := ext_trans hb5 hb6
                obtain ⟨p0, p1, p2⟩ := (J3.mono E6).cell
                go_wp2_with fail
                refine (SZ.out _ (ext_trans E2 E6)).mono ?_
                rintro e w7 ⟨rfl, hb7⟩
                have hmx : max (H : Int) 0 = (H : Int) := by omega
                go_wp2
                go_ret
                exact ⟨rfl, EE.trans ((ext_trans E6 hb7).mono EE.size)⟩
              | false =>
                rw [hv] at IX RI
                simp only [Bool.false_eq_true, if_false] at IX RI
                clear hv
                go_wp2_with fail
                refine (IX.out _ E2).mono ?_
                rintro e w5 ⟨rfl, hb5⟩
                go_wp2_with fail
                refine (RI.out _ (ext_trans E2 hb5)).mono ?_
                rintro e w6 ⟨rfl, hb6⟩
                have E6 := ext_trans hb5 hb6
                obtain ⟨p0, p1, p2⟩ := (J3.mono E6).cell
                go_wp2_with fail
                refine (SZ.out _ (ext_trans E2 E6)).mono ?_
                rintro e w7 ⟨rfl, hb7⟩
                go_wp2
                go_ret
                exact ⟨rfl, EE.trans ((ext_trans E6 hb7).mono EE.size)⟩
  · have HS0 : SlA w (.slice a0 l.length cap0) (i64s (l.take 12)) := by rw [List.take_of_length_le (by omega)]; exact h
    have el : (l.take 12).length = l.length := by simp; omega
    by_cases h2 : 12 < m.length
    · have HS1 : SlA w (.slice a1 12 cap1) (i64s (m.take 12)) := by rw [et]; exact SlA.cutA g (by simp; omega)
      obtain ⟨_, _, hv0, _, hx0⟩ := SlA.outI HS0
      rw [el] at hv0
      cases hv0
      have HX0 := Lib.hid hx0
      have HL := Lib.hid hL
      clear h g et hx0 hL
      generalize l.take 12 = L at *
      generalize m.take 12 = D at *
      go_enter Try.func3, Try.ntmps3
      go_wp2_with fail
      refine (awake23_ok _).mono ?_
      rintro e w1 ⟨rfl, hb1⟩
      go_wp2_with fail
      refine (new_all (HS0.mono hb1) (by omega) HL.out).mono ?_
      rintro e w2 ⟨b1, b2, m1, d1, m2, d2, z, e0, rfl, hb2, hfact⟩
      have FACT := Lib.hid hfact
      have EB := ext_trans hb1 hb2
      have BN := below_new (w := w2) (.cells #[.slice b1 m1 d1, .slice b2 m2 d2, .int .i64 z] tRadix)
      have I3 : Is3 (w2.alloc (.cells #[.slice b1 m1 d1, .slice b2 m2 d2, .int .i64 z] tRadix)) w2.heap.size (.slice b1 m1 d1) (.slice b2 m2 d2) (.int .i64 z) tRadix := ⟨heap_alloc_new' _ _ _ rfl⟩
      have EW := ext_trans EB BN
      clear hfact hb1 hb2
      go_wp2_with fail
      go_loopw [7, 8, 9, 10] (fun bad s big i wr => ∃ (j sn : Nat) (bb gb : Bool), j ≤ l.length ∧ i = .int .i64 ((j : Int) - 1) ∧ bad = .bool bb ∧ s = .int .i64 (sn : Int) ∧ big = .bool gb ∧ 1 ≤ sn ∧ sn ≤ 1073741824 ∧ bb = ((L.drop j).any fun b => decide (b < 1)) ∧
          (bb = false → (gb = false ∧ sn = prodN (natL (L.drop j))) ∨ (gb = true ∧ 1073741824 < prodN (natL (L.drop j)))) ∧ Below (w2.alloc (.cells #[.slice b1 m1 d1, .slice b2 m2 d2, .int .i64 z] tRadix)).heap.size (w2.alloc (.cells #[.slice b1 m1 d1, .slice b2 m2 d2, .int .i64 z] tRadix)) wr)
        (fun _ _ _ i _ => (intOf i + 1).toNat)
      case atStart =>
        have hd0 : L.drop l.length = [] := List.drop_of_length_le (by omega)
        exact ⟨l.length, 1, false, false, by omega, by first | rfl | exact congrArg (Value.int .i64) (by omega), rfl, rfl, rfl, by omega, by omega, by rw [hd0]; rfl, fun _ => .inl ⟨rfl, by rw [hd0]; rfl⟩, Below.refl _ _⟩
      case round =>
        obtain ⟨j, sn, bb, gb, hj, rfl, rfl, rfl, rfl, hs1, hs2, hbb, hgb, hE⟩ := hrel
        have HBB := Lib.hid hbb
        have HGB := Lib.hid hgb
        clear hbb hgb
        by_cases hj0 : 0 < j
        · obtain ⟨k, rfl⟩ : ∃ k, j = k + 1 := ⟨j - 1, by omega⟩
          have hsi : ((k + 1 : Nat) : Int) - 1 = k := by omega
          rw [hsi]
          clear hsi
          have hkl : k < L.length := by omega
          obtain ⟨q1, o1, rfl, hq1, k1⟩ := HX0.out k hkl
          have k1 := ((EW.trans (hE.mono EW.size)).cell (p := ⟨q1, o1 + k, none⟩) hq1).trans k1
          have ANY := Lib.hid (any_drop hkl)
          have NAT := Lib.hid (natL_drop hkl)
          have hdB : L[k] < 9223372036854775808 := HL.out _ (List.getElem_mem _)
          generalize L[k] = d at *
          have hsz : sn ≠ 0 := by omega
          have hsz0 : (0 : Int) < (sn : Int) := by omega
          by_cases hd1 : d < 1
          · have hdd : decide (d < 1) = true := decide_eq_true hd1
            go_wp2
            go_roundw
            case rel => exact ⟨k, sn, true, gb, by omega, rfl, rfl, rfl, rfl, hs1, hs2, by rw [ANY.out, hdd]; rfl, fun h => absurd h (by simp), hE⟩
            case measure => simp [intOf]
          · have hdd : decide (d < 1) = false := decide_eq_false hd1
            have hany : bb = ((L.drop k).any fun b => decide (b < 1)) := by rw [ANY.out, hdd, HBB.out]; rfl
            have HANY := Lib.hid hany
            clear hany
            obtain ⟨dn, rfl⟩ : ∃ dn : Nat, d = dn := ⟨d.toNat, by omega⟩
            have hdn : 1 ≤ dn := by omega
            have hnat : prodN (natL (L.drop k)) = dn * prodN (natL (L.drop (k + 1))) := by rw [NAT.out]; simp [prodN]
            have HNAT := Lib.hid hnat
            clear hnat
            cases gb with
            | true =>
              go_wp2_with fail
              go_quiet (fail)
              go_wp2
              go_roundw
              case rel =>
                refine ⟨k, sn, bb, true, by omega, rfl, rfl, rfl, rfl, hs1, hs2, HANY.out, fun h => ?_, ⟨hE.os, hE.tape, hE.output, hE.size, hE.block⟩⟩
                rcases HGB.out h with ⟨h1, _⟩ | ⟨_, h2⟩
                · cases h1
                · refine .inr ⟨rfl, ?_⟩
                  rw [HNAT.out]
                  have := Nat.le_mul_of_pos_left (prodN (natL (L.drop (k + 1)))) hdn
                  omega
              case measure => simp [intOf]
            | false =>
              have hg0 := Gr.cell (ext_drew wr) k1
              by_cases hbig : 1073741824 / sn < dn
              · have hbd : decide ((1073741824 : Int) / (sn : Int) < (dn : Int)) = true := decide_eq_true (by have := Int.ofNat_lt.2 hbig; rw [Int.natCast_ediv] at this; exact this)
                have hbi : (1073741824 : Int) / (sn : Int) < (dn : Int) := of_decide_eq_true hbd
                have hover : 1073741824 < dn * sn := by
                  have := Nat.lt_mul_of_div_lt hbig (by omega)
                  first | exact this | (rw [Nat.mul_comm]; exact this)
                have HOV := Lib.hid hover
                clear hover
                go_wp2_with fail
                refine wp_region_E (Array.replicate 11 true) 11 0 mixed (by rfl) ?_
                refine wpE_seg' [0, 1, 2, 3, 4, 5, 6, 7, 8, 9, 10] 0 rfl (by kernel_rfl) ?_
                iterate 11 (refine seg_cons rfl ?_; go_big_quiet_step (rfl))
                refine seg_nil ?_
                refine wpE_tail [] (by kernel_rfl) ?_
                refine tail_nil ?_
                go_wp2
                go_roundw
                case rel =>
                  refine ⟨k, sn, bb, true, by omega, rfl, rfl, rfl, rfl, hs1, hs2, HANY.out, fun h => ?_, hE.drew⟩
                  rcases HGB.out h with ⟨_, h2⟩ | ⟨h1, _⟩
                  · refine .inr ⟨rfl, ?_⟩
                    rw [HNAT.out, ← h2]; exact HOV.out
                  · cases h1
                case measure => simp [intOf]
              · have hbd : decide ((1073741824 : Int) / (sn : Int) < (dn : Int)) = false := decide_eq_false (by have := Int.ofNat_le.2 (Nat.le_of_not_lt hbig); rw [Int.natCast_ediv] at this; exact Int.not_lt.2 this)
                have hbi : ¬ (1073741824 : Int) / (sn : Int) < (dn : Int) := of_decide_eq_false hbd
                have hsb : sn * dn ≤ 1073741824 := by
                  have h1 := Nat.le_of_not_lt hbig
                  have h2 := Nat.mul_le_mul_left sn h1
                  have h3 := Nat.mul_div_le 1073741824 sn
                  omega
                have hsb1 : 1 ≤ sn * dn := Nat.mul_le_mul hs1 hdn
                obtain ⟨O, hO⟩ : ∃ O, O = sn * dn := ⟨_, rfl⟩
                rw [← hO] at hsb hsb1
                have hw1 : wrap64 ((sn : Int) * (dn : Int)) = (O : Int) := by rw [← Int.natCast_mul, ← hO]; exact wr1 (by omega)
                have HO := Lib.hid hO
                clear hO
                go_wp2_with fail
                refine wp_region_E (Array.replicate 11 true) 11 0 mixed (by rfl) ?_
                refine wpE_seg' [0, 1, 2, 3, 4, 5, 6, 7, 8, 9, 10] 0 rfl (by kernel_rfl) ?_
                iterate 11 (refine seg_cons rfl ?_; go_big_quiet_step (rfl))
                refine seg_nil ?_
                refine wpE_tail [] (by kernel_rfl) ?_
                refine tail_nil ?_
                have k2 := cellE (ext_drew wr) k1
                go_wp2
                go_roundw
                case rel =>
                  refine ⟨k, O, bb, false, by omega, rfl, rfl, congrArg (Value.int .i64) hw1, rfl, hsb1, hsb, HANY.out, fun h => ?_, hE.drew⟩
                  rcases HGB.out h with ⟨_, h2⟩ | ⟨h1, _⟩
                  · exact .inl ⟨rfl, by rw [HNAT.out, ← h2, HO.out, Nat.mul_comm]⟩
                  · cases h1
                case measure => simp [intOf]
        · obtain rfl : j = 0 := by omega
          have hbb := HBB.out
          have hgb := HGB.out
          rw [List.drop_zero] at hbb hgb
          have EE := EW.trans (hE.mono EW.size)
          have J3 := I3.mono hE
          obtain ⟨f0, f1, f2⟩ := J3.cell
          cases bb with
          | true =>
            have he : e0 = 1 := by
              rcases FACT.out with ⟨_, h⟩ | ⟨h, _⟩
              · exact h
              · rw [← hbb] at h; cases h
            subst he
            clear hbb hgb
            go_wp2
            go_ret
            exact ⟨rfl, EE⟩
          | false =>
            have hf2 := FACT.out
            rw [← hbb] at hf2
            cases gb with
            | true =>
              have he : e0 = 4 := by
                rcases hf2 with ⟨h, _⟩ | ⟨_, ⟨h, _⟩ | ⟨_, h⟩⟩
                · cases h
                · rcases hgb rfl with ⟨h1, _⟩ | ⟨_, h2⟩
                  · cases h1
                  · omega
                · exact h
              subst he
              clear hbb hgb hf2
              go_wp2
              go_ret
              exact ⟨rfl, EE⟩
            | false =>
              have hsn : sn = prodN (natL L) := by
                rcases hgb rfl with ⟨_, h1⟩ | ⟨h1, _⟩
                · exact h1
                · cases h1
              obtain ⟨he, hR⟩ : e0 = 0 ∧ RadixV w2 (.agg #[.slice b1 m1 d1, .slice b2 m2 d2, .int .i64 z]) (natL L) := by
                rcases hf2 with ⟨h, _⟩ | ⟨_, ⟨_, h1, h2⟩ | ⟨h, _⟩⟩
                · cases h
                · exact ⟨h1, h2⟩
                · omega
              subst he
              obtain ⟨hds, hpos⟩ := natL_ds hbb.symm
              have hmaxp : prodN (natL L) ≤ 1073741824 := by omega
              have hlN : (natL L).length < 1099511627776 := by simp; omega
              have IX := Lib.hid (fun (W : World) (E : Below w2.heap.size w2 W) => index_ok (hR.mono E) (HS1.mono (ext_trans EB E)) hmaxp hpos (by omega) hlN)
              have RI := Lib.hid (fun (W : World) (E : Below w2.heap.size w2 W) => refIndex_ok (by rw [hds]; exact HS0.mono (ext_trans EB E)) (HS1.mono (ext_trans EB E)) hmaxp hpos (by omega) hlN)
              have SZ := Lib.hid (fun (W : World) (E : Below w2.heap.size w2 W) => size_ok (hR.mono E) hpos hmaxp)
              rw [← hsn] at SZ
              have E2 := ext_trans BN hE
              clear hbb hgb hf2 hsn hR hds hpos hmaxp hlN
              cases hv : vldI (natL L) D with
              | true =>
                rw [hv] at IX RI
                simp only [if_true] at IX RI
                generalize horN (natL L) D (natL L).length = H at *
                clear hv
                go_wp2_with fail
                refine (IX.out _ E2).mono ?_
                rintro e w5 ⟨rfl, hb5⟩
                go_wp2_with fail
                refine (RI.out _ (ext_trans E2 hb5)).mono ?_
                rintro e w6 ⟨rfl, hb6⟩
                have E6 := ext_trans hb5 hb6
                obtain ⟨p0, p1, p2⟩ := (J3.mono E6).cell
                go_wp2_with fail
                refine (SZ.out _ (ext_trans E2 E6)).mono ?_
                rintro e w7 ⟨rfl, hb7⟩
                have hmx : max (H : Int) 0 = (H : Int) := by omega
                go_wp2
                go_ret
                exact ⟨rfl, EE.trans ((ext_trans E6 hb7).mono EE.size)⟩
              | false =>
                rw [hv] at IX RI
                simp only [Bool.false_eq_true, if_false] at IX RI
                clear hv
                go_wp2_with fail
                refine (IX.out _ E2).mono ?_
                rintro e w5 ⟨rfl, hb5⟩
                go_wp2_with fail
                refine (RI.out _ (ext_trans E2 hb5)).mono ?_
                rintro e w6 ⟨rfl, hb6⟩
                have E6 := ext_trans hb5 hb6
                obtain ⟨p0, p1, p2⟩ := (J3.mono E6).cell
                go_wp2_with fail
                refine (SZ.out _ (ext_trans E2 E6)).mono ?_
                rintro e w7 ⟨rfl, hb7⟩
                go_wp2
                go_ret
                exact ⟨rfl, EE.trans ((ext_trans E6 hb7).mono EE.size)⟩
    · have HS1 : SlA w (.slice a1 m.length cap1) (i64s (m.take 12)) := by rw [List.take_of_length_le (by omega)]; exact g
      obtain ⟨_, _, hv0, _, hx0⟩ := SlA.outI HS0
      rw [el] at hv0
      cases hv0
      have HX0 := Lib.hid hx0
      have HL := Lib.hid hL
      clear h g et hx0 hL
      generalize l.take 12 = L at *
      generalize m.take 12 = D at *
      go_enter Try.func3, Try.ntmps3
      go_wp2_with fail
      refine (awake23_ok _).mono ?_
      rintro e w1 ⟨rfl, hb1⟩
      go_wp2_with fail
      refine (new_all (HS0.mono hb1) (by omega) HL.out).mono ?_
      rintro e w2 ⟨b1, b2, m1, d1, m2, d2, z, e0, rfl, hb2, hfact⟩
      have FACT := Lib.hid hfact
      have EB := ext_trans hb1 hb2
      have BN := below_new (w := w2) (.cells #[.slice b1 m1 d1, .slice b2 m2 d2, .int .i64 z] tRadix)
      have I3 : Is3 (w2.alloc (.cells #[.slice b1 m1 d1, .slice b2 m2 d2, .int .i64 z] tRadix)) w2.heap.size (.slice b1 m1 d1) (.slice b2 m2 d2) (.int .i64 z) tRadix := ⟨heap_alloc_new' _ _ _ rfl⟩
      have EW := ext_trans EB BN
      clear hfact hb1 hb2
      go_wp2_with fail
      go_loopw [7, 8, 9, 10] (fun bad s big i wr => ∃ (j sn : Nat) (bb gb : Bool), j ≤ l.length ∧ i = .int .i64 ((j : Int) - 1) ∧ bad = .bool bb ∧ s = .int .i64 (sn : Int) ∧ big = .bool gb ∧ 1 ≤ sn ∧ sn ≤ 1073741824 ∧ bb = ((L.drop j).any fun b => decide (b < 1)) ∧
          (bb = false → (gb = false ∧ sn = prodN (natL (L.drop j))) ∨ (gb = true ∧ 1073741824 < prodN (natL (L.drop j)))) ∧ Below (w2.alloc (.cells #[.slice b1 m1 d1, .slice b2 m2 d2, .int .i64 z] tRadix)).heap.size (w2.alloc (.cells #[.slice b1 m1 d1, .slice b2 m2 d2, .int .i64 z] tRadix)) wr)
        (fun _ _ _ i _ => (intOf i + 1).toNat)
      case atStart =>
        have hd0 : L.drop l.length = [] := List.drop_of_length_le (by omega)
        exact ⟨l.length, 1, false, false, by omega, by first | rfl | exact congrArg (Value.int .i64) (by omega), rfl, rfl, rfl, by omega, by omega, by rw [hd0]; rfl, fun _ => .inl ⟨rfl, by rw [hd0]; rfl⟩, Below.refl _ _⟩
      case round =>
        obtain ⟨j, sn, bb, gb, hj, rfl, rfl, rfl, rfl, hs1, hs2, hbb, hgb, hE⟩ := hrel
        have HBB := Lib.hid hbb
        have HGB := Lib.hid hgb
        clear hbb hgb
        by_cases hj0 : 0 < j
        · obtain ⟨k, rfl⟩ : ∃ k, j = k + 1 := ⟨j - 1, by omega⟩
          have hsi : ((k + 1 : Nat) : Int) - 1 = k := by omega
          rw [hsi]
          clear hsi
          have hkl : k < L.length := by omega
          obtain ⟨q1, o1, rfl, hq1, k1⟩ := HX0.out k hkl
          have k1 := ((EW.trans (hE.mono EW.size)).cell (p := ⟨q1, o1 + k, none⟩) hq1).trans k1
          have ANY := Lib.hid (any_drop hkl)
          have NAT := Lib.hid (natL_drop hkl)
          have hdB : L[k] < 9223372036854775808 := HL.out _ (List.getElem_mem _)
          generalize L[k] = d at *
          have hsz : sn ≠ 0 := by omega
          have hsz0 : (0 : Int) < (sn : Int) := by omega
          by_cases hd1 : d < 1
          · have hdd : decide (d < 1) = true := decide_eq_true hd1
            go_wp2
            go_roundw
            case rel => exact ⟨k, sn, true, gb, by omega, rfl, rfl, rfl, rfl, hs1, hs2, by rw [ANY.out, hdd]; rfl, fun h => absurd h (by simp), hE⟩
            case measure => simp [intOf]
          · have hdd : decide (d < 1) = false := decide_eq_false hd1
            have hany : bb = ((L.drop k).any fun b => decide (b < 1)) := by rw [ANY.out, hdd, HBB.out]; rfl
            have HANY := Lib.hid hany
            clear hany
            obtain ⟨dn, rfl⟩ : ∃ dn : Nat, d = dn := ⟨d.toNat, by omega⟩
            have hdn : 1 ≤ dn := by omega
            have hnat : prodN (natL (L.drop k)) = dn * prodN (natL (L.drop (k + 1))) := by rw [NAT.out]; simp [prodN]
            have HNAT := Lib.hid hnat
            clear hnat
            cases gb with
            | true =>
              go_wp2_with fail
              go_quiet (fail)
              go_wp2
              go_roundw
              case rel =>
                refine ⟨k, sn, bb, true, by omega, rfl, rfl, rfl, rfl, hs1, hs2, HANY.out, fun h => ?_, ⟨hE.os, hE.tape, hE.output, hE.size, hE.block⟩⟩
                rcases HGB.out h with ⟨h1, _⟩ | ⟨_, h2⟩
                · cases h1
                · refine .inr ⟨rfl, ?_⟩
                  rw [HNAT.out]
                  have := Nat.le_mul_of_pos_left (prodN (natL (L.drop (k + 1)))) hdn
                  omega
              case measure => simp [intOf]
            | false =>
              have hg0 := Gr.cell (ext_drew wr) k1
              by_cases hbig : 1073741824 / sn < dn
              · have hbd : decide ((1073741824 : Int) / (sn : Int) < (dn : Int)) = true := decide_eq_true (by have := Int.ofNat_lt.2 hbig; rw [Int.natCast_ediv] at this; exact this)
                have hbi : (1073741824 : Int) / (sn : Int) < (dn : Int) := of_decide_eq_true hbd
                have hover : 1073741824 < dn * sn := by
                  have := Nat.lt_mul_of_div_lt hbig (by omega)
                  first | exact this | (rw [Nat.mul_comm]; exact this)
                have HOV := Lib.hid hover
                clear hover
                go_wp2_with fail
                refine wp_region_E (Array.replicate 11 true) 11 0 mixed (by rfl) ?_
                refine wpE_seg' [0, 1, 2, 3, 4, 5, 6, 7, 8, 9, 10] 0 rfl (by kernel_rfl) ?_
                iterate 11 (refine seg_cons rfl ?_; go_big_quiet_step (rfl))
                refine seg_nil ?_
                refine wpE_tail [] (by kernel_rfl) ?_
                refine tail_nil ?_
                go_wp2
                go_roundw
                case rel =>
                  refine ⟨k, sn, bb, true, by omega, rfl, rfl, rfl, rfl, hs1, hs2, HANY.out, fun h => ?_, hE.drew⟩
                  rcases HGB.out h with ⟨_, h2⟩ | ⟨h1, _⟩
                  · refine .inr ⟨rfl, ?_⟩
                    rw [HNAT.out, ← h2]; exact HOV.out
                  · cases h1
                case measure => simp [intOf]
              · have hbd : decide ((1073741824 : Int) / (sn : Int) < (dn : Int)) = false := decide_eq_false (by have := Int.ofNat_le.2 (Nat.le_of_not_lt hbig); rw [Int.natCast_ediv] at this; exact Int.not_lt.2 this)
                have hbi : ¬ (1073741824 : Int) / (sn : Int) < (dn : Int) := of_decide_eq_false hbd
                have hsb : sn * dn ≤ 1073741824 := by
                  have h1 := Nat.le_of_not_lt hbig
                  have h2 := Nat.mul_le_mul_left sn h1
                  have h3 := Nat.mul_div_le 1073741824 sn
                  omega
                have hsb1 : 1 ≤ sn * dn := Nat.mul_le_mul hs1 hdn
                obtain ⟨O, hO⟩ : ∃ O, O = sn * dn := ⟨_, rfl⟩
                rw [← hO] at hsb hsb1
                have hw1 : wrap64 ((sn : Int) * (dn : Int)) = (O : Int) := by rw [← Int.natCast_mul, ← hO]; exact wr1 (by omega)
                have HO := Lib.hid hO
                clear hO
                go_wp2_with fail
                refine wp_region_E (Array.replicate 11 true) 11 0 mixed (by rfl) ?_
                refine wpE_seg' [0, 1, 2, 3, 4, 5, 6, 7, 8, 9, 10] 0 rfl (by kernel_rfl) ?_
                iterate 11 (refine seg_cons rfl ?_; go_big_quiet_step (rfl))
                refine seg_nil ?_
                refine wpE_tail [] (by kernel_rfl) ?_
                refine tail_nil ?_
                have k2 := cellE (ext_drew wr) k1
                go_wp2
                go_roundw
                case rel =>
                  refine ⟨k, O, bb, false, by omega, rfl, rfl, congrArg (Value.int .i64) hw1, rfl, hsb1, hsb, HANY.out, fun h => ?_, hE.drew⟩
                  rcases HGB.out h with ⟨_, h2⟩ | ⟨h1, _⟩
                  · exact .inl ⟨rfl, by rw [HNAT.out, ← h2, HO.out, Nat.mul_comm]⟩
                  · cases h1
                case measure => simp [intOf]
        · obtain rfl : j = 0 := by omega
          have hbb := HBB.out
          have hgb := HGB.out
          rw [List.drop_zero] at hbb hgb
          have EE := EW.trans (hE.mono EW.size)
          have J3 := I3.mono hE
          obtain ⟨f0, f1, f2⟩ := J3.cell
          cases bb with
          | true =>
            have he : e0 = 1 := by
              rcases FACT.out with ⟨_, h⟩ | ⟨h, _⟩
              · exact h
              · rw [← hbb] at h; cases h
            subst he
            clear hbb hgb
            go_wp2
            go_ret
            exact ⟨rfl, EE⟩
          | false =>
            have hf2 := FACT.out
            rw [← hbb] at hf2
            cases gb with
            | true =>
              have he : e0 = 4 := by
                rcases hf2 with ⟨h, _⟩ | ⟨_, ⟨h, _⟩ | ⟨_, h⟩⟩
                · cases h
                · rcases hgb rfl with ⟨h1, _⟩ | ⟨_, h2⟩
                  · cases h1
                  · omega
                · exact h
              subst he
              clear hbb hgb hf2
              go_wp2
              go_ret
              exact ⟨rfl, EE⟩
            | false =>
              have hsn : sn = prodN (natL L) := by
                rcases hgb rfl with ⟨_, h1⟩ | ⟨h1, _⟩
                · exact h1
                · cases h1
              obtain ⟨he, hR⟩ : e0 = 0 ∧ RadixV w2 (.agg #[.slice b1 m1 d1, .slice b2 m2 d2, .int .i64 z]) (natL L) := by
                rcases hf2 with ⟨h, _⟩ | ⟨_, ⟨_, h1, h2⟩ | ⟨h, _⟩⟩
                · cases h
                · exact ⟨h1, h2⟩
                · omega
              subst he
              obtain ⟨hds, hpos⟩ := natL_ds hbb.symm
              have hmaxp : prodN (natL L) ≤ 1073741824 := by omega
              have hlN : (natL L).length < 1099511627776 := by simp; omega
              have IX := Lib.hid (fun (W : World) (E : Below w2.heap.size w2 W) => index_ok (hR.mono E) (HS1.mono (ext_trans EB E)) hmaxp hpos (by omega) hlN)
              have RI := Lib.hid (fun (W : World) (E : Below w2.heap.size w2 W) => refIndex_ok (by rw [hds]; exact HS0.mono (ext_trans EB E)) (HS1.mono (ext_trans EB E)) hmaxp hpos (by omega) hlN)
              have SZ := Lib.hid (fun (W : World) (E : Below w2.heap.size w2 W) => size_ok (hR.mono E) hpos hmaxp)
              rw [← hsn] at SZ
              have E2 := ext_trans BN hE
              clear hbb hgb hf2 hsn hR hds hpos hmaxp hlN
              cases hv : vldI (natL L) D with
              | true =>
                rw [hv] at IX RI
                simp only [if_true] at IX RI
                generalize horN (natL L) D (natL L).length = H at *
                clear hv
                go_wp2_with fail
                refine (IX.out _ E2).mono ?_
                rintro e w5 ⟨rfl, hb5⟩
                go_wp2_with fail
                refine (RI.out _ (ext_trans E2 hb5)).mono ?_
                rintro e w6 ⟨rfl, hb6⟩
                have E6 := ext_trans hb5 hb6
                obtain ⟨p0, p1, p2⟩ := (J3.mono E6).cell
                go_wp2_with fail
                refine (SZ.out _ (ext_trans E2 E6)).mono ?_
                rintro e w7 ⟨rfl, hb7⟩
                have hmx : max (H : Int) 0 = (H : Int) := by omega
                go_wp2
                go_ret
                exact ⟨rfl, EE.trans ((ext_trans E6 hb7).mono EE.size)⟩
              | false =>
                rw [hv] at IX RI
                simp only [Bool.false_eq_true, if_false] at IX RI
                clear hv
                go_wp2_with fail
                refine (IX.out _ E2).mono ?_
                rintro e w5 ⟨rfl, hb5⟩
                go_wp2_with fail
                refine (RI.out _ (ext_trans E2 hb5)).mono ?_
                rintro e w6 ⟨rfl, hb6⟩
                have E6 := ext_trans hb5 hb6
                obtain ⟨p0, p1, p2⟩ := (J3.mono E6).cell
                go_wp2_with fail
                refine (SZ.out _ (ext_trans E2 E6)).mono ?_
                rintro e w7 ⟨rfl, hb7⟩
                go_wp2
                go_ret
                exact ⟨rfl, EE.trans ((ext_trans E6 hb7).mono EE.size)⟩
end Go.Proofs.Ytcabmibcgedhhaa

/-
  The walk of cedillalaw01.Is.
-/
import Derived.Test.YtcabmibcgedhhaaDoorRef3
namespace Go.Proofs.YtcabmibcgedhhaaDoor
open Go.RowKit Go.Cd

theorem cmp_eq_zero (x y : Nat) : (cmpN x y == 0) = decide (x = y) := by
  unfold cmpN
  by_cases h : x < y
  · rw [if_pos h]; simp; omega
  · rw [if_neg h]
    by_cases h' : y < x
    · rw [if_pos h']; simp; omega
    · rw [if_neg h']; simp; omega

set_option maxRecDepth 100000 in
set_option maxHeartbeats 1600000 in
theorem is_ok {w : World} {v u : Value} {x y : Nat} (h : NatV w v x) (g : DecV w u y) (hx : (digs B x).length < 50000000) (hy : (digs 10 y).length < 1073741824) :
    Calls Tryd.prog 16 #[v, u] w fun e w' => e = .returned (.bool (decide (x = y))) ∧ Below w.heap.size w w' := by
  obtain ⟨s, rfl, hs⟩ := id h
  obtain ⟨a, cap, rfl, _⟩ := id hs
  rw [length_u32s] at *
  have hl := digs_lt two_le_B x
  have hv := val_digs two_le_B x
  have hlast := digs_last two_le_B x
  have h10 := len10_le (x := x) ((len_digs_le two_le_B).1 (Nat.le_refl (digs B x).length))
  have HS := Lib.hid h
  have HG := Lib.hid g
  have HL := Lib.hid hl
  have HV := Lib.hid hv
  have nl := fun (W : World) (E : Below w.heap.size w W) => natLimbs_ok (h.mono E) (by omega)
  have NL := Lib.hid nl
  have HLast := Lib.hid hlast
  clear h g hs hl hv nl hlast
  generalize hdg : digs B x = l at *
  clear hdg
  go_enter Tryd.func16, Tryd.ntmps16
  go_wp2_with fail
  refine (NL.out _ (below_new _)).mono ?_
  rintro e w1 ⟨r, rfl, hown, hb1⟩
  have hE1 := ext_trans (below_new (w := w) _) hb1
  obtain ⟨a1, cap1, rfl, hc1, hr1⟩ := Sl.out (Sl.of_own hown)
  simp only [length_u32s] at *
  have c1 := fun (W : World) (E : Below w.heap.size w W) (v : Value) (hv : DecV W v (val B l)) => refCompare_ok hv (HG.out.mono E) (by rw [HV.out]; omega) hy
  have HC := Lib.hid c1
  have HO := Lib.hid (refOf_ok (Sl.of_own hown) HL.out (by omega))
  clear c1 hown hb1
  by_cases h0 : 0 < l.length
  · obtain ⟨b, off, rfl, _, hcell⟩ := hr1 (l.length - 1) (by omega)
    rw [u32s_getElem _ _ (by omega)] at hcell
    have hne : l[l.length - 1] ≠ 0 := HLast.out _ (by rw [List.getLast?_eq_getElem?, List.getElem?_eq_getElem (by omega)])
    generalize l[l.length - 1] = d at *
    have hz : ((d : Int) == 0) = false := by simp; omega
    clear hr1
    go_wp2_with fail
    refine HO.out.mono ?_
    rintro e w2 ⟨u2, rfl, hu2, hb2⟩
    have hE2 := ext_trans hE1 hb2
    go_wp2_with fail
    refine (HC.out _ hE2 _ hu2).mono ?_
    rintro e w3 ⟨rfl, hb3⟩
    rw [HV.out]
    have HCC := Lib.hid (cmp_eq_zero x y)
    clear hu2 hb2
    go_wp2
    go_ret
    exact ⟨ret_bool HCC.out, ext_trans hE2 hb3⟩
  · clear hr1
    go_wp2_with fail
    refine HO.out.mono ?_
    rintro e w2 ⟨u2, rfl, hu2, hb2⟩
    have hE2 := ext_trans hE1 hb2
    go_wp2_with fail
    refine (HC.out _ hE2 _ hu2).mono ?_
    rintro e w3 ⟨rfl, hb3⟩
    rw [HV.out]
    have HCC := Lib.hid (cmp_eq_zero x y)
    clear hu2 hb2
    go_wp2
    go_ret
    exact ⟨ret_bool HCC.out, ext_trans hE2 hb3⟩

end Go.Proofs.YtcabmibcgedhhaaDoor

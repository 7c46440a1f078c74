/-
  The walk of cedillalaw01.awake.
-/
import Derived.Test.YtcabmibcgedhhaaNat7
namespace Go.Proofs.Ytcabmibcgedhhaa
open Go.RowKit Go.Cd

theorem lenB_le {x n : Nat} (h : x < B ^ n) : (digs B x).length ≤ n := (len_digs_le two_le_B).2 h

set_option maxRecDepth 100000 in
set_option maxHeartbeats 800000 in
theorem awake01_ok (w : World) : Calls Try.prog 29 #[] w fun e w' => e = .returned (.bool true) ∧ Below w.heap.size w w' := by
  have ed : digs B 18446744073709551616 = [0, 0, 1] := by
    have := digs_val two_le_B [0, 0, 1] (by decide) (by simp)
    have e2 : val B [0, 0, 1] = 18446744073709551616 := by decide
    rw [e2] at this; exact this
  have e65 : (digs 2 18446744073709551616).length = 65 := by
    have := bits_top (x := 18446744073709551616) (n := 2) (by rw [ed]; rfl)
    rw [this]
    have h1 : dig B 18446744073709551616 2 = 1 := by decide
    rw [h1, digs_pos (by omega) (by omega)]
    simp [digs_zero]
  have b1 : (digs B 18446744073709551615).length ≤ 2 := lenB_le (by decide)
  have b2 : (digs B 1).length ≤ 1 := lenB_le (by decide)
  have b3 : (digs B 3).length ≤ 1 := lenB_le (by decide)
  have b4 : (digs B 4).length ≤ 1 := lenB_le (by decide)
  have o1 := of_ok 18446744073709551615 (by omega)
  have o2 := of_ok 1 (by omega)
  have o3 := of_ok 3 (by omega)
  have o4 := of_ok 4 (by omega)
  have O1 := Lib.hid o1
  have O2 := Lib.hid o2
  have O3 := Lib.hid o3
  have O4 := Lib.hid o4
  have E65 := Lib.hid e65
  have ED := Lib.hid ed
  have B1 := Lib.hid b1
  have B2 := Lib.hid b2
  have B3 := Lib.hid b3
  have B4 := Lib.hid b4
  clear ed e65 o1 o2 o3 o4 b1 b2 b3 b4
  go_enter Try.func29, Try.ntmps29
  go_wp2_with fail
  refine (O1.out _).mono ?_
  rintro e w1 ⟨r1, rfl, n1, h1⟩
  go_wp2_with fail
  refine (O2.out _).mono ?_
  rintro e w2 ⟨r2, rfl, n2, h2⟩
  go_wp2_with fail
  refine (add_ok (n1.mono h2) n2 (by have := B1.out; omega) (by have := B2.out; omega)).mono ?_
  rintro e w3 ⟨r3, rfl, n3, h3⟩
  obtain ⟨a, n, cap, rfl, n3⟩ := n3.out
  have H3 := ext_trans h1 (ext_trans h2 h3)
  clear n1 n2 h1 h2 h3
  go_wp2_with fail
  refine (natLimbs_ok (x := 18446744073709551616) (n3.mono (below_new _)) (by rw [ED.out]; simp)).mono ?_
  rintro e w4 ⟨r4, rfl, n4, h4⟩
  have H4 := ext_trans (below_new (w := w3) (.cells #[.slice a n cap] 42)) h4
  have c4 : w4.cell? ⟨w3.heap.size, 0, none⟩ = some (.slice a n cap) := cellE h4 (by go_simp)
  rw [ED.out] at n4
  have N3 := n3.mono H4
  clear h4 n3
  go_wp2_with fail
  refine (O3.out _).mono ?_
  rintro e w5 ⟨r5, rfl, n5, h5⟩
  go_wp2_with fail
  refine (O4.out _).mono ?_
  rintro e w6 ⟨r6, rfl, n6, h6⟩
  go_wp2_with fail
  refine (sub_less (n5.mono h6) n6 (by have := B3.out; omega) (by have := B4.out; omega) (by omega)).mono ?_
  rintro e w7 ⟨r7, rfl, n7, h7⟩
  obtain ⟨a7, m7, cap7, rfl, n7⟩ := n7.out
  have H7 := ext_trans h5 (ext_trans h6 h7)
  have n4 := own_ext n4 H7
  have c7 := cellE H7 c4
  have N7 := N3.mono H7
  have HB := ext_trans H3 (ext_trans H4 H7)
  clear h5 h6 h7 n5 n6 n7 c4 N3
  obtain ⟨hl4, hs4 | ⟨g, cap4, cur, rfl, hg, hh, hr⟩⟩ := id n4
  · simp at hs4
  obtain ⟨hx0, _⟩ := own_at n4 (j := 0) (by simp)
  obtain ⟨hx1, _⟩ := own_at n4 (j := 1) (by simp)
  obtain ⟨hx2, _⟩ := own_at n4 (j := 2) (by simp)
  simp only [u32s, List.map_cons, List.map_nil, List.getElem_cons_zero, List.getElem_cons_succ] at hx0 hx1 hx2
  have hgl := block_lt hh
  clear hl4 hh hr n4 hg
  have hlt3 : w3.heap.size < w7.heap.size := World.block_lt_of_cell? _ _ c7
  go_wp2_with fail
  refine (bits_ok (x := 18446744073709551616) (N7.mono (below_new _)) (by rw [ED.out]; simp)).mono ?_
  rintro e w8 ⟨rfl, h8⟩
  rw [E65.out]
  go_wp2
  go_ret
  exact ⟨rfl, ext_trans HB (ext_trans (below_new _) h8)⟩
/-- A number out of a few digits. -/
theorem take_lt {l : List Nat} (h : ∀ d ∈ l, d < B) : ∀ d ∈ l.take 40, d < B := fun d hd => h d (List.mem_of_mem_take hd)
theorem fewLen (l : List Nat) (h : ∀ d ∈ l, d < B) : (digs B (val B (l.take 40))).length ≤ 40 :=
  Nat.le_trans (val_len_lt two_le_B (take_lt h)) (by simp; omega)


theorem powB (n : Nat) : B ^ n = 2 ^ (32 * n) := by rw [Nat.pow_mul]; rfl

end Go.Proofs.Ytcabmibcgedhhaa

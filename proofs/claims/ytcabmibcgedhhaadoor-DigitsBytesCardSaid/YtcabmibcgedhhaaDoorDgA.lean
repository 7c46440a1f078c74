/-
  The walk of cedillalaw03.awake.
-/
import Derived.Test.YtcabmibcgedhhaaDoorDgP
namespace Go.Proofs.YtcabmibcgedhhaaDoor
open Go.RowKit Go.Cd

theorem sl_new (w : World) (l : List Nat) : Sl eU32 (w.alloc (.cells (u32s l).toArray eU32)) (.slice (some ⟨w.heap.size, 0, none⟩) l.length l.length) (u32s l) :=
  ⟨_, l.length, by simp, by simp, .inr ⟨w.heap.size, 0, (u32s l).toArray, (0, 0), rfl, heap_alloc_new _ _, fun i hi => by
    rw [Nat.zero_add, ← Array.getElem?_toList]
    exact List.getElem?_eq_getElem hi⟩⟩

theorem val01 : val B [0, 1] = 4294967296 := by decide
theorem digs10_32 : digs 10 4294967296 = [6, 9, 2, 7, 6, 9, 4, 9, 2, 4] := by
  have := digs_val (b := 10) (by omega) [6, 9, 2, 7, 6, 9, 4, 9, 2, 4] (by decide) (by simp)
  have e2 : val 10 [6, 9, 2, 7, 6, 9, 4, 9, 2, 4] = 4294967296 := by decide
  rw [e2] at this; exact this
theorem digs256_32 : digs 256 4294967296 = [0, 0, 0, 0, 1] := by
  have := digs_val (b := 256) (by omega) [0, 0, 0, 0, 1] (by decide) (by simp)
  have e2 : val 256 [0, 0, 0, 0, 1] = 4294967296 := by decide
  rw [e2] at this; exact this
theorem text32 : str (decT 4294967296) = ⟨#[52, 50, 57, 52, 57, 54, 55, 50, 57, 54]⟩ := by
  unfold decT
  rw [if_neg (by omega), digs10_32]; rfl
theorem put32 : putB 4294967296 = [0, 0, 0, 5, 1, 0, 0, 0, 0] := by
  unfold putB bb
  rw [digs256_32]; rfl

set_option maxRecDepth 100000 in
set_option maxHeartbeats 1600000 in
theorem awake03_ok (w : World) : Calls Tryd.prog 8 #[] w fun e w' => e = .returned (.bool true) ∧ Below w.heap.size w w' := by
  have HL := Lib.hid (limbs_ok (sl_new w [0, 1]) (by decide) (by decide))
  rw [val01] at HL
  have hl : (digs B 4294967296).length ≤ 2 := (len_digs_le two_le_B).2 (by decide)
  have hb := below_new (w := w) (.cells (u32s [0, 1]).toArray eU32)
  go_enter Tryd.func8, Tryd.ntmps8
  go_wp2_with fail
  refine HL.out.mono ?_
  rintro e w1 ⟨r, rfl, h1, hb1⟩
  have hE1 := ext_trans hb hb1
  obtain ⟨a, n, cap, rfl, h1⟩ := h1.out
  have hb2 := below_new (w := w1) (.cells #[.slice a n cap] tNat)
  have c1 : (w1.alloc (.cells #[.slice a n cap] tNat)).cell? ⟨w1.heap.size, 0, none⟩ = some (.slice a n cap) := by unfold World.cell?; rw [heap_alloc_new]; rfl
  have h2 := h1.mono hb2
  have TX := Lib.hid (text_ok h2 (by omega))
  rw [text32] at TX
  clear HL hb hb1 h1
  go_wp2_with fail
  refine TX.out.mono ?_
  rintro e w3 ⟨rfl, h3⟩
  have c3 := cellE h3 c1
  have PT := Lib.hid (put_ok (w := w3) (v := .slice none 0 0) (l := []) ⟨none, 0, rfl, Nat.le_refl _, .inl ⟨rfl, fun _ => rfl⟩⟩ (by decide) (h2.mono h3) (by omega))
  rw [put32, List.nil_append] at PT
  clear TX c1 h2
  go_wp2_with fail
  refine PT.out.mono ?_
  rintro e w4 ⟨r4, rfl, o4, h4⟩
  obtain ⟨a4, c4, rfl, _⟩ := SlA.outB (Sl.of_own o4).any
  have hcv : (convert 39 9 (.slice a4 9 c4)).run Tryd.prog w4 = .ok (.string ⟨#[0, 0, 0, 5, 1, 0, 0, 0, 0]⟩) w4 := conv_str (Sl.of_own o4).any (by decide)
  clear PT c3
  go_wp2
  go_ret
  exact ⟨by simp, ext_trans hE1 (ext_trans hb2 (ext_trans h3 h4))⟩
end Go.Proofs.YtcabmibcgedhhaaDoor

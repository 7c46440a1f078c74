/-
  The walk of cedillaref01.Text.
-/
import Derived.Test.YtcabmibcgedhhaaDoorDgQ
namespace Go.Proofs.YtcabmibcgedhhaaDoor
open Go.RowKit Go.Cd

theorem str_app (a b : List Nat) : str a ++ str b = str (a ++ b) := by
  apply ByteArray.ext
  simp [str, ByteArray.data_append]

/-- The text of the first j digits. -/
def rvt (X : List Nat) (j : Nat) : List Nat := (X.take j).reverse.map (48 + ·)
theorem rvt_zero (X : List Nat) : rvt X 0 = [] := by simp [rvt]
theorem rvt_succ {X : List Nat} {j : Nat} (h : j < X.length) : rvt X (j + 1) = [48 + X[j]] ++ rvt X j := by
  unfold rvt
  rw [List.take_succ_eq_append_getElem h, List.reverse_append, List.map_append]; rfl
theorem rvt_all (X : List Nat) : rvt X X.length = X.reverse.map (48 + ·) := by simp [rvt]
theorem size_rvt {X : List Nat} {j : Nat} (h : j ≤ X.length) : (str (rvt X j)).size = j := by
  rw [size_str]; unfold rvt; simp; omega

theorem conv_lit1 (w : World) (d : Nat) (hd : d < 10) :
    (convert 39 9 (.slice (some ⟨w.heap.size, 0, none⟩) 1 1)).run Go.Proofs.Tryd.prog (w.alloc (.cells #[.int .u8 (48 + (d : Int))] eU8)) = .ok (.string (str [48 + d])) (w.alloc (.cells #[.int .u8 (48 + (d : Int))] eU8)) := by
  refine conv_str (L := [48 + d]) ?_ (fun c hc => by simp at hc; omega)
  have := (sla_new w #[.int .u8 (48 + (d : Int))] eU8)
  have e : bys [48 + d] = [.int .u8 (48 + (d : Int))] := by simp [bys]
  rw [e]
  exact this

set_option maxRecDepth 100000 in
set_option maxHeartbeats 1600000 in
theorem refText_ok {w : World} {v : Value} {x : Nat} (h : DecV w v x) (hx : (digs 10 x).length < 1000000) :
    Calls Tryd.prog 24 #[v] w fun e w' => e = .returned (.string (str (decT x))) ∧ Below w.heap.size w w' := by
  obtain ⟨a, cap, rfl, hc, hr⟩ := Sl.out h
  simp only [length_ds] at *
  have HR := Lib.hid hr
  have HL := Lib.hid (fun d hd => digs_lt (b := 10) (by omega) x d hd)
  by_cases hx0 : x = 0
  · subst hx0
    rw [digs_zero, List.length_nil]
    clear h hr HR hc hx
    go_enter Tryd.func24, Tryd.ntmps24
    go_wp2
    go_ret
    exact ⟨rfl, Below.refl _ _⟩
  · have hpos : 0 < (digs 10 x).length := by
      rcases Nat.eq_zero_or_pos (digs 10 x).length with h0 | h0
      · exact absurd (by have := val_digs (b := 10) (by omega) x; rw [List.length_eq_zero_iff.1 h0] at this; exact this.symm) hx0
      · exact h0
    have hdec : decT x = rvt (digs 10 x) (digs 10 x).length := by rw [rvt_all]; unfold decT; rw [if_neg hx0]
    rw [hdec]
    clear hdec hx0 h hr
    obtain ⟨X, hX⟩ : ∃ X, X = digs 10 x := ⟨_, rfl⟩
    rw [← hX] at HR HL hx hpos hc ⊢
    obtain ⟨n, hn⟩ : ∃ n, n = X.length := ⟨_, rfl⟩
    rw [← hn] at hx hpos hc ⊢
    have HN := Lib.hid hn
    clear hX hn
    go_enter Tryd.func24, Tryd.ntmps24
    go_wp2_with fail
    go_loopw [3, 11] (fun s i wr => ∃ j : Nat, j ≤ n ∧ i = .int .i64 j ∧ s = .string (str (rvt X j)) ∧ Below w.heap.size w wr)
      (fun _ i _ => n - (intOf i).toNat)
    case atStart => exact ⟨0, Nat.zero_le _, rfl, by rw [rvt_zero]; rfl, Below.refl _ _⟩
    case round =>
      obtain ⟨j, hj, rfl, rfl, hE⟩ := hrel
      by_cases hjn : j < n
      · have hjX : j < X.length := by have := HN.out; omega
        obtain ⟨b, off, rfl, hb, hcell⟩ := HR.out j hjX
        have hcell := (hE.cell (p := ⟨b, off + j, none⟩) hb).trans hcell
        have e1 : (ds X)[j]'(by simpa using hjX) = .int .i64 (X[j] : Nat) := by simp [ds]
        rw [e1] at hcell
        have hd := HL.out _ (List.getElem_mem hjX)
        have HS := Lib.hid (rvt_succ hjX)
        have hsz : (str (rvt X j)).size = j := size_rvt (by omega)
        generalize X[j] = d at *
        have hcv := conv_lit1 wr d hd
        have HA := Lib.hid (str_app [48 + d] (rvt X j))
        have hs1 : (str [48 + d]).size = 1 := rfl
        clear e1 hb
        go_wp2_with fail
        rw [HA.out]
        go_roundw
        case rel => exact ⟨j + 1, by omega, rfl, by rw [HS.out], ext_trans hE (below_new _)⟩
        case measure => simp [intOf]; omega
      · obtain rfl : j = n := by omega
        go_wp2
        go_ret
        exact ⟨rfl, hE⟩
end Go.Proofs.YtcabmibcgedhhaaDoor

/-
  The walk of digits.Put.
-/
import Derived.Test.YtcabmibcgedhhaaDoorDgB
import Derived.Test.YtcabmibcgedhhaaDoorTxt2
namespace Go.Proofs.YtcabmibcgedhhaaDoor
open Go.RowKit Go.Cd

/-- How many, in four bytes, the highest first; the first k of them. -/
def len4 (n k : Nat) : List Nat := (List.range k).map fun j => n / 256 ^ (3 - j) % 256
theorem len4_succ (n k : Nat) : len4 n (k + 1) = len4 n k ++ [n / 256 ^ (3 - k) % 256] := by simp [len4, List.range_succ]
@[simp] theorem length_len4 (n k : Nat) : (len4 n k).length = k := by simp [len4]
/-- A number's bytes, with how many there are ahead. -/
def putB (x : Nat) : List Nat := len4 (bb x).length 4 ++ bb x
theorem putB_lt (x : Nat) : ∀ d ∈ putB x, d < 256 := by
  intro d hd
  rcases List.mem_append.1 hd with h | h
  · obtain ⟨j, _, rfl⟩ := List.mem_map.1 h
    exact Nat.mod_lt _ (by omega)
  · exact bb_lt x d h

theorem len_bbx {x : Nat} (hx : (digs B x).length < 1000000) : (bb x).length < 4000000 := by
  have h := len_bb (V := x) (n := (digs B x).length) ((len_digs_le two_le_B).1 (Nat.le_refl _))
  omega

set_option maxRecDepth 100000 in
set_option maxHeartbeats 3200000 in
theorem put_ok {w : World} {v u : Value} {x : Nat} {l : List Nat} (g : SlA w v (bys l)) (hl : l.length < 1000000) (h : NatV w u x) (hx : (digs B x).length < 1000000) :
    Calls Tryd.prog 18 #[v, u] w fun e w' => ∃ r, e = .returned r ∧ w'.ownsRow w.heap.size eU8 1 r (l.length + (4 + (bb x).length)) (bys (l ++ putB x)) ∧ Below w.heap.size w w' := by
  obtain ⟨a, n, cap, rfl, h⟩ := h.out
  obtain ⟨a0, c0, rfl, _⟩ := SlA.outB g
  have hb := below_new (w := w) (.cells #[.slice a n cap] tNat)
  have c1 : (w.alloc (.cells #[.slice a n cap] tNat)).cell? ⟨w.heap.size, 0, none⟩ = some (.slice a n cap) := by unfold World.cell?; rw [heap_alloc_new]; rfl
  have BY := Lib.hid (bytes_ok (h.mono hb) hx)
  have hbl := len_bbx hx
  have G := Lib.hid (g.mono hb)
  clear h g
  go_enter Tryd.func18, Tryd.ntmps18
  go_wp2_with fail
  refine BY.out.mono ?_
  rintro e w1 ⟨r1, rfl, o1, h1⟩
  have hE1 := ext_trans hb h1
  have L1 := (Sl.of_own o1).any
  obtain ⟨a5, c5, rfl, _⟩ := SlA.outB L1
  have g1 := G.out.mono h1
  clear BY G c1 hb h1 o1
  go_wp2_with fail
  refine (cloneB_ok g1 (by omega)).mono ?_
  rintro e w2 ⟨r2, rfl, o2, h2⟩
  clear g1
  go_wp2_with fail
  go_loopw [6, 7] (fun o kk wr => ∃ (j : Nat), j ≤ 4 ∧ kk = .int .i64 (3 - (j : Int)) ∧ wr.ownsRow w1.heap.size eU8 1 o (l.length + j) (bys (l ++ len4 (bb x).length j)) ∧ Below w1.heap.size w1 wr)
    (fun _ kk _ => (intOf kk + 1).toNat)
  case atStart => exact ⟨0, by omega, rfl, by simpa [len4] using o2, h2⟩
  case round =>
    clear o2 h2
    obtain ⟨j, hj, rfl, ho, hE⟩ := hrel
    by_cases hj4 : j < 4
    · obtain ⟨k, hk⟩ : ∃ k : Nat, (3 : Int) - (j : Int) = (k : Int) := ⟨3 - j, by omega⟩
      have hk3 : 3 - j = k := by omega
      rw [hk]
      have LS := Lib.hid (len4_succ (bb x).length j)
      rw [hk3] at LS
      have e3 : (2 : Nat) ^ (8 * k) = 256 ^ k := by rw [Nat.pow_mul]
      have hEi : ((bb x).length : Int) / 2 ^ (8 * k) = (((bb x).length / 256 ^ k : Nat) : Int) := by rw [Int.natCast_ediv, ← e3, Int.natCast_pow]; rfl
      obtain ⟨E, hE0⟩ : ∃ E, E = (bb x).length / 256 ^ k := ⟨_, rfl⟩
      rw [← hE0] at LS hEi
      have hEB : E < 4000000 := by rw [hE0]; exact Nat.lt_of_le_of_lt (Nat.div_le_self _ _) hbl
      obtain ⟨c, hc0⟩ : ∃ c, c = E % 256 := ⟨_, rfl⟩
      rw [← hc0] at LS
      have hci : (E : Int) % 256 = (c : Int) := by omega
      clear e3 hE0 hc0
      go_wp2_with (at_builtin; refine wpList_pushG rfl _ _ 39 rfl w1.heap.size eU8 _ 1 elemU8 _ (l.length + j) _ rfl ho _ rfl rfl (by omega) (by unfold maxLen; omega) w1 hE (Nat.le_refl _) ?_; intro v' w' hown' hb' _ _)
      go_roundw
      case rel => exact ⟨j + 1, by omega, congrArg (Value.int .i64) (by omega), by rw [LS.out, ← List.append_assoc, bys_append]; exact hown', hb'⟩
      case measure => simp [intOf]
    · obtain rfl : j = 4 := by omega
      have L1' := Lib.hid (L1.mono hE)
      go_wp2_with (at_builtin; refine wpList_append_sl rfl _ _ 39 rfl w1.heap.size eU8 _ 1 elemU8 _ (l.length + 4) (bys (l ++ len4 (bb x).length 4)) rfl ho _ (bys (bb x)) rfl L1'.out (oneCell_bys _) (by rw [length_bys]; unfold maxLen; omega) (by rw [length_bys]; omega) hE.size ?_; intro v' w' hown' hgrow)
      go_ret
      refine ⟨_, rfl, ?_, hE1.trans ((hE.grown hgrow hE.size ?_).mono hE1.size)⟩
      · rw [length_bys, ← bys_append, List.append_assoc] at hown'
        rw [show l.length + (4 + (bb x).length) = l.length + 4 + (bb x).length by omega]
        exact own_base hown' hE1.size
      · intro k hk
        exact (ho.lt k hk).1
end Go.Proofs.YtcabmibcgedhhaaDoor

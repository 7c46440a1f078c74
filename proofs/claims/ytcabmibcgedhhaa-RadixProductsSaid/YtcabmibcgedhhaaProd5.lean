/-
  The walk of prod.Of.
-/
import Derived.Test.YtcabmibcgedhhaaProd4
namespace Go.Proofs.Ytcabmibcgedhhaa
open Go.RowKit Go.Cd

/-- A slice of numbers. -/
def NatsV (w : World) (v : Value) (xs : List Nat) : Prop :=
  ∃ a cap, v = .slice a xs.length cap ∧ ∀ i (hi : i < xs.length), ∃ b off a1 n1 c1, a = some ⟨b, off, none⟩ ∧ b < w.heap.size ∧ w.cell? ⟨b, off + i, none⟩ = some (.slice a1 n1 c1) ∧ NatV w (.agg #[.slice a1 n1 c1]) xs[i]

def prodL (xs : List Nat) : Nat := xs.foldl (· * ·) 1

theorem prodL_take (xs : List Nat) (k : Nat) (h : k < xs.length) : prodL (xs.take (k + 1)) = prodL (xs.take k) * xs[k] := by
  unfold prodL
  rw [List.take_succ_eq_append_getElem h, List.foldl_append]
  rfl

set_option maxRecDepth 100000 in
set_option maxHeartbeats 1600000 in
theorem prodOf_ok {w : World} {v : Value} {xs : List Nat} (h : NatsV w v xs) (hmax : xs.length < 1099511627776) (hl : ∀ k, k ≤ xs.length → (digs B (prodL (xs.take k))).length < 274877906944) (hx : ∀ x ∈ xs, (digs B x).length < 274877906944) :
    Calls Try.prog 53 #[v] w fun e w' => ∃ r, e = .returned r ∧ NatV w' r (prodL xs) ∧ Below w.heap.size w w' := by
  obtain ⟨a, cap, rfl, hin⟩ := h
  have HIN := Lib.hid hin
  have HL := Lib.hid hl
  have HX := Lib.hid hx
  clear hin hl hx
  have b0 := below_new (w := w) (.cells #[.slice none 0 0] 42)
  have z0 : (w.alloc (.cells #[.slice none 0 0] 42)).heap[w.heap.size]? = some (.cells #[.slice none 0 0] 42) := heap_alloc_new' _ _ _ rfl
  go_enter Try.func53, Try.ntmps53
  go_wp2_with fail
  refine (of_ok 1 (by omega) _).mono ?_
  rintro e w3 ⟨r3, rfl, n3, b3⟩
  obtain ⟨a3, m3, cap3, rfl, n3⟩ := n3.out
  have E3 := ext_trans b0 b3
  have z0 := (b3.block _ (by simp)).trans z0
  have z3 : (w3.alloc (.cells #[.slice a3 m3 cap3] 42)).heap[w3.heap.size]? = some (.cells #[.slice a3 m3 cap3] 42) := heap_alloc_new' _ _ _ rfl
  have n4 := n3.mono (below_new (.cells #[.slice a3 m3 cap3] 42))
  have b4 := below_new (w := w3) (.cells #[.slice a3 m3 cap3] 42)
  have hne : w.heap.size < w3.heap.size := by have := b3.size; simp at this; omega
  have Z0 := Lib.hid z0
  clear n3 b3 b0 z0
  go_wp2_with fail
  go_loopw [9] (fun i wr => ∃ (j : Nat) (a5 : Option Addr) (m5 cap5 : Nat), j ≤ xs.length ∧ i = .int .i64 j ∧ wr.heap[w3.heap.size]? = some (.cells #[.slice a5 m5 cap5] 42) ∧ NatV wr (.agg #[.slice a5 m5 cap5]) (prodL (xs.take j)) ∧ Below w3.heap.size w3 wr)
    (fun i _ => xs.length - (intOf i).toNat)
  case atStart => exact ⟨0, a3, m3, cap3, Nat.zero_le _, rfl, z3, n4, b4⟩
  case round =>
    clear z3 n4 b4
    obtain ⟨j, a5, m5, cap5, hj, rfl, z5, n5, b5⟩ := hrel
    have hs5 := b5.size
    have E5 := ext_trans E3 b5
    by_cases hjx : j < xs.length
    · obtain ⟨b, off, a1, n1, c1, rfl, hb, hc, hN⟩ := HIN.out j hjx
      have hc := cellE E5 hc
      have hN := hN.mono E5
      have bb := below_new (w := wr) (.cells #[.slice a1 n1 c1] 42)
      have z6 := (bb.block _ (block_lt z5)).trans z5
      have hcell6 : (wr.alloc (.cells #[.slice a1 n1 c1] 42)).cell? ⟨w3.heap.size, 0, none⟩ = some (.slice a5 m5 cap5) := by unfold World.cell?; rw [z6]; rfl
      have n6 := n5.mono bb
      have hN6 := hN.mono bb
      have hM := Lib.hid (mul_ok n6 hN6 (by have := HL.out j (by omega); omega) (by have := HX.out _ (List.getElem_mem hjx); omega))
      have HP := Lib.hid (prodL_take xs j hjx)
      clear n5 n6 hN hN6
      go_wp2_with fail
      refine hM.out.mono ?_
      rintro e w7 ⟨r7, rfl, n7, b7⟩
      obtain ⟨a7, m7, cap7, rfl, n7⟩ := n7.out
      have z7 := (b7.block _ (block_lt z6)).trans z6
      have hcell7 : w7.cell? ⟨w3.heap.size, 0, none⟩ = some (.slice a5 m5 cap5) := by unfold World.cell?; rw [z7]; rfl
      have hfr7 : w7.frozen? ⟨w3.heap.size, 0, none⟩ = false := by unfold World.frozen?; rw [z7]; rfl
      obtain ⟨c9, n9⟩ := box_nat z7 (by decide) n7
      have z9 : (w7.setCell ⟨w3.heap.size, 0, none⟩ (.slice a7 m7 cap7)).heap[w3.heap.size]? = some (.cells #[.slice a7 m7 cap7] 42) := heap_setCell_same w7 w3.heap.size 0 _ _ _ z7
      have b9 : Below w3.heap.size w3 (w7.setCell ⟨w3.heap.size, 0, none⟩ (.slice a7 m7 cap7)) := below_put (b5.trans ((ext_trans bb b7).mono hs5)) (Nat.le_refl _)
      clear z7 n7 b7 z6
      go_wp2
      go_roundw
      case rel => exact ⟨j + 1, a7, m7, cap7, by omega, rfl, z9, by rw [HP.out]; exact n9, b9⟩
      case measure => simp [intOf]; omega
    · obtain rfl : j = xs.length := by omega
      rw [List.take_length] at n5
      have z5' := (b5.block _ hne).trans Z0.out
      have hcell5 : wr.cell? ⟨w3.heap.size, 0, none⟩ = some (.slice a5 m5 cap5) := by unfold World.cell?; rw [z5]; rfl
      have hcell4 : wr.cell? ⟨w.heap.size, 0, none⟩ = some (.slice none 0 0) := by unfold World.cell?; rw [z5']; rfl
      have hfr4 : wr.frozen? ⟨w.heap.size, 0, none⟩ = false := by unfold World.frozen?; rw [z5']; rfl
      obtain ⟨q1, N9⟩ := box_nat z5' (by decide) n5
      have hBf := below_put (off := 0) (u := .slice a5 m5 cap5) (b := w.heap.size) E5 (Nat.le_refl _)
      clear z5' n5 z5
      go_wp2
      exact bodyPost_ret (v := .agg #[.slice a5 m5 cap5]) (by simp [results, Try.results53, go_sem, q1]) rfl ⟨_, rfl, N9, hBf⟩
end Go.Proofs.Ytcabmibcgedhhaa

/-
  slices.Backward at uint32: its contract for a range over it.
-/
import Derived.RangeFuncBox
import Derived.RangeFuncLeaves
import Derived.RangeFuncWrites
import Derived.Shelf.Abstract
import Derived.WalkKit
import Derived.OwnWalkIn
import Derived.TacticsInMore
import Derived.LoopNIn
import Derived.LoopIn
import Derived.Test.YtcabmibcgedhhaaDoorBw0
namespace Go.Proofs.YtcabmibcgedhhaaDoor
open Go.RowKit Go.Cd Go.Shelf

attribute [local go_sem] Oper.semAt_some

set_option maxRecDepth 100000 in
set_option maxHeartbeats 2000000 in
theorem bwU_in (F : Fence) (m : Nat) (hF : F.fn 62) (hro : F.round = none) (hm : 1 ≤ m) (l Bs b off n cap : Nat) (hmax : n < 1099511627776) {α : Type} (el : Nat → α) (encs : α → Array Value) (val : Nat → Int)
    (henc : ∀ j, j < n → encs (el j) = #[.int .i64 (j : Int), .int .u32 (val j)]) (J Jx : List α → World → Prop)
    (hY : ∀ pre x W, J pre W → pre.length < n → YieldAt F (m - 1) Tryd.prog l (encs x) W fun e W' =>
      (e = .returned (.bool true) ∧ J (pre ++ [x]) W' ∧ Keep2 Bs b W W') ∨ (e = .returned (.bool false) ∧ Jx (pre ++ [x]) W'))
    (W : World) (hBs : W.cell? ⟨Bs, 0, none⟩ = some (.slice (some ⟨b, off, none⟩) n cap)) (hc : ∀ j, j < n → W.cell? ⟨b, off + j, none⟩ = some (.int .u32 (val j))) (h0 : J [] W) :
    CallsIn F m Tryd.prog 62 #[.func (.yield l) #[] #[], .pointer (some ⟨Bs, 0, none⟩)] W fun e W' => (∃ v, e = .returned v) ∧
      ((∃ ys, ys = bwUp el n n ∧ J ys W') ∨ (∃ pre, (∃ k, k ≤ n ∧ pre = bwUp el n k) ∧ Jx pre W')) := by
  refine callsIn_of_wp Tryd.func62 rfl hF ?_ hro
  simp only [Tryd.ntmps62, List.size_toArray, List.length_cons, List.length_nil, Nat.reduceAdd, Nat.reduceSub, Array.replicate_succ, Array.replicate_zero, List.push_toArray, List.append_toArray, List.nil_append, List.cons_append]
  gi_wp2
  gi_loopw [3] (fun i wr => ∃ k : Nat, k ≤ n ∧ i = .int .i64 ((n : Int) - 1 - (k : Int)) ∧ J (bwUp el n k) wr ∧ Keep2 Bs b W wr)
    (fun i _ => (intOf i + 1).toNat)
  case atStart => exact ⟨0, Nat.zero_le _, by simp, h0, Keep2.refl _ _ _⟩
  case round =>
    obtain ⟨k, hk, rfl, hJs, hnx⟩ := hrel
    have hcs := (hnx.cellP 0).trans hBs
    by_cases hlt : k < n
    · obtain ⟨i, hi⟩ : ∃ i : Nat, (n : Int) - 1 - (k : Int) = (i : Int) := ⟨n - 1 - k, by omega⟩
      have hin : i < n := by omega
      have hik : n - 1 - k = i := by omega
      have hcx := (hnx.cellQ (off + i)).trans (hc i hin)
      obtain ⟨fn, tmps, assign, body, hy, hR⟩ := hY _ (el i) wr hJs (by rw [bwUp_length]; exact hlt)
      rw [henc i hin] at hy
      rw [hi]
      clear hi
      gi_wp2
      refine hR.mono ?_
      rintro e W3 (⟨rfl, hJ3, hk3⟩ | ⟨rfl, hJx3⟩)
      · have hcs3 := (hk3.cellP 0).trans hcs
        gi_wp2
        go_roundw
        case rel => exact ⟨k + 1, by omega, congrArg (Value.int .i64) (by omega), by rw [bwUp_succ, hik]; exact hJ3, hnx.trans hk3⟩
        case measure => simp [intOf]
      · gi_wp2
        refine bodyPost_ret (results_none rfl _ _ _) rfl ?_
        exact ⟨⟨_, rfl⟩, .inr ⟨_, ⟨k + 1, by omega, by rw [bwUp_succ, hik]⟩, hJx3⟩⟩
    · obtain rfl : k = n := by omega
      have hz : (k : Int) - 1 - (k : Int) = -1 := by omega
      rw [hz]
      gi_wp2
      go_end0
      exact ⟨⟨_, rfl⟩, .inl ⟨_, rfl, hJs⟩⟩

set_option maxRecDepth 100000 in
set_option maxHeartbeats 1000000 in
/-- .. at nothing: no round. -/
theorem bwU_nil (F : Fence) (m : Nat) (hF : F.fn 62) (hro : F.round = none) (l Bs : Nat) (a : Option Addr) (cap : Nat) {α : Type} (J : List α → World → Prop) (W : World) (hBs : W.cell? ⟨Bs, 0, none⟩ = some (.slice a 0 cap)) (h0 : J [] W) :
    CallsIn F m Tryd.prog 62 #[.func (.yield l) #[] #[], .pointer (some ⟨Bs, 0, none⟩)] W fun e W' => (∃ v, e = .returned v) ∧ J [] W' := by
  refine callsIn_of_wp Tryd.func62 rfl hF ?_ hro
  simp only [Tryd.ntmps62, List.size_toArray, List.length_cons, List.length_nil, Nat.reduceAdd, Nat.reduceSub, Array.replicate_succ, Array.replicate_zero, List.push_toArray, List.append_toArray, List.nil_append, List.cons_append]
  gi_wp2
  gi_loopw [3] (fun i wr => i = .int .i64 (-1) ∧ J [] wr) (fun _ _ => 0)
  case atStart => exact ⟨rfl, h0⟩
  case round =>
    obtain ⟨rfl, hJs⟩ := hrel
    gi_wp2
    go_end0
    exact ⟨⟨_, rfl⟩, hJs⟩

set_option maxRecDepth 100000 in
/-- slices.Backward: the slice value is boxed; the function value captures the box. -/
theorem backwardU_ok (v : Value) (w : World) (hv : ∃ a n cap, v = .slice a n cap) :
    Calls Tryd.prog 52 #[v] w fun e w' => e = .returned (.func (.func 62) #[] #[.pointer (some ⟨w.heap.size, 0, none⟩)]) ∧ w' = w.alloc (.cells #[v] 22) := by
  obtain ⟨a, n, cap, rfl⟩ := hv
  go_enter Tryd.func52, Tryd.ntmps52
  go_wp2
  go_ret
  exact ⟨rfl, rfl⟩

/-- The slice value holds these ints, in block b; or there is nothing in it. -/
def U32sAt (b : Nat) (W : World) (sv : Value) (n : Nat) (val : Nat → Int) : Prop :=
  (n = 0 ∧ ∃ a cap, sv = .slice a 0 cap) ∨ ∃ off cap, sv = .slice (some ⟨b, off, none⟩) n cap ∧ b < W.heap.size ∧ ∀ j, j < n → W.cell? ⟨b, off + j, none⟩ = some (.int .u32 (val j))
theorem U32sAt.below {b : Nat} {A B : World} (h : Below A.heap.size A B) {sv : Value} {n : Nat} {val : Nat → Int} : U32sAt b A sv n val → U32sAt b B sv n val
  | .inl e => .inl e
  | .inr ⟨off, cap, e, hb, hc⟩ => .inr ⟨off, cap, e, Nat.lt_of_lt_of_le hb h.size, fun j hj => (h.cell (p := ⟨b, off + j, none⟩) hb).trans (hc j hj)⟩

/-- slices.Backward(s), ranged over: each in its turn, from the last one on; or a part of them. -/
theorem backU_stops (F : Fence) (m : Nat) (hF : F.fn 62) (hro : F.round = none) (hm : 1 ≤ m) (Bs b : Nat) (sv : Value) (n : Nat) (hmax : n < 1099511627776) {α : Type} (el : Nat → α) (encs : α → Array Value) (val : Nat → Int)
    (henc : ∀ j, j < n → encs (el j) = #[.int .i64 (j : Int), .int .u32 (val j)]) (w : World) (hBs : Bs < w.heap.size) (hc : w.cell? ⟨Bs, 0, none⟩ = some sv) (hI : U32sAt b w sv n val) :
    SeqStopsK F m Tryd.prog 62 #[.pointer (some ⟨Bs, 0, none⟩)] encs (Keep2 Bs b) (fun ys => ys = bwUp el n n) (fun pre => ∃ k, k ≤ n ∧ pre = bwUp el n k) n w := fun l J Jx W hW _ _ hY h0 => by
  have hc' := (hW.cell (p := ⟨Bs, 0, none⟩) hBs).trans hc
  rcases hI.below hW with ⟨rfl, a, cap, rfl⟩ | ⟨off, cap, rfl, hb, hcs⟩
  · exact (bwU_nil F m hF hro l Bs a cap J W hc' h0).mono fun e W' ⟨he, hj⟩ => ⟨he, .inl ⟨_, rfl, by simpa [bwUp] using hj⟩⟩
  · exact bwU_in F m hF hro hm l Bs b off n cap hmax el encs val henc J Jx hY W hc' hcs h0
end Go.Proofs.YtcabmibcgedhhaaDoor

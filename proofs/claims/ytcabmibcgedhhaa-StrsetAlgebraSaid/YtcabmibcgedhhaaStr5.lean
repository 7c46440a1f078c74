/-
  The walks of the set's methods Index, Has, At, Between, Begin.
-/
import Derived.Test.YtcabmibcgedhhaaStr4
namespace Go.Proofs.Ytcabmibcgedhhaa
open Go.RowKit Go.Cd Go.Sort Go.Lib

set_option maxRecDepth 100000 in
set_option maxHeartbeats 1600000 in
theorem index_ok {w : World} {v : Value} {l : List Txt} (h : SetV w v l) (hi : inc l) (hmax : l.length < 1099511627776) (t : Txt) :
    Calls Try.prog 64 #[v, .string (sv t)] w fun e w' => e = .returned (.int .i64 (rank l t)) ∧ Below w.heap.size w w' := by
  obtain ⟨a, n, cap, rfl, h, hn⟩ := h.out
  have hb := below_new (w := w) (.cells #[.slice a n cap] tSet)
  have c0 : (w.alloc (.cells #[.slice a n cap] tSet)).cell? ⟨w.heap.size, 0, none⟩ = some (.slice a n cap) := by unfold World.cell?; rw [heap_alloc_new]; rfl
  have SC := Lib.hid (searchS_ok (h.mono hb) hi (by omega) t)
  clear h hn
  go_enter Try.func64, Try.ntmps64
  go_wp2_with fail
  refine SC.out.mono ?_
  rintro e w1 ⟨rfl, h1⟩
  go_wp2
  go_ret
  exact ⟨rfl, ext_trans hb h1⟩

set_option maxRecDepth 100000 in
set_option maxHeartbeats 1600000 in
theorem setHas_ok {w : World} {v : Value} {l : List Txt} (h : SetV w v l) (hi : inc l) (hmax : l.length < 1099511627776) (t : Txt) :
    Calls Try.prog 65 #[v, .string (sv t)] w fun e w' => e = .returned (.bool (decide (t ∈ l))) ∧ Below w.heap.size w w' := by
  obtain ⟨a, n, cap, rfl, h, hn⟩ := h.out
  have hb := below_new (w := w) (.cells #[.slice a n cap] tSet)
  have c0 : (w.alloc (.cells #[.slice a n cap] tSet)).cell? ⟨w.heap.size, 0, none⟩ = some (.slice a n cap) := by unfold World.cell?; rw [heap_alloc_new]; rfl
  have SC := Lib.hid (searchS_ok (h.mono hb) hi (by omega) t)
  clear h hn
  go_enter Try.func65, Try.ntmps65
  go_wp2_with fail
  refine SC.out.mono ?_
  rintro e w1 ⟨rfl, h1⟩
  go_wp2
  go_ret
  exact ⟨rfl, ext_trans hb h1⟩

set_option maxRecDepth 100000 in
set_option maxHeartbeats 1600000 in
theorem at_in {w : World} {v : Value} {l : List Txt} (h : SetV w v l) (hmax : l.length < 1099511627776) (k : Nat) (hk : k < l.length) :
    Calls Try.prog 62 #[v, .int .i64 k] w fun e w' => e = .returned (.tuple #[.string (sv l[k]), .bool true]) ∧ Below w.heap.size w w' := by
  obtain ⟨a, n, cap, rfl, h, hn⟩ := h.out
  have hb := below_new (w := w) (.cells #[.slice a n cap] tSet)
  have c0 : (w.alloc (.cells #[.slice a n cap] tSet)).cell? ⟨w.heap.size, 0, none⟩ = some (.slice a n cap) := by unfold World.cell?; rw [heap_alloc_new]; rfl
  obtain ⟨a', cap', hv, _, hx⟩ := SlA.outT (h.any.mono hb)
  simp only [Value.slice.injEq] at hv
  obtain ⟨rfl, hn', rfl⟩ := hv
  obtain ⟨b, off, rfl, hbs, hc⟩ := hx k hk
  have hkn : k < n := by omega
  clear h hn hn' hx
  generalize l[k] = s at *
  clear hk
  go_enter Try.func62, Try.ntmps62
  go_wp2
  go_ret2
  exact ⟨rfl, hb⟩

set_option maxRecDepth 100000 in
set_option maxHeartbeats 1600000 in
theorem at_out {w : World} {v : Value} {l : List Txt} (h : SetV w v l) (hmax : l.length < 1099511627776) (k : Int) (hk : k < 0 ∨ (l.length : Int) ≤ k) :
    Calls Try.prog 62 #[v, .int .i64 k] w fun e w' => e = .returned (.tuple #[.string (sv []), .bool false]) ∧ Below w.heap.size w w' := by
  obtain ⟨a, n, cap, rfl, h, hn⟩ := h.out
  have hb := below_new (w := w) (.cells #[.slice a n cap] tSet)
  have c0 : (w.alloc (.cells #[.slice a n cap] tSet)).cell? ⟨w.heap.size, 0, none⟩ = some (.slice a n cap) := by unfold World.cell?; rw [heap_alloc_new]; rfl
  rw [← hn] at hk
  clear h hn
  by_cases hk0 : k < 0
  · go_enter Try.func62, Try.ntmps62
    go_wp2
    go_ret2
    exact ⟨rfl, hb⟩
  · have hk1 : (n : Int) ≤ k := hk.resolve_left hk0
    go_enter Try.func62, Try.ntmps62
    go_wp2
    go_ret2
    exact ⟨rfl, hb⟩
end Go.Proofs.Ytcabmibcgedhhaa

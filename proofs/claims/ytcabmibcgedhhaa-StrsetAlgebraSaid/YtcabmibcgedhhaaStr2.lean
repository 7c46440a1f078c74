/-
  The walks of utf.Compare, slices.Clone, slices.SortFunc, slices.Compact, slices.BinarySearchFunc at texts.
-/
import Derived.Test.YtcabmibcgedhhaaStr1
import Derived.Test.YtcabmibcgedhhaaShelf
import Derived.Test.YtcabmibcgedhhaaShelf2
import Derived.Test.YtcabmibcgedhhaaProd1
import Derived.Shelf.SlCmpFuncs.None
namespace Go.Proofs.Ytcabmibcgedhhaa
open Go.RowKit Go.Cd Go.Sort Go.Lib

theorem utfCompare_ok (a b : Txt) (w : World) :
    Calls Try.prog 93 #[.string (sv a), .string (sv b)] w fun e w' => e = .returned (.int .i64 (compareBytes a b)) ∧ w' = w := by
  have hc := Go.Proofs.Try.strings_Compare (sv a) (sv b) w
  rw [sv_data, sv_data] at hc
  generalize compareBytes a b = r at *
  go_enter Try.func93, Try.ntmps93
  go_wp2_with (go_at_call 109; refine hc.mono ?_; rintro e w' ⟨rfl, rfl⟩)
  go_ret
  exact ⟨rfl, rfl⟩

theorem cmpReads (blk off size : Nat) (w : World) : Go.Proofs.CmpReads Try.prog 93 #[] encStr compareBytes blk off size w :=
  fun _ _ _ _ x y => (utfCompare_ok x y _).mono fun _ _ ⟨he, hw⟩ => ⟨he, 0, hw⟩

theorem eqlNilS (w : World) (a : Option Addr) (n c : Nat) : (Go.binOp .eql 71 (.slice a n c) (.slice none 0 0)).run Try.prog w = .ok (.bool a.isNone) w :=
  Lib.run_eql_slice_nil w 71 9 a n c 0 0 Try.underlying71

set_option maxHeartbeats 400000 in
/-- slices.Clone: nil for nil, else a row of its own that reads the same. -/
theorem cloneS_ok {w : World} {v : Value} {l : List Txt} (h : SlA w v (txs l)) (hmax : l.length < 1099511627776) :
    Calls Try.prog 91 #[v] w fun e w' => ∃ r, e = .returned r ∧ w'.ownsRow w.heap.size eStr 1 r l.length (txs l) ∧ Below w.heap.size w w' := by
  obtain ⟨a, cap, rfl, hc, hr⟩ := id h
  have hl := length_txs l
  rw [hl] at h hc
  rw [hl]
  have hnil := eqlNilS
  cases a with
  | none =>
    have h0 : l = [] ∧ cap = 0 := by
      rcases hr with hr | ⟨b, off, cs, _, fr, ha, _⟩
      · exact ⟨by simpa [txs] using hr.1, hr.2 rfl⟩
      · cases ha
    obtain ⟨rfl, rfl⟩ := h0
    clear hr h hl
    go_enter Try.func91, Try.ntmps91
    go_wp2
    go_ret
    exact ⟨_, rfl, World.ownsRow_nil _ _ _ _, Below.refl _ _⟩
  | some ad =>
    have H := Lib.hid h
    clear hr h hl
    go_enter Try.func91, Try.ntmps91
    go_wp2_with (at_builtin; refine wpList_append_sl rfl _ _ 71 rfl w.heap.size eStr _ 16 elemStr (.slice (some ⟨w.heap.size, 0, none⟩) 0 0) 0 [] rfl (own_empty _ _) _ (txs l) rfl (H.out.mono (below_new _)) (oneCell_txs l) (by rw [length_txs]; unfold maxLen; omega) (by rw [length_txs]; omega) (by simp) ?_; intro v' w' hown' hgrow)
    rw [length_txs, Nat.zero_add, List.nil_append] at hown'
    go_wp2
    go_ret
    exact ⟨_, rfl, hown', (below_new _).grown hgrow (by simp) (fun k hk => Nat.le_of_eq (Option.some.inj hk))⟩

/-- An own row laid over by another of as many. -/
theorem own_laid {w : World} {base g n cap q : Nat} {xs : List Value} {D : Array Txt} {os : Array Obj} (h : w.ownsRow base eStr 1 (.slice (some ⟨g, 0, none⟩) n cap) n xs) (hD : D.size = n) :
    (grow (putRow encStr (Sort.ahead w q) g 0 D) os).ownsRow base eStr 1 (.slice (some ⟨g, 0, none⟩) n cap) n (txs D.toList) ∧ Below base w (grow (putRow encStr (Sort.ahead w q) g 0 D) os) := by
  obtain ⟨h1, h2⟩ := h
  rcases h2 with ⟨h2, _⟩ | ⟨g', cap', cur, hv, hg, hh, hc, hm, hs, ht⟩
  · cases h2
  · simp only [Value.slice.injEq, Option.some.injEq, Addr.mk.injEq] at hv
    obtain ⟨⟨rfl, _⟩, _, rfl⟩ := hv
    have hlt := block_lt hh
    have hsz : (putRow encStr (Sort.ahead w q) g 0 D).heap.size = w.heap.size := by simp [putRow, mapBlock, Sort.ahead]
    refine ⟨⟨by rw [length_txs]; simpa using hD, .inr ⟨g, cap, putCells encStr 0 D cur, rfl, hg, ?_, hc, hm, by simpa [putCells] using hs, ?_⟩⟩, ⟨rfl, rfl, rfl, by rw [size_grow, hsz]; omega, fun k hk => ?_⟩⟩
    · rw [heap_grow_old _ _ (by rw [hsz]; exact hlt)]
      simp only [putRow, mapBlock, Sort.ahead, Array.getElem?_modify, if_true, hh, Option.map_some, onCells]
    · refine List.ext_getElem ?_ fun i hi1 hi2 => ?_
      · rw [List.length_take, length_txs, Array.length_toList, Array.length_toList]
        simp [putCells]
        omega
      · rw [length_txs] at hi2
        have hi3 : i < D.size := by simpa using hi2
        rw [List.getElem_take, Array.getElem_toList, txs_getElem _ _ hi2]
        simp only [putCells, Array.getElem_mapIdx, Nat.sub_zero, Nat.zero_add]
        rw [if_pos ⟨Nat.zero_le _, hi3⟩, getElem!_pos D i hi3]
        simp [sv]
    · rw [heap_grow_old _ _ (by rw [hsz]; omega)]
      simp only [putRow, mapBlock, Sort.ahead, Array.getElem?_modify]
      rw [if_neg (by omega)]

theorem holds_own {w : World} {base g n cap : Nat} {l : List Txt} (h : w.ownsRow base eStr 1 (.slice (some ⟨g, 0, none⟩) n cap) n (txs l)) : Holds encStr w g 0 l.toArray ∧ g < w.heap.size ∧ l.length = n ∧ n ≤ cap ∧ cap ≤ maxLen ∧ base ≤ g := by
  have hn : l.length = n := by have := h.1; rw [length_txs] at this; omega
  obtain ⟨h1, h2⟩ := id h
  rcases h2 with ⟨h2, _⟩ | ⟨g', cap', cur, hv, hg, hh, hc, hm, hs, ht⟩
  · cases h2
  · simp only [Value.slice.injEq, Option.some.injEq, Addr.mk.injEq] at hv
    obtain ⟨⟨rfl, _⟩, _, rfl⟩ := hv
    refine ⟨fun j hj => ?_, block_lt hh, hn, hc, hm, hg⟩
    have hj' : j < l.length := by simpa using hj
    obtain ⟨hcell, hfr⟩ := own_at h (j := j) (by rw [length_txs]; exact hj')
    rw [txs_getElem _ _ hj'] at hcell
    rw [Nat.zero_add]
    refine ⟨?_, hfr⟩
    rw [hcell, getElem!_pos l.toArray j hj]
    simp [sv]
end Go.Proofs.Ytcabmibcgedhhaa

/-
  The walk of radix.Product.
-/
import Derived.Test.YtcabmibcgedhhaaRad8
import Derived.Test.YtcabmibcgedhhaaProd5
namespace Go.Proofs.Ytcabmibcgedhhaa
open Go.RowKit Go.Cd

set_option maxRecDepth 100000 in
set_option maxHeartbeats 1600000 in
theorem product_ok {w : World} {v : Value} {l : List Int} (h : SlA w v (i64s l)) (hmax : l.length < 1099511627776) (hbig : ∀ d ∈ l, d < 9223372036854775808) (hl : ∀ k, k ≤ l.length → (digs B (prodL ((natL l).take k))).length < 274877906944) :
    Calls Try.prog 38 #[v] w fun e w' => ∃ r, e = .returned r ∧ NatV w' r (prodL (natL l)) ∧ Below w.heap.size w w' := by
  obtain ⟨x1, cp1, rfl, _, hx1⟩ := SlA.outI h
  have HX1 := Lib.hid hx1
  have HL := Lib.hid hl
  have HBG := Lib.hid hbig
  clear h hx1 hl hbig
  have b0 := below_new (w := w) (.cells #[.slice none 0 0] 42)
  have z0 : (w.alloc (.cells #[.slice none 0 0] 42)).heap[w.heap.size]? = some (.cells #[.slice none 0 0] 42) := heap_alloc_new' _ _ _ rfl
  go_enter Try.func38, Try.ntmps38
  go_wp2_with fail
  refine (of_ok 1 (by omega) _).mono ?_
  rintro e w3 ⟨r3, rfl, n3, b3⟩
  obtain ⟨a3, m3, cap3, rfl, n3⟩ := n3.out
  have E3 := ext_trans b0 b3
  have z0 := (b3.block _ (by simp)).trans z0
  have z3 : (w3.alloc (.cells #[.slice a3 m3 cap3] 42)).heap[w3.heap.size]? = some (.cells #[.slice a3 m3 cap3] 42) := heap_alloc_new' _ _ _ rfl
  have n4 := n3.mono (below_new (.cells #[.slice a3 m3 cap3] 42))
  have b4 := below_new (w := w3) (.cells #[.slice a3 m3 cap3] 42)
  have hne : w.heap.size < w3.heap.size := by have := b3.size; simp at this; omega
  have Z0 := Lib.hid z0
  clear n3 b3 b0 z0
  go_wp2_with fail
  go_loopw [9] (fun i wr => ∃ (j : Nat) (a5 : Option Addr) (m5 cap5 : Nat), j ≤ l.length ∧ i = .int .i64 j ∧ wr.heap[w3.heap.size]? = some (.cells #[.slice a5 m5 cap5] 42) ∧ NatV wr (.agg #[.slice a5 m5 cap5]) (prodL ((natL l).take j)) ∧ Below w3.heap.size w3 wr)
    (fun i _ => l.length - (intOf i).toNat)
  case atStart => exact ⟨0, a3, m3, cap3, Nat.zero_le _, rfl, z3, n4, b4⟩
  case round =>
    clear z3 n4 b4
    obtain ⟨j, a5, m5, cap5, hj, rfl, z5, n5, b5⟩ := hrel
    have hs5 := b5.size
    have E5 := ext_trans E3 b5
    by_cases hjx : j < l.length
    · obtain ⟨b, off, rfl, hb, hc⟩ := HX1.out j hjx
      have hc := cellE E5 hc
      have hd63 := HBG.out _ (List.getElem_mem hjx)
      have HP := Lib.hid (prodL_take (natL l) j (by simpa using hjx))
      have hge : (natL l)[j]'(by simpa using hjx) = l[j].toNat := by simp [natL]
      rw [hge] at HP
      clear hge
      generalize l[j] = d at *
      obtain ⟨n, hn⟩ : ∃ n, n = d.toNat := ⟨_, rfl⟩
      rw [← hn] at HP
      have hmx : max d 0 = (n : Int) := by omega
      have hwr : IntKind.u64.wrap (n : Int) = (n : Int) := by rw [IntKind.wrap_u64]; omega
      have hn64 : n < 18446744073709551616 := by omega
      have hO := Lib.hid (of_ok n hn64)
      have hcell5 : wr.cell? ⟨w3.heap.size, 0, none⟩ = some (.slice a5 m5 cap5) := by unfold World.cell?; rw [z5]; rfl
      have T0 := ext_refl wr
      have hln := Lib.hid (HL.out j hj)
      have hlD := Lib.hid (show (digs B n).length ≤ 2 from (len_digs_le two_le_B).2 (by unfold B; omega))
      have HNN := Lib.hid hn
      clear hn hd63
      go_wp2_with fail
      refine wp_region_E #[true, true, true, true, true, true, false] 6 1 mixed (by rfl) ?_
      have kE0 := ext_trans T0 (ext_drew _)
      have hg0 := Gr.cell kE0 hcell5
      refine wpE_seg' [0, 1, 2, 3] 2 rfl (by kernel_rfl) ?_
      iterate 4 (refine seg_cons rfl ?_; go_big_quiet_step (rfl))
      refine seg_nil ?_
      clear hg0
      refine wpE_one 4 (by kernel_rfl) rfl ?_
      go_wp2_with fail
      refine (hO.out _).mono ?_
      rintro e k1w ⟨r1, rfl, p1, k1b⟩
      go_wp2_with fail
      refine QE_intro k1b ?_
      have k1E := ext_trans kE0 k1b
      refine wpE_one 5 (by kernel_rfl) rfl ?_
      go_wp2_with fail
      refine (mul_ok (n5.mono k1E) p1 (by have := hln.out; omega) (by have := hlD.out; omega)).mono ?_
      rintro e w7 ⟨r7, rfl, n7, k2b⟩
      obtain ⟨a7, m7, cap7, rfl, n7⟩ := n7.out
      go_wp2_with fail
      refine QE_intro k2b ?_
      have b7 := ext_trans k1E k2b
      have z7 := (b7.block _ (block_lt z5)).trans z5
      have hfr7 : w7.frozen? ⟨w3.heap.size, 0, none⟩ = false := by unfold World.frozen?; rw [z7]; rfl
      obtain ⟨c9, n9⟩ := box_nat z7 (by decide) n7
      have z9 : (w7.setCell ⟨w3.heap.size, 0, none⟩ (.slice a7 m7 cap7)).heap[w3.heap.size]? = some (.cells #[.slice a7 m7 cap7] 42) := heap_setCell_same w7 w3.heap.size 0 _ _ _ z7
      have b9 : Below w3.heap.size w3 (w7.setCell ⟨w3.heap.size, 0, none⟩ (.slice a7 m7 cap7)) := below_put (b5.trans (b7.mono hs5)) (Nat.le_refl _)
      have hcell7 : w7.cell? ⟨w3.heap.size, 0, none⟩ = some (.slice a5 m5 cap5) := by unfold World.cell?; rw [z7]; rfl
      clear z7 n7 b7
      refine wpE_tail [6] (by kernel_rfl) ?_
      refine tail_cons rfl ?_
      go_wp2_with fail
      refine tail_nil ?_
      go_wp2
      go_roundw
      case rel => exact ⟨j + 1, a7, m7, cap7, by omega, rfl, z9, by rw [HP.out]; exact n9, b9⟩
      case measure => simp [intOf]; omega
    · obtain rfl : j = l.length := by omega
      rw [List.take_of_length_le (by simp)] at n5
      have z5' := (b5.block _ hne).trans Z0.out
      have hcell5 : wr.cell? ⟨w3.heap.size, 0, none⟩ = some (.slice a5 m5 cap5) := by unfold World.cell?; rw [z5]; rfl
      have hcell4 : wr.cell? ⟨w.heap.size, 0, none⟩ = some (.slice none 0 0) := by unfold World.cell?; rw [z5']; rfl
      have hfr4 : wr.frozen? ⟨w.heap.size, 0, none⟩ = false := by unfold World.frozen?; rw [z5']; rfl
      obtain ⟨q1, N9⟩ := box_nat z5' (by decide) n5
      have hBf := below_put (off := 0) (u := .slice a5 m5 cap5) (b := w.heap.size) E5 (Nat.le_refl _)
      clear z5' n5 z5
      go_wp2
      exact bodyPost_ret (v := .agg #[.slice a5 m5 cap5]) (by simp [results, Try.results38, go_sem, q1]) rfl ⟨_, rfl, N9, hBf⟩
end Go.Proofs.Ytcabmibcgedhhaa

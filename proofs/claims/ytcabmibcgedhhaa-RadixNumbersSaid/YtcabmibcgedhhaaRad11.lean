/-
  The walks of radix.in, digit, Digits.
-/
import Derived.Test.YtcabmibcgedhhaaRad8
import Derived.Test.YtcabmibcgedhhaaRadP
import Derived.Test.YtcabmibcgedhhaaRad10
namespace Go.Proofs.Ytcabmibcgedhhaa
open Go.RowKit Go.Cd

set_option maxRecDepth 100000 in
set_option maxHeartbeats 1600000 in
theorem in_ok {w : World} {v : Value} {bs : List Nat} (h : RadixV w v bs) (hpos : ∀ b ∈ bs, 1 ≤ b) (hmax : prodN bs ≤ 1073741824) (i : Int) :
    Calls Try.prog 77 #[v, .int .i64 i] w fun e w' => e = .returned (.bool (decide (0 ≤ i ∧ i < (prodN bs : Nat)))) ∧ Below w.heap.size w w' := by
  have h' := h
  obtain ⟨a1, c1, a2, c2, rfl, _⟩ := h.out
  have hb := below_new (w := w) (.cells #[.slice a1 bs.length c1, .slice a2 bs.length c2, .int .i64 (prodN bs : Nat)] tRadix)
  have IX : Is3 (w.alloc (.cells #[.slice a1 bs.length c1, .slice a2 bs.length c2, .int .i64 (prodN bs : Nat)] tRadix)) w.heap.size (.slice a1 bs.length c1) (.slice a2 bs.length c2) (.int .i64 (prodN bs : Nat)) tRadix := ⟨heap_alloc_new' _ _ _ rfl⟩
  obtain ⟨e0, e1, e2⟩ := IX.cell
  have SZ := Lib.hid (size_ok (h'.mono hb) hpos hmax)
  clear h h' hpos
  by_cases h0 : 0 ≤ i
  · go_enter Try.func77, Try.ntmps77
    go_wp2_with fail
    refine SZ.out.mono ?_
    rintro e w2 ⟨rfl, h2⟩
    go_wp2
    go_ret
    exact ⟨by simp [h0], ext_trans hb h2⟩
  · go_enter Try.func77, Try.ntmps77
    go_wp2
    go_ret
    exact ⟨by simp; omega, hb⟩

set_option maxRecDepth 100000 in
set_option maxHeartbeats 1600000 in
theorem digit_ok {w : World} {v : Value} {bs : List Nat} (h : RadixV w v bs) (hpos : ∀ b ∈ bs, 1 ≤ b) (hmax : prodN bs ≤ 1073741824) {i j : Nat} (hi : i < prodN bs) (hj : j < bs.length) :
    Calls Try.prog 78 #[v, .int .i64 i, .int .i64 j] w fun e w' => e = .returned (.int .i64 ((dgs bs i)[j]'(by simpa using hj) : Nat)) ∧ Below w.heap.size w w' := by
  have HG := Lib.hid (dgs_get bs i j hj hpos hi)
  obtain ⟨a1, c1, a2, c2, rfl, _, hc1, hc2, hy1, hy2⟩ := h.out
  obtain ⟨b1, o1, rfl, hb1, k1⟩ := hy1 j hj
  obtain ⟨b2, o2, rfl, hb2, k2⟩ := hy2 j hj
  have hb := below_new (w := w) (.cells #[.slice (some ⟨b1, o1, none⟩) bs.length c1, .slice (some ⟨b2, o2, none⟩) bs.length c2, .int .i64 (prodN bs : Nat)] tRadix)
  have IX : Is3 (w.alloc (.cells #[.slice (some ⟨b1, o1, none⟩) bs.length c1, .slice (some ⟨b2, o2, none⟩) bs.length c2, .int .i64 (prodN bs : Nat)] tRadix)) w.heap.size (.slice (some ⟨b1, o1, none⟩) bs.length c1) (.slice (some ⟨b2, o2, none⟩) bs.length c2) (.int .i64 (prodN bs : Nat)) tRadix := ⟨heap_alloc_new' _ _ _ rfl⟩
  obtain ⟨e0, e1, e2⟩ := IX.cell
  have k1 := (hb.cell (p := ⟨b1, o1 + j, none⟩) hb1).trans k1
  have k2 := (hb.cell (p := ⟨b2, o2 + j, none⟩) hb2).trans k2
  have hQ := prodN_pos (bs := bs.drop (j + 1)) (fun b hb => hpos b (List.mem_of_mem_drop hb))
  have hB := hpos _ (List.getElem_mem hj)
  have hI : i < 1073741824 := by omega
  clear h hy1 hy2 hpos hmax hi
  generalize (dgs bs i)[j]'(by simpa using hj) = D at *
  generalize bs[j] = b at *
  generalize prodN (bs.drop (j + 1)) = Q at *
  generalize prodN bs = P at *
  go_enter Try.func78, Try.ntmps78
  go_wp2_with fail
  go_quiet (fail)
  go_wp2
  go_ret
  have hq : wrap64 ((i : Int) / (Q : Int)) = ((i / Q : Nat) : Int) := by
    rw [← Int.natCast_ediv]
    have := Nat.div_le_self i Q
    exact wr1 (by omega)
  refine ⟨?_, ⟨hb.os, hb.tape, hb.output, hb.size, hb.block⟩⟩
  show Ending.returned (.int .i64 ((wrap64 ((i : Int) / (Q : Int))).tmod (b : Int))) = _
  rw [hq, HG.out, Int.ofNat_tmod]

set_option maxRecDepth 100000 in
set_option maxHeartbeats 1600000 in
theorem digits_ok {w : World} {v : Value} {bs : List Nat} (h : RadixV w v bs) (hpos : ∀ b ∈ bs, 1 ≤ b) (hmax : prodN bs ≤ 1073741824) (hlen : bs.length < 1099511627776) (i : Int) :
    Calls Try.prog 24 #[v, .int .i64 i] w fun e w' => ∃ r, e = .returned (.tuple #[r, .bool (decide (0 ≤ i ∧ i < (prodN bs : Nat)))]) ∧ Below w.heap.size w w' ∧
      (0 ≤ i ∧ i < (prodN bs : Nat) → SlA w' r (ds (dgs bs i.toNat)) ∧ From w.heap.size r) ∧ (¬ (0 ≤ i ∧ i < (prodN bs : Nat)) → r = .slice none 0 0) := by
  have h' := h
  obtain ⟨a1, c1, a2, c2, rfl, _⟩ := h.out
  have hb := below_new (w := w) (.cells #[.slice a1 bs.length c1, .slice a2 bs.length c2, .int .i64 (prodN bs : Nat)] tRadix)
  have IX : Is3 (w.alloc (.cells #[.slice a1 bs.length c1, .slice a2 bs.length c2, .int .i64 (prodN bs : Nat)] tRadix)) w.heap.size (.slice a1 bs.length c1) (.slice a2 bs.length c2) (.int .i64 (prodN bs : Nat)) tRadix := ⟨heap_alloc_new' _ _ _ rfl⟩
  obtain ⟨e0, e1, e2⟩ := IX.cell
  have IN := Lib.hid (in_ok (h'.mono hb) hpos hmax i)
  have DG := Lib.hid (fun (W : World) (E : Below w.heap.size w W) (n j : Nat) (hn : n < prodN bs) (hj : j < bs.length) => digit_ok (h'.mono E) hpos hmax hn hj)
  clear h h' hpos
  by_cases hin : 0 ≤ i ∧ i < (prodN bs : Nat)
  · obtain ⟨n, rfl⟩ : ∃ n : Nat, i = n := ⟨i.toNat, by omega⟩
    have hn : n < prodN bs := by omega
    have hdec : decide (0 ≤ (n : Int) ∧ (n : Int) < (prodN bs : Nat)) = true := decide_eq_true hin
    rw [hdec] at IN ⊢
    have HIN := Lib.hid hin
    have HLD := Lib.hid (length_dgs bs n)
    clear hdec hin
    go_enter Try.func24, Try.ntmps24
    go_wp2_with fail
    refine IN.out.mono ?_
    rintro e w2 ⟨rfl, h2⟩
    have J2 := IX.mono h2
    have hE2 := ext_trans hb h2
    obtain ⟨f0, f1, f2⟩ := J2.cell
    go_wp2_with fail
    have hS2 := hE2.size
    go_loopw [6, 15] (fun o i wr => ∃ k : Nat, k ≤ bs.length ∧ i = .int .i64 k ∧ wr.ownsRow w2.heap.size eInt 1 o k (ds ((dgs bs n).take k)) ∧ Below w2.heap.size w2 wr)
      (fun _ i _ => bs.length - (intOf i).toNat)
    case atStart => exact ⟨0, Nat.zero_le _, rfl, ⟨by simp [ds], .inl (by simp)⟩, Below.refl _ _⟩
    case round =>
      obtain ⟨k, hk, rfl, ho, hE⟩ := hrel
      obtain ⟨g0, g1, g2⟩ := (J2.mono hE).cell
      by_cases hkl : k < bs.length
      · have HT := Lib.hid (List.take_succ_eq_append_getElem (show k < (dgs bs n).length by rw [HLD.out]; exact hkl))
        have DGk := Lib.hid (DG.out wr (hE2.trans (hE.mono hE2.size)) n k hn hkl)
        generalize (dgs bs n)[k]'(by rw [HLD.out]; exact hkl) = d at *
        go_wp2_with fail
        refine DGk.out.mono ?_
        rintro e w4 ⟨rfl, h4⟩
        have ho4 := own_ext ho h4
        have hE4 := hE.trans (h4.mono hE.size)
        clear g0 g1 g2
        go_wp2_with (at_builtin; refine wpList_push rfl _ _ 22 rfl w2.heap.size eInt _ 8 elemInt _ k _ rfl ho4 _ rfl rfl (by omega) (by unfold maxLen; omega) w2 hE4 (Nat.le_refl _) ?_; intro v' w' hown' hb')
        go_roundw
        case rel => exact ⟨k + 1, by omega, rfl, by rw [HT.out]; simpa [ds] using hown', hb'⟩
        case measure => simp [intOf]; omega
      · obtain rfl : k = bs.length := by omega
        go_wp2
        go_ret2
        have htake : (dgs bs n).take bs.length = dgs bs n := List.take_of_length_le (by simp)
        rw [htake] at ho
        refine ⟨_, rfl, hE2.trans (hE.mono hE2.size), fun _ => ⟨?_, ?_⟩, fun hc => absurd HIN.out hc⟩
        · rw [Int.toNat_natCast]; exact (Sl.of_own ho).any
        · rintro b off m cap rfl
          exact Nat.le_trans hE2.size (ho.lt b rfl).1
  · have hdec : decide (0 ≤ i ∧ i < (prodN bs : Nat)) = false := decide_eq_false hin
    rw [hdec] at IN ⊢
    clear hdec
    go_enter Try.func24, Try.ntmps24
    go_wp2_with fail
    refine IN.out.mono ?_
    rintro e w2 ⟨rfl, h2⟩
    go_wp2
    go_ret2
    exact ⟨_, rfl, ext_trans hb h2, fun hc => absurd hc hin, fun _ => rfl⟩
end Go.Proofs.Ytcabmibcgedhhaa

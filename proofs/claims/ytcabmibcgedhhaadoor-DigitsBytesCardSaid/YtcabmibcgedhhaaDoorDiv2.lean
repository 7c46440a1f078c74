/-
  The walks of prod.left and prod.right.
-/
import Derived.Test.YtcabmibcgedhhaaDoorDiv1
namespace Go.Proofs.YtcabmibcgedhhaaDoor
open Go.RowKit Go.Cd

theorem or_u32 {c d k : Nat} (hk : k ≤ 31) (hc : c < 2 ^ k) (hd : d < B) : bits .or .u32 (c : Int) ((d : Int) * 2 ^ k % 4294967296) = ((c + (d * 2 ^ k) % B : Nat) : Int) := by
  have h0 := (left_split hk hd).2.2 c hc
  have hB := two_split (k := k) (by omega)
  have hp : 0 < 2 ^ k := Nat.two_pow_pos k
  have e1 : (d : Int) * 2 ^ k % 4294967296 = ((d * 2 ^ k % B : Nat) : Int) := by unfold B; simp
  have e2 : d * 2 ^ k % B = 2 ^ k * (d % 2 ^ (32 - k)) := by rw [hB, Nat.mul_comm d]; exact Nat.mul_mod_mul_left _ _ _
  have e3 : c + d * 2 ^ k % B = d * 2 ^ k % B ||| c := by rw [e2, Nat.add_comm]; exact Nat.two_pow_add_eq_or_of_lt hc _
  have hm : d * 2 ^ k % B < B := Nat.mod_lt _ (by decide)
  rw [e1, u32_or_nat _ _ (by unfold B at h0; omega) (by unfold B at hm; omega), e3, Nat.or_comm]

set_option maxRecDepth 100000 in
set_option maxHeartbeats 1600000 in
theorem left_ok {w : World} {v : Value} {X : List Nat} {k : Nat} (h : Sl eU32 w v (u32s X)) (hX : ∀ d ∈ X, d < B) (hmax : X.length < 274877906944) (hk : k ≤ 31) :
    Calls Tryd.prog 54 #[v, .int .i64 k] w fun e w' => ∃ (l : List Nat) (g cap : Nat), e = .returned (.slice (some ⟨g, 0, none⟩) (X.length + 1) cap) ∧ l.length = X.length + 1 ∧ (∀ d ∈ l, d < B) ∧ val B l = val B X * 2 ^ k ∧
      w'.ownsRow w.heap.size eU32 1 (.slice (some ⟨g, 0, none⟩) (X.length + 1) cap) (X.length + 1) (u32s l) ∧ Below w.heap.size w w' := by
  obtain ⟨x1, cp1, rfl, _, hx1⟩ := Sl.outU h
  have HX1 := Lib.hid hx1
  have HL := Lib.hid hX
  clear h hx1 hX
  go_enter Tryd.func54, Tryd.ntmps54
  go_wp2_with (at_make; refine wpList_make_sl _ rfl _ _ 22 rfl w.heap.size eU32 _ 4 elemU32 rfl .i64 .i64 _ _ (X.length + 1) rfl rfl (by omega) (by omega) (by omega) (by unfold maxLen; omega) (by simp) ?_; intro w3 hown hgrow)
  have hB3 := grown_ext hgrow
  clear hgrow
  go_loopw [14] (fun i wr => ∃ (j : Nat) (l : List Nat), j ≤ X.length ∧ i = .int .i64 j ∧ l.length = X.length + 1 ∧ (∀ d ∈ l, d < B) ∧ l[j]?.getD 0 < 2 ^ k ∧ (∀ t, j < t → l[t]?.getD 0 = 0) ∧ val B l = val B (X.take j) * 2 ^ k ∧
      wr.ownsRow w.heap.size eU32 1 (.slice (some ⟨w.heap.size, 0, none⟩) (X.length + 1) (X.length + 1)) (X.length + 1) (u32s l) ∧ Below w.heap.size w wr)
    (fun i _ => X.length - (intOf i).toNat)
  case atStart =>
    refine ⟨0, List.replicate (X.length + 1) 0, Nat.zero_le _, rfl, by simp, ?_, ?_, ?_, by simp [val_zeros, val], by simpa [u32s] using hown, hB3⟩
    · intro d hd; rw [(List.mem_replicate.1 hd).2]; decide
    · rw [List.getElem?_replicate]; simp [Nat.two_pow_pos]
    · intro t _
      rw [List.getElem?_replicate]; split <;> rfl
  case round =>
    obtain ⟨j, l, hj, rfl, hl, hlt, hlo, hz, hv, hO, hE⟩ := hrel
    have HV := Lib.hid hv
    have HLT := Lib.hid hlt
    have HZ := Lib.hid hz
    have HLO := Lib.hid hlo
    clear hv hlt hz hlo
    by_cases hjX : j < X.length
    · obtain ⟨b1, off1, rfl, hb1, hc1⟩ := HX1.out j hjX
      have hc1 := (hE.cell (p := ⟨b1, off1 + j, none⟩) hb1).trans hc1
      have hp : X[j] < B := HL.out _ (List.getElem_mem _)
      obtain ⟨hcell, hfr⟩ := own_at hO (j := j) (by simp; omega)
      rw [u32s_getElem _ _ (by omega)] at hcell
      have HS := Lib.hid (fun (u : Value) => hO.stored j u)
      have HVT := Lib.hid (val_take_succ B X j hjX)
      have hlj : l[j]?.getD 0 = l[j] := by rw [List.getElem?_eq_getElem (by omega)]; rfl
      have HLJ := Lib.hid hlj
      have hz1 : l[j + 1] = 0 := by have := HZ.out (j + 1) (by omega); rw [List.getElem?_eq_getElem (by omega)] at this; exact this
      have hc2 : ∀ u, (wr.setCell ⟨w.heap.size, j, none⟩ u).cell? ⟨w.heap.size, j + 1, none⟩ = some (.int .u32 0) := fun u => by
        have := (own_at (HS.out u).1 (j := j + 1) (by simp; omega)).1
        rw [this, List.getElem_set_ne (by omega), u32s_getElem _ _ (by omega), hz1]; rfl
      have hf2 : ∀ u, (wr.setCell ⟨w.heap.size, j, none⟩ u).frozen? ⟨w.heap.size, j + 1, none⟩ = false := fun u => (own_at (HS.out u).1 (j := j + 1) (by simp; omega)).2
      clear hz1
      generalize X[j] = d at *
      generalize l[j] = c at *
      go_wp2_with fail
      refine wp_region_E #[true, true, true, true, true, true, true, true, true, false] 9 1 mixed (by rfl) ?_
      have kE0 := ext_trans (ext_refl wr) (ext_drew _)
      have hg0 := Gr.cell kE0 hcell
      refine wpE_seg' [0, 1, 2, 3, 4, 5, 6, 7, 8] 0 rfl (by kernel_rfl) ?_
      iterate 9 (refine seg_cons rfl ?_; go_big_quiet_step (rfl))
      refine seg_nil ?_
      clear hg0
      refine wpE_tail [9] (by kernel_rfl) ?_
      refine tail_cons rfl ?_
      go_wp2_with fail
      refine tail_nil ?_
      go_wp2_with fail
      refine ⟨⟨j + 1, (l.set j (c + (d * 2 ^ k) % B)).set (j + 1) (d / 2 ^ (32 - k)), by omega, rfl, by simp; exact hl, ?_, ?_, ?_, ?_, ?_, ?_⟩, by simp [intOf]; omega⟩
      · have h1 := (left_split hk hp).2
        refine lt_of_mem_set (lt_of_mem_set HLT.out (h1.2 c ?_)) ?_
        · rw [← HLJ.out]; exact HLO.out
        · have h2 : 2 ^ k ≤ 2 ^ 31 := Nat.pow_le_pow_right (by omega) hk
          have := h1.1
          unfold B; omega
      · rw [List.getElem?_set_self (by simp; omega)]
        exact (left_split hk hp).2.1
      · intro t ht
        rw [getD_set_ne (by omega), getD_set_ne (by omega)]
        exact HZ.out t (by omega)
      · have := left_step (l := l) (i := j) hk hp (by omega) (HZ.out (j + 1) (by omega))
        rw [HLJ.out] at this
        rw [this, HV.out, HVT.out, Nat.add_mul, Nat.mul_right_comm]
      · have e1 : IntKind.u64.wrap (d : Int) / 2 ^ (32 - k) % 4294967296 = ((d / 2 ^ (32 - k) : Nat) : Int) := by
          have : IntKind.u64.wrap (d : Int) = d := by rw [IntKind.wrap_u64]; unfold B at hp; omega
          rw [this]
          have h2 : d / 2 ^ (32 - k) ≤ d := Nat.div_le_self _ _
          have h3 : (d : Int) / 2 ^ (32 - k) = ((d / 2 ^ (32 - k) : Nat) : Int) := by simp
          rw [h3]
          generalize d / 2 ^ (32 - k) = t at h2
          unfold B at hp; omega
        rw [or_u32 hk (by rw [← HLJ.out]; exact HLO.out) hp, e1, ← u32s_set, ← u32s_set]
        exact ((HS.out _).1.stored (j + 1) _).1.drew
      · exact (below_put (below_put hE (Nat.le_refl _)) (Nat.le_refl _)).drew
    · obtain rfl : j = X.length := by omega
      go_wp2
      go_ret
      exact ⟨l, _, _, rfl, hl, HLT.out, by rw [HV.out, List.take_length], hO, hE⟩

set_option maxRecDepth 100000 in
set_option maxHeartbeats 1600000 in
theorem right_ok {w : World} {v : Value} {l : List Nat} {k n : Nat} (h : Sl eU32 w v (u32s l)) (hl : ∀ d ∈ l, d < B) (hmax : l.length < 1099511627776) (hk : k ≤ 31) (hn : n < l.length) :
    Calls Tryd.prog 58 #[v, .int .i64 k, .int .i64 n] w fun e w' => ∃ (r : Value), e = .returned r ∧
      w'.ownsRow w.heap.size eU32 1 r n (u32s (digL B (val B l / 2 ^ k) n)) ∧ Below w.heap.size w w' := by
  obtain ⟨x1, cp1, rfl, _, hx1⟩ := Sl.outU h
  have HX1 := Lib.hid hx1
  have HL := Lib.hid hl
  clear h hx1 hl
  have RD := Lib.hid (fun (i : Nat) (hi : i + 1 < l.length) => right_dig (k := k) hk hi HL.out)
  generalize val B l / 2 ^ k = V at *
  go_enter Tryd.func58, Tryd.ntmps58
  go_wp2_with (at_make; refine wpList_make_sl _ rfl _ _ 22 rfl w.heap.size eU32 _ 4 elemU32 rfl .i64 .i64 _ _ n rfl rfl (by omega) (by omega) (by omega) (by unfold maxLen; omega) (by simp) ?_; intro w3 hown hgrow)
  have hB3 := grown_ext hgrow
  clear hgrow
  go_loopw [13] (fun i wr => ∃ (j : Nat) (q : List Nat), j ≤ n ∧ i = .int .i64 j ∧ q.length = n ∧ q.take j = digL B V j ∧
      wr.ownsRow w.heap.size eU32 1 (.slice (some ⟨w.heap.size, 0, none⟩) n n) n (u32s q) ∧ Below w.heap.size w wr)
    (fun i _ => n - (intOf i).toNat)
  case atStart =>
    exact ⟨0, List.replicate n 0, Nat.zero_le _, rfl, by simp, by simp [digL], by simpa [u32s] using hown, hB3⟩
  case round =>
    obtain ⟨j, q, hj, rfl, hq, hd, hO, hE⟩ := hrel
    have HD := Lib.hid hd
    clear hd
    by_cases hjn : j < n
    · obtain ⟨b1, off1, rfl, hb1, hc1⟩ := HX1.out j (by omega)
      have hc1 := (hE.cell (p := ⟨b1, off1 + j, none⟩) hb1).trans hc1
      obtain ⟨b1, off1, e1, hb2, hc2⟩ := HX1.out (j + 1) (by omega)
      cases e1
      have hc2 := (hE.cell (p := ⟨b1, off1 + (j + 1), none⟩) hb2).trans hc2
      have hp1 : l[j] < B := HL.out _ (List.getElem_mem _)
      have hp2 : l[j + 1] < B := HL.out _ (List.getElem_mem _)
      obtain ⟨hcell, hfr⟩ := own_at hO (j := j) (by simp; omega)
      have HS := Lib.hid (fun (u : Value) => hO.stored j u)
      have HR := Lib.hid (RD.out j (by omega))
      generalize l[j] = d0 at *
      generalize l[j + 1] = d1 at *
      obtain ⟨S, hor, hS⟩ : ∃ S : Nat, bits .or .u64 (IntKind.u64.wrap ((d1 : Int) * 4294967296)) (IntKind.u64.wrap (d0 : Int)) = (S : Int) ∧ S = B * d1 + d0 := ⟨_, or_u64 hp2 hp1, rfl⟩
      have HSS := Lib.hid hS
      clear hS
      go_wp2_with fail
      refine wp_region_E #[true, true, true, true, true, true, true, true, true, true, true, true, true, true, true, true, true, true, true, false] 19 1 mixed (by rfl) ?_
      have kE0 := ext_trans (ext_refl wr) (ext_drew _)
      have hg0 := Gr.cell kE0 hc1
      have hg1 := Gr.cell kE0 hc2
      refine wpE_seg' [0, 1, 2, 3, 4, 5, 6, 7, 8, 9, 10, 11, 12, 13, 14, 15, 16, 17, 18] 0 rfl (by kernel_rfl) ?_
      iterate 19 (refine seg_cons rfl ?_; go_big_quiet_step (rfl))
      refine seg_nil ?_
      clear hg0 hg1
      refine wpE_tail [19] (by kernel_rfl) ?_
      refine tail_cons rfl ?_
      go_wp2_with fail
      refine tail_nil ?_
      go_wp2_with fail
      have e0 : IntKind.u64.wrap (d1 : Int) = d1 := by rw [IntKind.wrap_u64]; unfold B at hp2; omega
      have e1 : (S : Int) / 2 ^ k % 4294967296 = ((dig B V j : Nat) : Int) := by
        rw [← HR.out, ← HSS.out]; unfold B; simp
      rw [e0, hor, e1]
      refine ⟨⟨j + 1, q.set j (dig B V j), by omega, rfl, by simp; exact hq, ?_, by rw [← u32s_set]; exact (HS.out _).1.drew, (below_put hE (Nat.le_refl _)).drew⟩, by simp [intOf]; omega⟩
      rw [List.take_succ_eq_append_getElem (by simp; omega), List.getElem_set_self, digL_succ, List.take_set_of_le (Nat.le_refl _), HD.out]
    · obtain rfl : j = n := by omega
      rw [List.take_of_length_le (by omega)] at HD
      go_wp2
      go_ret
      exact ⟨_, rfl, by rw [← HD.out]; exact hO, hE⟩
end Go.Proofs.YtcabmibcgedhhaaDoor

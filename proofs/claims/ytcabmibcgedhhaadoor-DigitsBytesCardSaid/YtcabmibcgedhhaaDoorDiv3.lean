/-
  The walks of prod.take and prod.back.
-/
import Derived.Test.YtcabmibcgedhhaaDoorDiv2
namespace Go.Proofs.YtcabmibcgedhhaaDoor
open Go.RowKit Go.Cd

/-- A part of a row of the caller's own, between what stands ahead of it and behind. -/
theorem part_at {w : World} {base g N cap : Nat} {pre M post : List Nat} (h : w.ownsRow base eU32 1 (.slice (some ⟨g, 0, none⟩) N cap) N (u32s (pre ++ M ++ post))) {j : Nat} (hj : j < M.length) :
    w.cell? ⟨g, pre.length + j, none⟩ = some (.int .u32 (M[j] : Nat)) ∧ w.frozen? ⟨g, pre.length + j, none⟩ = false := by
  obtain ⟨h1, h2⟩ := own_at h (j := pre.length + j) (by simp; omega)
  refine ⟨?_, h2⟩
  rw [h1, u32s_getElem _ _ (by simp; omega)]
  rw [List.getElem_append_left (by simp; omega), List.getElem_append_right (by omega)]
  simp

theorem part_set {w : World} {base g N cap : Nat} {pre M post : List Nat} (h : w.ownsRow base eU32 1 (.slice (some ⟨g, 0, none⟩) N cap) N (u32s (pre ++ M ++ post))) {j : Nat} (hj : j < M.length) (u : Nat) :
    (w.setCell ⟨g, pre.length + j, none⟩ (.int .u32 (u : Int))).ownsRow base eU32 1 (.slice (some ⟨g, 0, none⟩) N cap) N (u32s (pre ++ M.set j u ++ post)) ∧ w.grownBy (w.setCell ⟨g, pre.length + j, none⟩ (.int .u32 (u : Int))) (some g) := by
  obtain ⟨h1, h2⟩ := h.stored (pre.length + j) (.int .u32 (u : Int))
  refine ⟨?_, h2⟩
  have e0 : (u32s (pre ++ M ++ post)).set (pre.length + j) (.int .u32 (u : Int)) = u32s ((pre ++ M ++ post).set (pre.length + j) u) := by rw [u32s_set]
  rw [e0] at h1
  have e : (pre ++ M ++ post).set (pre.length + j) u = pre ++ M.set j u ++ post := by
    rw [List.set_append_left _ _ (by simp; omega), List.set_append_right _ _ (by omega)]
    simp
  rwa [e] at h1

theorem take_num {x p bn : Nat} (hx : x < B) (hp : p < B * B) (hb : bn ≤ 1) : ∃ u b' : Nat,
    IntKind.u64.wrap (IntKind.u64.wrap (IntKind.u64.wrap (x : Int) - bits .and .u64 (p : Int) 4294967295) - (bn : Int)) / 9223372036854775808 = (b' : Int) ∧
    IntKind.u64.wrap (IntKind.u64.wrap (IntKind.u64.wrap (x : Int) - bits .and .u64 (p : Int) 4294967295) - (bn : Int)) % 4294967296 = (u : Int) ∧ b' ≤ 1 ∧ u < B ∧ u + p % B + bn = x + B * b' := by
  have e1 : bits .and .u64 (p : Int) 4294967295 = ((p % B : Nat) : Int) := by
    have h1 := u64_and_nat p 4294967295 (by unfold B at hp; omega) (by omega)
    have h2 : p &&& 4294967295 = p % 2 ^ 32 := Nat.and_two_pow_sub_one_eq_mod p 32
    rw [h2] at h1
    exact h1
  rw [e1]
  have hlo : p % B < B := Nat.mod_lt _ (by decide)
  generalize p % B = lo at *
  unfold B at *
  by_cases h : lo + bn ≤ x
  · refine ⟨x - lo - bn, 0, ?_, ?_, by omega, by omega, by omega⟩ <;> simp only [IntKind.wrap_u64] <;> omega
  · refine ⟨4294967296 + x - lo - bn, 1, ?_, ?_, by omega, by omega, by omega⟩ <;> simp only [IntKind.wrap_u64] <;> omega

set_option maxRecDepth 100000 in
set_option maxHeartbeats 1600000 in
theorem take_ok {w0 w : World} {v : Value} {V pre M post : List Nat} {g N cap cap' q : Nat} (h : Sl eU32 w0 v (u32s V)) (E : Below w0.heap.size w0 w)
    (ho : w.ownsRow w0.heap.size eU32 1 (.slice (some ⟨g, 0, none⟩) N cap) N (u32s (pre ++ M ++ post))) (hM : M.length = V.length + 1) (hV : ∀ d ∈ V, d < B) (hMB : ∀ d ∈ M, d < B) (hq : q < B) (hmax : M.length < 1099511627776) :
    Calls Tryd.prog 56 #[.slice (some ⟨g, pre.length, none⟩) M.length cap', v, .int .u64 q] w fun e w' => ∃ (b : Nat) (M' : List Nat), e = .returned (.bool (decide (0 < b))) ∧ b ≤ 1 ∧ M'.length = M.length ∧ (∀ d ∈ M', d < B) ∧
      val B M' + q * val B V = val B M + b * B ^ M.length ∧
      w'.ownsRow w0.heap.size eU32 1 (.slice (some ⟨g, 0, none⟩) N cap) N (u32s (pre ++ M' ++ post)) ∧ w.grownBy w' (some g) := by
  obtain ⟨x1, cp1, rfl, _, hx1⟩ := Sl.outU h
  have HX1 := Lib.hid hx1
  have HV := Lib.hid hV
  have HMB := Lib.hid hMB
  have HE := Lib.hid E
  clear h hx1 hV hMB E
  have hgb : w0.heap.size ≤ g := (ho.lt g rfl).1
  have HW := Lib.hid (val_lt M HMB.out)
  go_enter Tryd.func56, Tryd.ntmps56
  go_wp2_with fail
  go_loopw [7, 8, 14] (fun b c i wr => ∃ (j bn cn : Nat) (L : List Nat), j ≤ M.length ∧ i = .int .i64 j ∧ b = .int .u64 bn ∧ c = .int .u64 cn ∧ bn ≤ 1 ∧ cn < B ∧ (j = M.length → cn = 0) ∧ L.length = M.length ∧ (∀ d ∈ L, d < B) ∧ val B L + q * val B (V.take j) = val B M + (bn + cn) * B ^ j ∧
      wr.ownsRow w0.heap.size eU32 1 (.slice (some ⟨g, 0, none⟩) N cap) N (u32s (pre ++ L ++ post)) ∧ w.grownBy wr (some g))
    (fun _ _ i _ => M.length - (intOf i).toNat)
  case atStart =>
    exact ⟨0, 0, 0, M, Nat.zero_le _, rfl, rfl, rfl, by omega, by decide, fun _ => rfl, rfl, HMB.out, by simp [val], ho, ⟨rfl, rfl, rfl, Nat.le_refl _, fun _ _ _ => rfl⟩⟩
  case round =>
    obtain ⟨j, bn, cn, L, hj, rfl, rfl, rfl, hbn, hcn, hc0, hL, hLB, hval, hO, hG⟩ := hrel
    have HC0 := Lib.hid hc0
    have HLB := Lib.hid hLB
    have HVAL := Lib.hid hval
    have HGG := Lib.hid hG
    clear hc0 hLB hval hG
    by_cases hjM : j < M.length
    · obtain ⟨hcell, hfr⟩ := part_at hO (j := j) (by omega)
      have HS := Lib.hid (fun (u : Nat) => part_set hO (j := j) (by omega) u)
      have hx : L[j] < B := HLB.out _ (List.getElem_mem _)
      have HLj : Hid (L[j]?.getD 0 = L[j]) := by unfold Hid; rw [List.getElem?_eq_getElem (by omega)]; rfl
      generalize L[j] = x at *
      have hB1 : (HE.out.grown HGG.out HE.out.size (fun k e => by cases e; exact hgb)) = (HE.out.grown HGG.out HE.out.size (fun k e => by cases e; exact hgb)) := rfl
      have HB2 := Lib.hid (HE.out.grown HGG.out HE.out.size (fun k e => by cases e; exact hgb))
      clear hB1
      by_cases hjV : j < V.length
      · have hjd : decide ((j : Int) < (V.length : Int)) = true := decide_eq_true (by omega)
        obtain ⟨b1, off1, rfl, hb1, hc1⟩ := HX1.out j hjV
        have hc1 := (HB2.out.cell (p := ⟨b1, off1 + j, none⟩) hb1).trans hc1
        have hy : V[j] < B := HV.out _ (List.getElem_mem _)
        have HVT := Lib.hid (val_take_succ B V j hjV)
        generalize V[j] = y at *
        obtain ⟨p, hp, hpp⟩ : ∃ p : Nat, IntKind.u64.wrap ((cn : Int) + IntKind.u64.wrap ((q : Int) * IntKind.u64.wrap (y : Int))) = (p : Int) ∧ p = cn + q * y := by
          refine ⟨cn + q * y, ?_, rfl⟩
          have w1 : IntKind.u64.wrap (y : Int) = y := by rw [IntKind.wrap_u64]; unfold B at hy; omega
          have h2 : q * y ≤ 4294967295 * 4294967295 := Nat.mul_le_mul (by unfold B at hq; omega) (by unfold B at hy; omega)
          rw [w1, ← Int.natCast_mul]
          generalize q * y = z at *
          rw [IntKind.wrap_u64, IntKind.wrap_u64]
          unfold B at hcn
          omega
        have HPP := Lib.hid hpp
        clear hpp
        have hpB : p < B * B := by
          have h2 : q * y ≤ 4294967295 * 4294967295 := Nat.mul_le_mul (by unfold B at hq; omega) (by unfold B at hy; omega)
          have h3 := HPP.out
          generalize q * y = z at *
          unfold B at hcn ⊢; omega
        obtain ⟨u, b', hb', hu, hb1', huB, hr⟩ := take_num hx hpB hbn
        have HR := Lib.hid hr
        have hpd : p / B < B := Nat.div_lt_of_lt_mul hpB
        have HST := Lib.hid (take_step (u := u) (l := L) (v := V) (i := j) (b := bn) (c := cn) (q := q) (U := val B M) (by omega) HLj.out HVT.out (by rw [← HPP.out]; exact (Nat.div_add_mod p B).symm) HR.out HVAL.out)
        clear hr hpB
        go_wp2
        go_roundw
        case rel =>
          have hs := HS.out u
          exact ⟨j + 1, b', p / B, L.set j u, by omega, rfl, rfl, rfl, hb1', hpd, fun h => by omega, by simp; exact hL, lt_of_mem_set HLB.out huB, HST.out, hs.1, HGG.out.trans hs.2⟩
        case measure => simp [intOf]; omega
      · have hjd : decide ((j : Int) < (V.length : Int)) = false := decide_eq_false (by omega)
        have hpB : cn < B * B := by unfold B at hcn ⊢; omega
        obtain ⟨u, b', hb', hu, hb1', huB, hr⟩ := take_num hx hpB hbn
        have HR := Lib.hid hr
        have HVT := Lib.hid (take_val B V j)
        rw [List.getElem?_eq_none (by omega)] at HVT
        have HST := Lib.hid (take_step (u := u) (l := L) (v := V) (i := j) (b := bn) (c := cn) (q := q) (U := val B M) (by omega) HLj.out HVT.out (by simp; exact (Nat.div_add_mod cn B).symm) HR.out HVAL.out)
        have hpd : cn / B = 0 := Nat.div_eq_of_lt hcn
        clear hr hpB
        go_wp2
        go_roundw
        case rel =>
          have hs := HS.out u
          exact ⟨j + 1, b', cn / B, L.set j u, by omega, rfl, rfl, rfl, hb1', by rw [hpd]; decide, fun h => hpd, by simp; exact hL, lt_of_mem_set HLB.out huB, HST.out, hs.1, HGG.out.trans hs.2⟩
        case measure => simp [intOf]; omega
    · obtain rfl : j = M.length := by omega
      have hv := HVAL.out
      rw [List.take_of_length_le (by omega), HC0.out rfl, Nat.add_zero] at hv
      have HV2 := Lib.hid hv
      clear hv
      have hbd : decide (0 < (bn : Int)) = decide (0 < bn) := by simp
      go_wp2
      go_ret
      exact ⟨bn, rfl, hbn, L, by omega, HLB.out, by rw [← hM]; exact HV2.out, by rw [← List.append_assoc]; exact hO, HGG.out⟩

set_option maxRecDepth 100000 in
set_option maxHeartbeats 1600000 in
theorem back_ok {w0 w : World} {v : Value} {V pre M post : List Nat} {g N cap cap' : Nat} (h : Sl eU32 w0 v (u32s V)) (E : Below w0.heap.size w0 w)
    (ho : w.ownsRow w0.heap.size eU32 1 (.slice (some ⟨g, 0, none⟩) N cap) N (u32s (pre ++ M ++ post))) (hM : M.length = V.length + 1) (hV : ∀ d ∈ V, d < B) (hMB : ∀ d ∈ M, d < B) (hmax : M.length < 1099511627776) :
    Calls Tryd.prog 57 #[.slice (some ⟨g, pre.length, none⟩) M.length cap', v] w fun e w' => ∃ (b : Nat) (M' : List Nat) (r : Value), e = .returned r ∧ M'.length = M.length ∧ (∀ d ∈ M', d < B) ∧
      val B M' + b * B ^ M.length = val B M + val B V ∧
      w'.ownsRow w0.heap.size eU32 1 (.slice (some ⟨g, 0, none⟩) N cap) N (u32s (pre ++ M' ++ post)) ∧ w.grownBy w' (some g) := by
  obtain ⟨x1, cp1, rfl, _, hx1⟩ := Sl.outU h
  have HX1 := Lib.hid hx1
  have HV := Lib.hid hV
  have HMB := Lib.hid hMB
  have HE := Lib.hid E
  clear h hx1 hV hMB E
  have hgb : w0.heap.size ≤ g := (ho.lt g rfl).1
  go_enter Tryd.func57, Tryd.ntmps57
  go_wp2_with fail
  go_loopw [4, 8] (fun c i wr => ∃ (j cn : Nat) (L : List Nat), j ≤ M.length ∧ i = .int .i64 j ∧ c = .int .u64 cn ∧ cn ≤ 1 ∧ L.length = M.length ∧ (∀ d ∈ L, d < B) ∧
      val B L + cn * B ^ j = val B M + val B (V.take j) ∧
      wr.ownsRow w0.heap.size eU32 1 (.slice (some ⟨g, 0, none⟩) N cap) N (u32s (pre ++ L ++ post)) ∧ w.grownBy wr (some g))
    (fun _ i _ => M.length - (intOf i).toNat)
  case atStart =>
    exact ⟨0, 0, M, Nat.zero_le _, rfl, rfl, by omega, rfl, HMB.out, by simp [val], ho, ⟨rfl, rfl, rfl, Nat.le_refl _, fun _ _ _ => rfl⟩⟩
  case round =>
    obtain ⟨j, cn, L, hj, rfl, rfl, hcn, hL, hLB, hval, hO, hG⟩ := hrel
    have HLB := Lib.hid hLB
    have HVAL := Lib.hid hval
    have HGG := Lib.hid hG
    clear hLB hval hG
    by_cases hjM : j < M.length
    · obtain ⟨hcell, hfr⟩ := part_at hO (j := j) (by omega)
      have HS := Lib.hid (fun (u : Nat) => part_set hO (j := j) (by omega) u)
      have hx : L[j] < B := HLB.out _ (List.getElem_mem _)
      have HLj : Hid (L[j]?.getD 0 = L[j]) := by unfold Hid; rw [List.getElem?_eq_getElem (by omega)]; rfl
      generalize L[j] = x at *
      have HB2 := Lib.hid (HE.out.grown HGG.out HE.out.size (fun k e => by cases e; exact hgb))
      have hxw : IntKind.u64.wrap (x : Int) = x := by rw [IntKind.wrap_u64]; unfold B at hx; omega
      by_cases hjV : j < V.length
      · have hjd : decide ((j : Int) < (V.length : Int)) = true := decide_eq_true (by omega)
        obtain ⟨b1, off1, rfl, hb1, hc1⟩ := HX1.out j hjV
        have hc1 := (HB2.out.cell (p := ⟨b1, off1 + j, none⟩) hb1).trans hc1
        have hy : V[j] < B := HV.out _ (List.getElem_mem _)
        have HVT := Lib.hid (val_take_succ B V j hjV)
        generalize V[j] = y at *
        have hyw : IntKind.u64.wrap (y : Int) = y := by rw [IntKind.wrap_u64]; unfold B at hy; omega
        obtain ⟨t, ht1, ht⟩ : ∃ t : Nat, IntKind.u64.wrap ((cn : Int) + (y : Int)) = (t : Int) ∧ t = cn + y := ⟨cn + y, by rw [IntKind.wrap_u64]; unfold B at hy; omega, rfl⟩
        obtain ⟨s, hs1, hs⟩ : ∃ s : Nat, IntKind.u64.wrap ((t : Int) + (x : Int)) = (s : Int) ∧ s = cn + y + x := ⟨cn + y + x, by rw [IntKind.wrap_u64]; unfold B at hx hy; omega, rfl⟩
        have HSS := Lib.hid hs
        have HST := Lib.hid (back_step (u := s % B) (c' := s / B) (l := L) (v := V) (i := j) (c := cn) (U := val B M) (by omega) HLj.out HVT.out (by rw [← HSS.out]; exact (Nat.div_add_mod s B).symm) HVAL.out)
        have hpd : s / B ≤ 1 := Nat.lt_succ_iff.1 (Nat.div_lt_of_lt_mul (by rw [HSS.out]; unfold B at hx hy ⊢; omega))
        have huB : s % B < B := Nat.mod_lt _ (by decide)
        clear hs ht
        go_wp2
        go_roundw
        case rel =>
          have hs := HS.out (s % B)
          exact ⟨j + 1, s / B, L.set j (s % B), by omega, rfl, rfl, hpd, by simp; exact hL, lt_of_mem_set HLB.out huB, HST.out, hs.1, HGG.out.trans hs.2⟩
        case measure => simp [intOf]; omega
      · have hjd : decide ((j : Int) < (V.length : Int)) = false := decide_eq_false (by omega)
        have HVT := Lib.hid (take_val B V j)
        rw [List.getElem?_eq_none (by omega)] at HVT
        obtain ⟨s, hs1, hs⟩ : ∃ s : Nat, IntKind.u64.wrap ((cn : Int) + (x : Int)) = (s : Int) ∧ s = cn + x := ⟨cn + x, by rw [IntKind.wrap_u64]; unfold B at hx; omega, rfl⟩
        have HSS := Lib.hid hs
        have HST := Lib.hid (back_step (u := s % B) (c' := s / B) (l := L) (v := V) (i := j) (c := cn) (U := val B M) (by omega) HLj.out HVT.out (by simp; rw [← HSS.out]; exact (Nat.div_add_mod s B).symm) HVAL.out)
        have hpd : s / B ≤ 1 := Nat.lt_succ_iff.1 (Nat.div_lt_of_lt_mul (by rw [HSS.out]; unfold B at hx ⊢; omega))
        have huB : s % B < B := Nat.mod_lt _ (by decide)
        clear hs
        go_wp2
        go_roundw
        case rel =>
          have hs := HS.out (s % B)
          exact ⟨j + 1, s / B, L.set j (s % B), by omega, rfl, rfl, hpd, by simp; exact hL, lt_of_mem_set HLB.out huB, HST.out, hs.1, HGG.out.trans hs.2⟩
        case measure => simp [intOf]; omega
    · obtain rfl : j = M.length := by omega
      have hv := HVAL.out
      rw [List.take_of_length_le (by omega)] at hv
      have HV2 := Lib.hid hv
      clear hv
      go_wp2
      go_end0
      exact ⟨cn, L, _, rfl, hL, HLB.out, HV2.out, hO, HGG.out⟩
end Go.Proofs.YtcabmibcgedhhaaDoor

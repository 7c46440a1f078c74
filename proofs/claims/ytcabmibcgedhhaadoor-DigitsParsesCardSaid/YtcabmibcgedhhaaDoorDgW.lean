/-
  The walk of cedillaref03.Parse.
-/
import Derived.Test.YtcabmibcgedhhaaDoorDgQ
import Derived.Test.YtcabmibcgedhhaaDoorRef4
import Derived.Test.YtcabmibcgedhhaaDoorRef5
namespace Go.Proofs.YtcabmibcgedhhaaDoor
open Go.RowKit Go.Cd

/-- The row behind j rounds: the digits from the right. -/
def wrt (L : List Nat) (Z j : Nat) : List Nat := List.replicate (Z - j) 0 ++ ((L.take j).map (· - 48)).reverse
theorem wrt_zero (L : List Nat) (Z : Nat) : wrt L Z 0 = List.replicate Z 0 := by simp [wrt]
theorem wrt_all {L : List Nat} {Z : Nat} (h : L.length = Z) : wrt L Z Z = (L.map (· - 48)).reverse := by
  unfold wrt
  rw [Nat.sub_self, List.take_of_length_le (by omega)]; rfl
theorem wrt_step {L : List Nat} {Z j : Nat} (h : j < L.length) (hZ : L.length ≤ Z) : wrt L Z (j + 1) = (wrt L Z j).set (Z - 1 - j) (L[j] - 48) := by
  unfold wrt
  rw [List.take_succ_eq_append_getElem h, List.map_append, List.reverse_append, show Z - j = (Z - 1 - j) + 1 by omega, List.replicate_succ', List.append_assoc, List.set_append_right _ _ (by simp)]
  simp
  omega
theorem ps_bad {L : List Nat} (h : ¬ 10000 < L.length) (hd : isDec L = false) : psE L = 3 := by
  unfold psE rightB
  rw [if_neg h, hd]; rfl
theorem ps_good {L : List Nat} (h : ¬ 10000 < L.length) (hd : isDec L = true) (hr : L.length ≠ 0 ∧ (L.length = 1 ∨ L[0]?.getD 0 ≠ 48)) : psE L = 0 := by
  unfold psE rightB
  rw [if_neg h, hd, Bool.true_and, if_pos]
  match L, hr with
  | [c], _ =>
    by_cases hc : c = 48 <;> simp [hc]
  | c :: d :: l, hr =>
    have := hr.2
    simp at this ⊢
    exact this
  | [], hr => exact absurd rfl hr.1
theorem ps_lead {L : List Nat} (h : ¬ 10000 < L.length) (h1 : 1 < L.length) (hr : L[0]?.getD 0 = 48) : psE L = 3 := by
  unfold psE rightB
  rw [if_neg h, if_neg]
  match L, h1, hr with
  | c :: d :: l, _, hr =>
    simp at hr
    simp [hr]
theorem ext_trans_le {w a b : World} (h : Below w.heap.size w a) (k : Below a.heap.size a b) : Below w.heap.size w b := h.trans (k.mono h.size)

set_option maxRecDepth 100000 in
set_option maxHeartbeats 3200000 in
theorem refParse_ok {w : World} (s : ByteArray) (hs : s.size < 1000000) :
    Calls Tryd.prog 22 #[.string s] w fun e w' => ∃ r, e = .returned (.tuple #[r, .int .i64 (psE (bts s))]) ∧ (psE (bts s) = 0 → DecV w' r (hvd (bts s))) ∧ Below w.heap.size w w' := by
  have hlen : (bts s).length = s.size := length_bts s
  have q1 := str_is (s := s) (l := []) (by decide)
  have e1 : (str []).toList = [] := by rw [ByteArray.toList_eq]; rfl
  rw [e1] at q1
  have HL := Lib.hid (bts_lt s)
  obtain ⟨L, hL⟩ : ∃ L, L = bts s := ⟨_, rfl⟩
  have HB := Lib.hid hL.symm
  rw [← hL] at hlen q1 HL ⊢
  by_cases hbig : 10000 < s.size
  · have hd : decide ((10000 : Int) < (s.size : Int)) = true := decide_eq_true (by omega)
    have hps : psE L = 4 := by unfold psE; rw [if_pos (by omega)]
    go_enter Tryd.func22, Tryd.ntmps22
    go_wp2
    go_ret2
    exact ⟨_, by rw [hps]; rfl, fun h => absurd (hps.symm.trans h) (by omega), Below.refl _ _⟩
  · have hd : decide ((10000 : Int) < (s.size : Int)) = false := decide_eq_false (by omega)
    have HBIG := Lib.hid (show ¬ 10000 < L.length by omega)
    by_cases h0 : L = []
    · rw [decide_eq_true h0] at q1
      have p1 : s.toList = [] := beq_iff_eq.1 q1
      have p2 : s.toList.isEmpty = true := by rw [p1]; rfl
      have hps : psE L = 3 := by subst h0; rfl
      clear q1
      go_enter Tryd.func22, Tryd.ntmps22
      go_wp2
      go_ret2
      exact ⟨_, by rw [hps]; rfl, fun h => absurd (hps.symm.trans h) (by omega), Below.refl _ _⟩
    · rw [decide_eq_false h0] at q1
      have p1 : ¬ s.toList = [] := beq_eq_false_iff_ne.1 q1
      have p2 : s.toList.isEmpty = false := by cases h : s.toList with | nil => exact absurd h p1 | cons => rfl
      clear q1
      have hpos : 0 < s.size := by have := List.length_pos_iff.2 h0; omega
      by_cases hone : 1 < s.size
      · have hg0 : (s[0]'hpos).toNat = L[0]?.getD 0 := by
          rw [← bts_get s 0 hpos, List.getElem?_eq_getElem (by omega), Option.getD_some]; simp only [HB.out]
        have d0 : decide ((1 : Int) < (s.size : Int)) = true := decide_eq_true (by omega)
        by_cases h48 : L[0]?.getD 0 = 48
        · have hps : psE L = 3 := ps_lead HBIG.out (by omega) h48
          rw [h48] at hg0
          go_enter Tryd.func22, Tryd.ntmps22
          go_wp2
          go_ret2
          exact ⟨_, by rw [hps]; rfl, fun h => absurd (hps.symm.trans h) (by omega), Below.refl _ _⟩
        · have HRT := Lib.hid (show L.length ≠ 0 ∧ (L.length = 1 ∨ L[0]?.getD 0 ≠ 48) from ⟨by omega, .inr h48⟩)
          obtain ⟨g, hgc⟩ : ∃ g, g = L[0]?.getD 0 := ⟨_, rfl⟩
          rw [← hgc] at hg0 h48
          have d1 : ((g : Int) == 48) = false := beq_eq_false_iff_ne.2 (by omega)
          have d2 : (g == 48) = false := beq_eq_false_iff_ne.2 h48
          have hg1 := hg0
          clear hgc hL h0
          go_enter Tryd.func22, Tryd.ntmps22
          go_wp2_with (at_make; refine wpList_make_sl _ rfl _ _ 37 rfl w.heap.size eInt _ 8 elemInt rfl .i64 .i64 _ _ s.size rfl rfl (by omega) (by omega) (by omega) (by unfold maxLen; omega) (by simp) ?_; intro w3 hown hgrow)
          have hB3 := grown_ext hgrow
          clear hgrow
          go_loopw [5] (fun i wr => ∃ j : Nat, j ≤ s.size ∧ i = .int .i64 j ∧ (∀ t (h : t < L.length), t < j → 48 ≤ L[t] ∧ L[t] ≤ 57) ∧
              wr.ownsRow w.heap.size eInt 1 (.slice (some ⟨w.heap.size, 0, none⟩) s.size s.size) s.size (ds (wrt L s.size j)) ∧ Below w.heap.size w wr)
            (fun i _ => s.size - (intOf i).toNat)
          case atStart =>
            refine ⟨0, Nat.zero_le _, rfl, fun _ _ h => by omega, ?_, hB3⟩
            rw [wrt_zero]
            simpa [ds] using hown
          case round =>
            obtain ⟨j, hj, rfl, hd, hO, hE⟩ := hrel
            have HD := Lib.hid hd
            have HO := Lib.hid hO
            clear hd hown hB3
            by_cases hjs : j < s.size
            · have hjL : j < L.length := by omega
              have hjS : j < s.size := by omega
              have hg : (s[j]'hjS).toNat = L[j] := by rw [← bts_get s j hjS]; simp only [HB.out]
              have hclt := HL.out _ (List.getElem_mem hjL)
              have hfal := isDec_false (l := L) (j := j) hjL
              have hstep := wrt_step (L := L) (Z := s.size) (j := j) hjL (by omega)
              generalize hc : L[j] = c at *
              have HF := Lib.hid hfal
              have HC := Lib.hid hc
              have HST := Lib.hid hstep
              clear hfal hc hstep
              by_cases h1 : c < 48
              · have d1 : decide ((c : Int) < 48) = true := decide_eq_true (by omega)
                have d2 : decide (c < 48) = true := decide_eq_true h1
                have hps : psE L = 3 := ps_bad HBIG.out (HF.out (.inl h1))
                clear hO
                go_wp2
                go_ret2
                exact ⟨_, by rw [hps]; rfl, fun h => absurd (hps.symm.trans h) (by omega), hE⟩
              · have d1 : decide ((c : Int) < 48) = false := decide_eq_false (by omega)
                have d2 : decide (c < 48) = false := decide_eq_false h1
                by_cases h2 : 57 < c
                · have d3 : decide ((57 : Int) < (c : Int)) = true := decide_eq_true (by omega)
                  have d4 : decide (57 < c) = true := decide_eq_true h2
                  have hps : psE L = 3 := ps_bad HBIG.out (HF.out (.inr h2))
                  clear hO
                  go_wp2
                  go_ret2
                  exact ⟨_, by rw [hps]; rfl, fun h => absurd (hps.symm.trans h) (by omega), hE⟩
                · have d3 : decide ((57 : Int) < (c : Int)) = false := decide_eq_false (by omega)
                  have d4 : decide (57 < c) = false := decide_eq_false h2
                  obtain ⟨hcell, hfr⟩ := own_at hO (j := s.size - 1 - j) (by simp; unfold wrt; simp; omega)
                  have HS := Lib.hid (fun (u : Value) => (hO.stored (s.size - 1 - j) u).1)
                  generalize (ds (wrt L s.size j))[s.size - 1 - j]'_ = o at hcell
                  clear hO
                  go_wp2_with fail
                  go_roundw
                  case rel =>
                    refine ⟨j + 1, by omega, rfl, fun t ht htj => ?_, ?_, below_put hE (Nat.le_refl _)⟩
                    · by_cases htj' : t = j
                      · subst htj'
                        have := HC.out
                        omega
                      · exact HD.out t ht (by omega)
                    · rw [HST.out, ← ds_set, show ((c - 48 : Nat) : Int) = (c : Int) - 48 by omega]
                      exact HS.out _
                  case measure => simp [intOf]; omega
            · have hjZ : j = s.size := by omega
              subst hjZ
              have hdec : isDec L = true := isDec_true fun t ht => HD.out t ht (by omega)
              have hps : psE L = 0 := ps_good HBIG.out hdec HRT.out
              have hall := wrt_all (L := L) (by omega : L.length = s.size)
              rw [hall] at hO
              have TR := Lib.hid (trim10_ok (Sl.of_own hO) (fun d hd => by
                obtain ⟨c, hc, rfl⟩ := List.mem_map.1 (List.mem_reverse.1 hd)
                have := isDec_mem hdec c hc
                omega) (by simp; omega))
              have HP := Lib.hid hps
              clear hO HO hdec hps hall
              go_wp2_with fail
              refine TR.out.mono ?_
              rintro e w4 ⟨r4, rfl, x4, h4⟩
              go_wp2
              go_ret2
              exact ⟨_, by rw [HP.out]; rfl, fun _ => by unfold hvd hv; exact x4, ext_trans_le hE h4⟩
      · have d0 : decide ((1 : Int) < (s.size : Int)) = false := decide_eq_false (by omega)
        have HRT := Lib.hid (show L.length ≠ 0 ∧ (L.length = 1 ∨ L[0]?.getD 0 ≠ 48) from ⟨by omega, .inl (by omega)⟩)
        clear hL h0
        go_enter Tryd.func22, Tryd.ntmps22
        go_wp2_with (at_make; refine wpList_make_sl _ rfl _ _ 37 rfl w.heap.size eInt _ 8 elemInt rfl .i64 .i64 _ _ s.size rfl rfl (by omega) (by omega) (by omega) (by unfold maxLen; omega) (by simp) ?_; intro w3 hown hgrow)
        have hB3 := grown_ext hgrow
        clear hgrow
        go_loopw [5] (fun i wr => ∃ j : Nat, j ≤ s.size ∧ i = .int .i64 j ∧ (∀ t (h : t < L.length), t < j → 48 ≤ L[t] ∧ L[t] ≤ 57) ∧
            wr.ownsRow w.heap.size eInt 1 (.slice (some ⟨w.heap.size, 0, none⟩) s.size s.size) s.size (ds (wrt L s.size j)) ∧ Below w.heap.size w wr)
          (fun i _ => s.size - (intOf i).toNat)
        case atStart =>
          refine ⟨0, Nat.zero_le _, rfl, fun _ _ h => by omega, ?_, hB3⟩
          rw [wrt_zero]
          simpa [ds] using hown
        case round =>
          obtain ⟨j, hj, rfl, hd, hO, hE⟩ := hrel
          have HD := Lib.hid hd
          have HO := Lib.hid hO
          clear hd hown hB3
          by_cases hjs : j < s.size
          · have hjL : j < L.length := by omega
            have hjS : j < s.size := by omega
            have hg : (s[j]'hjS).toNat = L[j] := by rw [← bts_get s j hjS]; simp only [HB.out]
            have hclt := HL.out _ (List.getElem_mem hjL)
            have hfal := isDec_false (l := L) (j := j) hjL
            have hstep := wrt_step (L := L) (Z := s.size) (j := j) hjL (by omega)
            generalize hc : L[j] = c at *
            have HF := Lib.hid hfal
            have HC := Lib.hid hc
            have HST := Lib.hid hstep
            clear hfal hc hstep
            by_cases h1 : c < 48
            · have d1 : decide ((c : Int) < 48) = true := decide_eq_true (by omega)
              have d2 : decide (c < 48) = true := decide_eq_true h1
              have hps : psE L = 3 := ps_bad HBIG.out (HF.out (.inl h1))
              clear hO
              go_wp2
              go_ret2
              exact ⟨_, by rw [hps]; rfl, fun h => absurd (hps.symm.trans h) (by omega), hE⟩
            · have d1 : decide ((c : Int) < 48) = false := decide_eq_false (by omega)
              have d2 : decide (c < 48) = false := decide_eq_false h1
              by_cases h2 : 57 < c
              · have d3 : decide ((57 : Int) < (c : Int)) = true := decide_eq_true (by omega)
                have d4 : decide (57 < c) = true := decide_eq_true h2
                have hps : psE L = 3 := ps_bad HBIG.out (HF.out (.inr h2))
                clear hO
                go_wp2
                go_ret2
                exact ⟨_, by rw [hps]; rfl, fun h => absurd (hps.symm.trans h) (by omega), hE⟩
              · have d3 : decide ((57 : Int) < (c : Int)) = false := decide_eq_false (by omega)
                have d4 : decide (57 < c) = false := decide_eq_false h2
                obtain ⟨hcell, hfr⟩ := own_at hO (j := s.size - 1 - j) (by simp; unfold wrt; simp; omega)
                have HS := Lib.hid (fun (u : Value) => (hO.stored (s.size - 1 - j) u).1)
                generalize (ds (wrt L s.size j))[s.size - 1 - j]'_ = o at hcell
                clear hO
                go_wp2_with fail
                go_roundw
                case rel =>
                  refine ⟨j + 1, by omega, rfl, fun t ht htj => ?_, ?_, below_put hE (Nat.le_refl _)⟩
                  · by_cases htj' : t = j
                    · subst htj'
                      have := HC.out
                      omega
                    · exact HD.out t ht (by omega)
                  · rw [HST.out, ← ds_set, show ((c - 48 : Nat) : Int) = (c : Int) - 48 by omega]
                    exact HS.out _
                case measure => simp [intOf]; omega
          · have hjZ : j = s.size := by omega
            subst hjZ
            have hdec : isDec L = true := isDec_true fun t ht => HD.out t ht (by omega)
            have hps : psE L = 0 := ps_good HBIG.out hdec HRT.out
            have hall := wrt_all (L := L) (by omega : L.length = s.size)
            rw [hall] at hO
            have TR := Lib.hid (trim10_ok (Sl.of_own hO) (fun d hd => by
              obtain ⟨c, hc, rfl⟩ := List.mem_map.1 (List.mem_reverse.1 hd)
              have := isDec_mem hdec c hc
              omega) (by simp; omega))
            have HP := Lib.hid hps
            clear hO HO hdec hps hall
            go_wp2_with fail
            refine TR.out.mono ?_
            rintro e w4 ⟨r4, rfl, x4, h4⟩
            go_wp2
            go_ret2
            exact ⟨_, by rw [HP.out]; rfl, fun _ => by unfold hvd hv; exact x4, ext_trans_le hE h4⟩
end Go.Proofs.YtcabmibcgedhhaaDoor

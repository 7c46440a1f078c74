/-
  The walk of digits.right.
-/
import Derived.Test.YtcabmibcgedhhaaDoorDgR
import Derived.Test.YtcabmibcgedhhaaDoorDgO
namespace Go.Proofs.YtcabmibcgedhhaaDoor
open Go.RowKit Go.Cd

/-- Is it a number as it is written? -/
def isDec (l : List Nat) : Bool := l.all fun c => decide (48 ≤ c) && decide (c ≤ 57)
def rightB (l : List Nat) : Bool := isDec l && (decide (l = [48]) || (decide (l ≠ []) && decide (l[0]?.getD 0 ≠ 48)))

theorem isDec_false {l : List Nat} {j : Nat} (h : j < l.length) (hc : l[j] < 48 ∨ 57 < l[j]) : isDec l = false := by
  cases hv : isDec l
  · rfl
  · have := List.all_eq_true.1 hv _ (List.getElem_mem h)
    simp at this
    omega
theorem isDec_true {l : List Nat} (h : ∀ j (hj : j < l.length), 48 ≤ l[j] ∧ l[j] ≤ 57) : isDec l = true := by
  refine List.all_eq_true.2 fun c hc => ?_
  obtain ⟨j, hj, rfl⟩ := List.getElem_of_mem hc
  simpa using h j hj

theorem str_is {s : ByteArray} {l : List Nat} (hl : ∀ d ∈ l, d < 256) : (s.toList == (str l).toList) = decide (bts s = l) := by
  by_cases h : bts s = l
  · rw [decide_eq_true h, ← h, str_bts]; simp
  · rw [decide_eq_false h]
    refine beq_eq_false_iff_ne.2 fun hc => h ?_
    rw [ByteArray.toList_eq, ByteArray.toList_eq] at hc
    have : bts s = bts (str l) := by unfold bts; rw [hc]
    rw [this, bts_str hl]

set_option maxRecDepth 100000 in
set_option maxHeartbeats 1600000 in
theorem digRight_ok {w : World} (s : ByteArray) (hs : s.size < 1000000) :
    Calls Tryd.prog 40 #[.string s] w fun e w' => e = .returned (.bool (rightB (bts s))) ∧ Below w.heap.size w w' := by
  have hlen : (bts s).length = s.size := length_bts s
  have q0 := str_is (s := s) (l := [48]) (by decide)
  have q1 := str_is (s := s) (l := []) (by decide)
  have e0 : (str [48]).toList = [48] := by rw [ByteArray.toList_eq]; rfl
  have e1 : (str []).toList = [] := by rw [ByteArray.toList_eq]; rfl
  rw [e0] at q0
  rw [e1] at q1
  go_enter Tryd.func40, Tryd.ntmps40
  go_wp2_with fail
  go_loopw [6] (fun i wr => ∃ j : Nat, j ≤ s.size ∧ i = .int .i64 j ∧ (∀ t (h : t < (bts s).length), t < j → 48 ≤ (bts s)[t] ∧ (bts s)[t] ≤ 57) ∧ Below w.heap.size w wr)
    (fun i _ => s.size - (intOf i).toNat)
  case atStart => exact ⟨0, Nat.zero_le _, rfl, fun _ _ h => by omega, Below.refl _ _⟩
  case round =>
    obtain ⟨j, hj, rfl, hd, hE⟩ := hrel
    have HD := Lib.hid hd
    by_cases hjs : j < s.size
    · have hg := bts_get s j hjs
      obtain ⟨c, hc⟩ : ∃ c, s[j].toNat = c := ⟨_, rfl⟩
      rw [hc] at hg
      have HG := Lib.hid hg
      have hclt : c < 256 := by rw [← hc]; exact s[j].toNat_lt
      have hfal := isDec_false (l := bts s) (j := j) (by omega)
      rw [hg] at hfal
      have HF := Lib.hid hfal
      clear hd hfal hg q0 q1
      by_cases h1 : c < 48
      · have d1 : decide ((c : Int) < 48) = true := decide_eq_true (by omega)
        have d2 : decide (c < 48) = true := decide_eq_true h1
        go_wp2
        go_ret
        exact ⟨by simp [rightB, HF.out (.inl h1)], hE⟩
      · have d1 : decide ((c : Int) < 48) = false := decide_eq_false (by omega)
        have d2 : decide (c < 48) = false := decide_eq_false h1
        by_cases h2 : 57 < c
        · have d3 : decide ((57 : Int) < (c : Int)) = true := decide_eq_true (by omega)
          have d4 : decide (57 < c) = true := decide_eq_true h2
          go_wp2
          go_ret
          exact ⟨by simp [rightB, HF.out (.inr h2)], hE⟩
        · have d3 : decide ((57 : Int) < (c : Int)) = false := decide_eq_false (by omega)
          have d4 : decide (57 < c) = false := decide_eq_false h2
          go_wp2
          go_roundw
          case rel =>
            refine ⟨j + 1, by omega, rfl, fun t ht htj => ?_, hE⟩
            by_cases htj' : t = j
            · subst htj'
              have := HG.out
              omega
            · exact HD.out t ht (by omega)
          case measure => simp [intOf]; omega
    · obtain rfl : j = s.size := by omega
      have hdec : isDec (bts s) = true := isDec_true fun t ht => HD.out t ht (by omega)
      have HDEC := Lib.hid hdec
      clear hd hdec
      by_cases h0 : bts s = [48]
      · rw [decide_eq_true h0] at q0
        have p0 : s.toList = [48] := beq_iff_eq.1 q0
        clear q0 q1
        go_wp2
        go_ret
        exact ⟨by rw [h0]; rfl, hE⟩
      · rw [decide_eq_false h0] at q0
        have p0 : ¬ s.toList = [48] := beq_eq_false_iff_ne.1 q0
        by_cases h1 : bts s = []
        · rw [decide_eq_true h1] at q1
          have p1 : s.toList = [] := beq_iff_eq.1 q1
          clear q0 q1
          go_wp2
          go_ret
          exact ⟨by simp [rightB, HDEC.out, h1], hE⟩
        · rw [decide_eq_false h1] at q1
          have p1 : ¬ s.toList = [] := beq_eq_false_iff_ne.1 q1
          have p2 : s.toList.isEmpty = false := by cases h : s.toList with | nil => exact absurd h p1 | cons => rfl
          clear q1
          have hpos : 0 < s.size := by rw [← hlen]; exact List.length_pos_iff.2 h1
          have hg := bts_get s 0 hpos
          obtain ⟨c, hc⟩ : ∃ c, (s[0]'hpos).toNat = c := ⟨_, rfl⟩
          rw [hc] at hg
          have hg2 : (bts s)[0]?.getD 0 = c := by rw [List.getElem?_eq_getElem (by omega), Option.getD_some, hg]
          by_cases h2 : c = 48
          · have d1 : ((c : Int) == 48) = true := beq_iff_eq.2 (by omega)
            have d2 : (c == 48) = true := beq_iff_eq.2 h2
            go_wp2
            go_ret
            exact ⟨by simp [rightB, HDEC.out, h0, h1, hg2, h2], hE⟩
          · have d1 : ((c : Int) == 48) = false := beq_eq_false_iff_ne.2 (by omega)
            have d2 : (c == 48) = false := beq_eq_false_iff_ne.2 h2
            go_wp2
            go_ret
            exact ⟨by simp [rightB, HDEC.out, h0, h1, hg2, h2]; omega, hE⟩
end Go.Proofs.YtcabmibcgedhhaaDoor

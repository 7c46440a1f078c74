/-
  The walks of radix.Index, Size and of the document's Index.
-/
import Derived.Test.YtcabmibcgedhhaaRad4
namespace Go.Proofs.Ytcabmibcgedhhaa
open Go.RowKit Go.Cd

/-- These are digits for these bases. -/
def vldI : List Nat → List Int → Bool
  | [], [] => true
  | b :: bs, d :: l => decide (0 ≤ d) && decide (d < (b : Int)) && vldI bs l
  | _, _ => false

theorem vldI_iff : ∀ (bs : List Nat) (l : List Int), vldI bs l = true ↔ l.length = bs.length ∧ ∀ j (h1 : j < l.length) (h2 : j < bs.length), 0 ≤ l[j] ∧ l[j] < (bs[j] : Int)
  | [], [] => by simp [vldI]
  | [], _ :: _ => by simp [vldI]
  | _ :: _, [] => by simp [vldI]
  | b :: bs, d :: l => by
    simp only [vldI, Bool.and_eq_true, decide_eq_true_eq, List.length_cons, Nat.add_right_cancel_iff]
    rw [vldI_iff bs l]
    constructor
    · rintro ⟨⟨h1, h2⟩, h3, h4⟩
      refine ⟨h3, fun j k1 k2 => ?_⟩
      cases j with
      | zero => exact ⟨h1, h2⟩
      | succ j => exact h4 j (by omega) (by omega)
    · rintro ⟨h3, h4⟩
      refine ⟨h4 0 (by omega) (by omega), h3, fun j k1 k2 => h4 (j + 1) (by omega) (by omega)⟩

theorem vldI_false {bs : List Nat} {l : List Int} {j : Nat} (h1 : j < l.length) (h2 : j < bs.length) (h : l[j] < 0 ∨ (bs[j] : Int) ≤ l[j]) : vldI bs l = false := by
  cases hv : vldI bs l
  · rfl
  · have := ((vldI_iff bs l).1 hv).2 j h1 h2
    omega

/-- The number of the digits so far. -/
def horN (bs : List Nat) (l : List Int) : Nat → Nat
  | 0 => 0
  | j + 1 => horN bs l j * bs[j]?.getD 0 + (l[j]?.getD 0).toNat

theorem weights_get : ∀ (bs : List Nat) (j : Nat) (h : j < (weights bs).length), (weights bs)[j] = prodN (bs.drop (j + 1))
  | _ :: bs, 0, _ => by simp [weights]
  | _ :: bs, j + 1, h => by
    have := weights_get bs j (by simpa [weights] using h)
    simpa [weights] using this

theorem prodN_step {bs : List Nat} {j : Nat} (h : j < bs.length) : prodN (bs.drop j) = bs[j] * prodN (bs.drop (j + 1)) := by
  rw [List.drop_eq_getElem_cons h]; rfl

theorem horN_lt {bs : List Nat} {l : List Int} : ∀ j, j ≤ bs.length → j ≤ l.length → (∀ t (h1 : t < l.length) (h2 : t < bs.length), t < j → 0 ≤ l[t] ∧ l[t] < (bs[t] : Int)) → (horN bs l j + 1) * prodN (bs.drop j) ≤ prodN bs
  | 0, _, _, _ => by simp [horN]
  | j + 1, hb, hl, h => by
    have ih := horN_lt j (by omega) (by omega) (fun t h1 h2 ht => h t h1 h2 (by omega))
    have hj := h j (by omega) (by omega) (by omega)
    rw [prodN_step (by omega), ← Nat.mul_assoc] at ih
    simp only [horN, List.getElem?_eq_getElem (show j < bs.length by omega), List.getElem?_eq_getElem (show j < l.length by omega), Option.getD_some]
    refine Nat.le_trans (Nat.mul_le_mul_right _ ?_) ih
    rw [Nat.add_mul, Nat.one_mul]
    omega

theorem wr1 {M : Nat} (h : M < 1073741825) : wrap64 (M : Int) = (M : Int) := by unfold wrap64; omega
theorem wr2 {O M : Nat} (h : O + M < 1073741825) : wrap64 ((O : Int) + (M : Int)) = ((O + M : Nat) : Int) := by unfold wrap64; omega
theorem idx_alg {h b Q n : Nat} : h * (b * Q) + n * Q = (h * b + n) * Q := by rw [Nat.add_mul, Nat.mul_assoc]
theorem idx_bound {h b Q n P : Nat} (h1 : (h + 1) * (b * Q) ≤ P) (hn : n < b) (hP : P ≤ 1073741824) : h * (b * Q) + n * Q < 1073741825 := by
  have h2 : n * Q ≤ b * Q := Nat.mul_le_mul_right Q (by omega)
  rw [Nat.add_mul, Nat.one_mul] at h1
  omega

theorem RadixV.out {w : World} {v : Value} {bs : List Nat} (h : RadixV w v bs) : ∃ a1 c1 a2 c2, v = .agg #[.slice a1 bs.length c1, .slice a2 bs.length c2, .int .i64 (prodN bs : Nat)] ∧
    SlA w (.slice a1 bs.length c1) (ds bs) ∧ bs.length ≤ c1 ∧ bs.length ≤ c2 ∧ (∀ i (hi : i < bs.length), ∃ b off, a1 = some ⟨b, off, none⟩ ∧ b < w.heap.size ∧ w.cell? ⟨b, off + i, none⟩ = some (.int .i64 (bs[i] : Nat))) ∧
    (∀ i (hi : i < bs.length), ∃ b off, a2 = some ⟨b, off, none⟩ ∧ b < w.heap.size ∧ w.cell? ⟨b, off + i, none⟩ = some (.int .i64 (prodN (bs.drop (i + 1)) : Nat))) := by
  obtain ⟨s1, s2, rfl, h1, h2⟩ := h
  have h1' := h1
  obtain ⟨a1, c1, rfl, k1, hy1⟩ := SlA.out h1
  obtain ⟨a2, c2, rfl, k2, hy2⟩ := SlA.out h2
  have el1 : (ds bs).length = bs.length := length_ds _
  have el2 : (ds (weights bs)).length = bs.length := by simp
  refine ⟨a1, c1, a2, c2, by rw [el1, el2], by rw [el1] at h1'; exact h1', by omega, by omega, fun i hi => ?_, fun i hi => ?_⟩
  · obtain ⟨b, off, g1, g2, g3⟩ := hy1 i (by omega)
    exact ⟨b, off, g1, g2, by rw [g3, ds_getElem _ _ hi]⟩
  · obtain ⟨b, off, g1, g2, g3⟩ := hy2 i (by omega)
    exact ⟨b, off, g1, g2, by rw [g3, ds_getElem _ _ (by simpa using hi), weights_get]⟩

set_option maxRecDepth 100000 in
theorem size_ok {w : World} {v : Value} {bs : List Nat} (h : RadixV w v bs) (hpos : ∀ b ∈ bs, 1 ≤ b) (hmax : prodN bs ≤ 1073741824) :
    Calls Try.prog 23 #[v] w fun e w' => e = .returned (.int .i64 (prodN bs : Nat)) ∧ Below w.heap.size w w' := by
  obtain ⟨a1, c1, a2, c2, rfl, _⟩ := h.out
  have hp := prodN_pos hpos
  clear h
  obtain ⟨P, hP⟩ : ∃ P, P = prodN bs := ⟨_, rfl⟩
  rw [← hP] at hp hmax ⊢
  clear hP
  have hm : max (P : Int) 1 = (P : Int) := by omega
  have hlt : ¬ (P : Int) < 1 := by omega
  have hb := below_new (w := w) (.cells #[.slice a1 bs.length c1, .slice a2 bs.length c2, .int .i64 (P : Int)] tRadix)
  go_enter Try.func23, Try.ntmps23
  go_wp2
  go_ret
  exact ⟨rfl, hb⟩

set_option maxRecDepth 100000 in
set_option maxHeartbeats 1600000 in
theorem index_ok {w : World} {v u : Value} {bs : List Nat} {l : List Int} (h : RadixV w v bs) (g : SlA w u (i64s l)) (hmax : prodN bs ≤ 1073741824) (hpos : ∀ b ∈ bs, 1 ≤ b) (hlen : l.length < 1099511627776) (hbl : bs.length < 1099511627776) :
    Calls Try.prog 21 #[v, u] w fun e w' => e = .returned (.tuple #[.int .i64 (if vldI bs l then (horN bs l bs.length : Nat) else (0 : Nat)), .bool (vldI bs l)]) ∧ Below w.heap.size w w' := by
  obtain ⟨x1, cp1, rfl, _, hx1⟩ := SlA.outI g
  obtain ⟨a1, c1, a2, c2, rfl, _, hc1, hc2, hy1, hy2⟩ := h.out
  have HX := Lib.hid hx1
  have HY1 := Lib.hid hy1
  have HY2 := Lib.hid hy2
  have HPOS := Lib.hid hpos
  clear h hx1 hy1 hy2 g hpos
  have hb := below_new (w := w) (.cells #[.slice a1 bs.length c1, .slice a2 bs.length c2, .int .i64 (prodN bs : Nat)] tRadix)
  have IX : Is3 (w.alloc (.cells #[.slice a1 bs.length c1, .slice a2 bs.length c2, .int .i64 (prodN bs : Nat)] tRadix)) w.heap.size (.slice a1 bs.length c1) (.slice a2 bs.length c2) (.int .i64 (prodN bs : Nat)) tRadix := ⟨heap_alloc_new' _ _ _ rfl⟩
  obtain ⟨P, hP⟩ : ∃ P, P = prodN bs := ⟨_, rfl⟩
  rw [← hP] at hmax hb IX ⊢
  have HP := Lib.hid hP
  clear hP
  obtain ⟨e0, e1, e2⟩ := IX.cell
  by_cases hll : l.length = bs.length
  · have hlt := horN_lt (bs := bs) (l := l)
    rw [← HP.out] at hlt
    have HLT := Lib.hid hlt
    have HLL := Lib.hid hll
    rw [hll] at hlen ⊢
    have VI := Lib.hid (vldI_iff bs l)
    have VF := Lib.hid (fun (j : Nat) (h1 : j < l.length) (h2 : j < bs.length) => vldI_false (bs := bs) (l := l) h1 h2)
    clear hll hlt
    go_enter Try.func21, Try.ntmps21
    go_wp2_with fail
    go_loopw [6, 17] (fun o i wr => ∃ j : Nat, j ≤ bs.length ∧ i = .int .i64 j ∧ o = .int .i64 (horN bs l j * prodN (bs.drop j) : Nat) ∧ (∀ t (h1 : t < l.length) (h2 : t < bs.length), t < j → 0 ≤ l[t] ∧ l[t] < (bs[t] : Int)) ∧ Below w.heap.size w wr ∧
        Is3 wr w.heap.size (.slice a1 bs.length c1) (.slice a2 bs.length c2) (.int .i64 (P : Int)) tRadix)
      (fun _ i _ => bs.length - (intOf i).toNat)
    case atStart => exact ⟨0, Nat.zero_le _, rfl, by simp [horN], fun _ _ _ h => by omega, hb, IX⟩
    case round =>
      clear e0 e1 e2 hb IX
      obtain ⟨j, hj, rfl, rfl, hok, hE, JX⟩ := hrel
      have HOK := Lib.hid hok
      have hll := HLL.out
      obtain ⟨e0, e1, e2⟩ := JX.cell
      by_cases hjb : j < bs.length
      · have hjl : j < l.length := by omega
        obtain ⟨b1, o1, rfl, hb1, k1⟩ := HX.out j hjl
        obtain ⟨b2, o2, rfl, hb2, k2⟩ := HY1.out j hjb
        obtain ⟨b3, o3, rfl, hb3, k3⟩ := HY2.out j hjb
        have k1 := (hE.cell (p := ⟨b1, o1 + j, none⟩) hb1).trans k1
        have k2 := (hE.cell (p := ⟨b2, o2 + j, none⟩) hb2).trans k2
        have k3 := (hE.cell (p := ⟨b3, o3 + j, none⟩) hb3).trans k3
        have hlt2 := HLT.out j (by omega) (by omega) hok
        rw [prodN_step hjb] at hlt2
        have hstep := prodN_step hjb
        have hsn : horN bs l (j + 1) = horN bs l j * bs[j] + l[j].toNat := by
          simp only [horN, List.getElem?_eq_getElem hjb, List.getElem?_eq_getElem hjl, Option.getD_some]
        rw [hstep]
        have HSN := Lib.hid hsn
        have VFJ := Lib.hid (VF.out j hjl hjb)
        have HD := Lib.hid (show ∀ t (h1 : t < l.length) (h2 : t < bs.length), t = j → l[t] = l[j]'hjl ∧ bs[t] = bs[j] from fun t h1 h2 e => by subst e; exact ⟨rfl, rfl⟩)
        generalize l[j] = d at *
        generalize bs[j] = b at *
        clear hstep hsn hok
        obtain ⟨Q, hQ⟩ : ∃ Q, Q = prodN (bs.drop (j + 1)) := ⟨_, rfl⟩
        obtain ⟨Hj, hHj⟩ : ∃ Hj, Hj = horN bs l j := ⟨_, rfl⟩
        rw [← hQ] at k3 hlt2 ⊢
        rw [← hHj] at hlt2 HSN ⊢
        have HQ := Lib.hid hQ
        have HH := Lib.hid hHj
        clear hQ hHj
        by_cases hbad : d < 0 ∨ (b : Int) ≤ d
        · have hv := VFJ.out hbad
          by_cases hd0 : d < 0
          · have hdd : decide (d < 0) = true := decide_eq_true hd0
            clear hbad hlt2 HOK
            go_wp2 <;> (go_ret2; exact ⟨rfl, hE⟩)
          · have hdd : decide (d < 0) = false := decide_eq_false hd0
            have hd2 : (b : Int) ≤ d := by omega
            have hdd2 : decide ((b : Int) ≤ d) = true := decide_eq_true hd2
            clear hbad hlt2 HOK
            go_wp2 <;> (go_ret2; exact ⟨rfl, hE⟩)
        · have hd0 : 0 ≤ d := by omega
          obtain ⟨n, rfl⟩ : ∃ n : Nat, d = n := ⟨d.toNat, by omega⟩
          have hnb : n < b := by omega
          have hdd : decide ((n : Int) < 0) = false := decide_eq_false (by omega)
          have hdd2 : decide ((b : Int) ≤ (n : Int)) = false := decide_eq_false (by omega)
          have hbound := idx_bound hlt2 hnb hmax
          have halg := idx_alg (h := Hj) (b := b) (Q := Q) (n := n)
          obtain ⟨M, hM⟩ : ∃ M, M = n * Q := ⟨_, rfl⟩
          obtain ⟨O, hO⟩ : ∃ O, O = Hj * (b * Q) := ⟨_, rfl⟩
          rw [← hM, ← hO] at hbound halg
          have hw1 : wrap64 ((n : Int) * (Q : Int)) = (M : Int) := by rw [← Int.natCast_mul, ← hM]; exact wr1 (Nat.lt_of_le_of_lt (Nat.le_add_left _ _) hbound)
          have hw2 := wr2 hbound
          rw [← hO]
          have HALG := Lib.hid halg
          have HNB := Lib.hid hnb
          clear hM hO hbad hlt2 hd0 hbound halg
          go_wp2
          go_roundw
          case rel =>
            rw [hw2, HALG.out, HQ.out]
            have hsn := HSN.out
            rw [Int.toNat_natCast] at hsn
            refine ⟨j + 1, by omega, rfl, by rw [hsn], fun t h1 h2 ht => ?_, hE, JX⟩
            by_cases e : t = j
            · obtain ⟨g1, g2⟩ := HD.out t h1 h2 e
              rw [g1, g2]
              have := HNB.out
              exact ⟨by omega, by omega⟩
            · exact HOK.out t h1 h2 (by omega)
          case measure => simp [intOf]; omega
      · obtain rfl : j = bs.length := by omega
        have hv : vldI bs l = true := VI.out.2 ⟨hll, fun t h1 h2 => HOK.out t h1 h2 h2⟩
        have hd : prodN (bs.drop bs.length) = 1 := by rw [List.drop_length]; rfl
        rw [hd, Nat.mul_one]
        clear hok
        go_wp2
        go_ret2
        exact ⟨rfl, hE⟩
  · have hln : ((l.length : Int) == (bs.length : Int)) = false := beq_eq_false_iff_ne.2 (by omega)
    have hv : vldI bs l = false := by
      cases hv : vldI bs l
      · rfl
      · exact absurd ((vldI_iff bs l).1 hv).1 hll
    rw [hv]
    go_enter Try.func21, Try.ntmps21
    go_wp2
    go_ret2
    exact ⟨rfl, hb⟩

end Go.Proofs.Ytcabmibcgedhhaa

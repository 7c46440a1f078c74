/-
  The walk of the document's Index.
-/
import Derived.Test.YtcabmibcgedhhaaRad5
namespace Go.Proofs.Ytcabmibcgedhhaa
open Go.RowKit Go.Cd

set_option maxRecDepth 100000 in
set_option maxHeartbeats 1600000 in
theorem refIndex_ok {w : World} {v u : Value} {bs : List Nat} {l : List Int} (h : SlA w v (ds bs)) (g : SlA w u (i64s l)) (hmax : prodN bs ≤ 1073741824) (hpos : ∀ b ∈ bs, 1 ≤ b) (hlen : l.length < 1099511627776) (hbl : bs.length < 1099511627776) :
    Calls Try.prog 22 #[v, u] w fun e w' => e = .returned (.int .i64 (if vldI bs l then ((horN bs l bs.length : Nat) : Int) else -1)) ∧ Below w.heap.size w w' := by
  obtain ⟨x1, cp1, rfl, _, hx1⟩ := SlA.outI g
  obtain ⟨a1, c1, rfl, hc1, hy1⟩ := SlA.out h
  have el1 : (ds bs).length = bs.length := length_ds _
  have HX := Lib.hid hx1
  have HY1 := Lib.hid (fun i (hi : i < bs.length) => hy1 i (by rw [el1]; exact hi))
  rw [el1] at hc1 ⊢
  clear h hx1 g
  by_cases hll : l.length = bs.length
  · have hlt := horN_lt (bs := bs) (l := l)
    have HLT := Lib.hid hlt
    have HLL := Lib.hid hll
    rw [hll] at hlen ⊢
    have VI := Lib.hid (vldI_iff bs l)
    have VF := Lib.hid (fun (j : Nat) (h1 : j < l.length) (h2 : j < bs.length) => vldI_false (bs := bs) (l := l) h1 h2)
    have HPP := Lib.hid (fun j => prodN_pos (bs := bs.drop j) (fun b hb => hpos b (List.mem_of_mem_drop hb)))
    have HMAX := Lib.hid hmax
    clear hll hlt hpos hmax
    go_enter Try.func22, Try.ntmps22
    go_wp2_with fail
    go_loopw [5, 15] (fun o i wr => ∃ j : Nat, j ≤ bs.length ∧ i = .int .i64 j ∧ o = .int .i64 (horN bs l j : Nat) ∧ (∀ t (h1 : t < l.length) (h2 : t < bs.length), t < j → 0 ≤ l[t] ∧ l[t] < (bs[t] : Int)) ∧ Below w.heap.size w wr)
      (fun _ i _ => bs.length - (intOf i).toNat)
    case atStart => exact ⟨0, Nat.zero_le _, rfl, by simp [horN], fun _ _ _ h => by omega, Below.refl _ _⟩
    case round =>
      obtain ⟨j, hj, rfl, rfl, hok, hE⟩ := hrel
      have HOK := Lib.hid hok
      have hll := HLL.out
      by_cases hjb : j < bs.length
      · have hjl : j < l.length := by omega
        obtain ⟨b1, o1, rfl, hb1, k1⟩ := HX.out j hjl
        obtain ⟨b2, o2, rfl, hb2, k2⟩ := HY1.out j hjb
        rw [ds_getElem _ _ hjb] at k2
        have k1 := (hE.cell (p := ⟨b1, o1 + j, none⟩) hb1).trans k1
        have k2 := (hE.cell (p := ⟨b2, o2 + j, none⟩) hb2).trans k2
        have hlt2 := HLT.out j (by omega) (by omega) hok
        rw [prodN_step hjb] at hlt2
        have hsn : horN bs l (j + 1) = horN bs l j * bs[j] + l[j].toNat := by
          simp only [horN, List.getElem?_eq_getElem hjb, List.getElem?_eq_getElem hjl, Option.getD_some]
        have HSN := Lib.hid hsn
        have VFJ := Lib.hid (VF.out j hjl hjb)
        have HD := Lib.hid (show ∀ t (h1 : t < l.length) (h2 : t < bs.length), t = j → l[t] = l[j]'hjl ∧ bs[t] = bs[j] from fun t h1 h2 e => by subst e; exact ⟨rfl, rfl⟩)
        have hQ1 := HPP.out (j + 1)
        generalize l[j] = d at *
        generalize bs[j] = b at *
        generalize prodN (bs.drop (j + 1)) = Q at *
        clear hsn hok
        obtain ⟨Hj, hHj⟩ : ∃ Hj, Hj = horN bs l j := ⟨_, rfl⟩
        rw [← hHj] at hlt2 HSN ⊢
        have HH := Lib.hid hHj
        clear hHj
        by_cases hbad : d < 0 ∨ (b : Int) ≤ d
        · have hv := VFJ.out hbad
          by_cases hd0 : d < 0
          · have hdd : decide (d < 0) = true := decide_eq_true hd0
            clear hbad hlt2 HOK
            go_wp2 <;> (go_ret; exact ⟨rfl, hE⟩)
          · have hdd : decide (d < 0) = false := decide_eq_false hd0
            have hd2 : (b : Int) ≤ d := by omega
            have hdd2 : decide ((b : Int) ≤ d) = true := decide_eq_true hd2
            clear hbad hlt2 HOK
            go_wp2 <;> (go_ret; exact ⟨rfl, hE⟩)
        · have hd0 : 0 ≤ d := by omega
          obtain ⟨n, rfl⟩ : ∃ n : Nat, d = n := ⟨d.toNat, by omega⟩
          have hnb : n < b := by omega
          have hdd : decide ((n : Int) < 0) = false := decide_eq_false (by omega)
          have hdd2 : decide ((b : Int) ≤ (n : Int)) = false := decide_eq_false (by omega)
          have hbound : Hj * b + n < 1073741825 := by
            have h0 := idx_bound hlt2 hnb HMAX.out
            rw [idx_alg] at h0
            have h1 := Nat.le_mul_of_pos_right (Hj * b + n) hQ1
            omega
          obtain ⟨O, hO⟩ : ∃ O, O = Hj * b := ⟨_, rfl⟩
          rw [← hO] at hbound
          have hw1 : wrap64 ((Hj : Int) * (b : Int)) = (O : Int) := by rw [← Int.natCast_mul, ← hO]; exact wr1 (Nat.lt_of_le_of_lt (Nat.le_add_right _ _) hbound)
          have hw2 := wr2 hbound
          have HO := Lib.hid hO
          have HNB := Lib.hid hnb
          have HW2 := Lib.hid hw2
          clear hO hbad hlt2 hd0 hbound hQ1 hw2
          go_wp2
          go_roundw
          case rel =>
            have hsn := HSN.out
            rw [Int.toNat_natCast, ← HO.out] at hsn
            rw [HW2.out]
            refine ⟨j + 1, by omega, rfl, by rw [hsn], fun t h1 h2 ht => ?_, hE⟩
            by_cases e : t = j
            · obtain ⟨g1, g2⟩ := HD.out t h1 h2 e
              rw [g1, g2]
              have := HNB.out
              exact ⟨by omega, by omega⟩
            · exact HOK.out t h1 h2 (by omega)
          case measure => simp [intOf]; omega
      · obtain rfl : j = bs.length := by omega
        have hv : vldI bs l = true := VI.out.2 ⟨hll, fun t h1 h2 => HOK.out t h1 h2 h2⟩
        clear hok
        go_wp2
        go_ret
        exact ⟨rfl, hE⟩
  · have hln : ((bs.length : Int) == (l.length : Int)) = false := beq_eq_false_iff_ne.2 (by omega)
    have hv : vldI bs l = false := by
      cases hv : vldI bs l
      · rfl
      · exact absurd ((vldI_iff bs l).1 hv).1 hll
    rw [hv]
    go_enter Try.func22, Try.ntmps22
    go_wp2
    go_ret
    exact ⟨rfl, Below.refl _ _⟩


end Go.Proofs.Ytcabmibcgedhhaa

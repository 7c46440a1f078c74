/-
  The walks of prod.small, prod.Of.
-/
import Derived.Test.YtcabmibcgedhhaaDoorProd1
import Derived.Laws.BitsAllLaws
namespace Go.Proofs.YtcabmibcgedhhaaDoor
open Go.RowKit Go.Cd

theorem drop_val (b : Nat) (l : List Nat) (k : Nat) (h : k < l.length) : val b (l.drop k) = l[k] + b * val b (l.drop (k + 1)) := by
  rw [List.drop_eq_getElem_cons h, val]

/-- Two words, one behind the other. -/
theorem or_u64 {r x : Nat} (hr : r < B) (hx : x < B) : bits .or .u64 (IntKind.u64.wrap ((r : Int) * 4294967296)) (IntKind.u64.wrap (x : Int)) = ((B * r + x : Nat) : Int) := by
  unfold B at hr hx
  have e1 : IntKind.u64.wrap ((r : Int) * 4294967296) = ((2 ^ 32 * r : Nat) : Int) := by rw [IntKind.wrap_u64]; omega
  have e2 : IntKind.u64.wrap (x : Int) = (x : Int) := by rw [IntKind.wrap_u64]; omega
  rw [e1, e2, u64_or_nat _ _ (by omega) (by omega), ← Nat.two_pow_add_eq_or_of_lt (by omega)]
  rfl

set_option maxRecDepth 100000 in
set_option maxHeartbeats 1600000 in
theorem small_ok {w : World} {v : Value} {l : List Nat} (h : Sl eU32 w v (u32s l)) (hl : ∀ d ∈ l, d < B) (hmax : l.length < 274877906944) (d : Nat) (hd0 : 0 < d) (hd : d < B) :
    Calls Tryd.prog 45 #[v, .int .u32 d] w fun e w' => ∃ (r : Value) (ql : List Nat), e = .returned (.tuple #[r, .int .u32 (val B l % d : Nat)]) ∧ w'.ownsRow w.heap.size eU32 1 r l.length (u32s ql) ∧ (∀ d ∈ ql, d < B) ∧ val B ql = val B l / d ∧ Below w.heap.size w w' := by
  obtain ⟨x1, cp1, rfl, _, hx1⟩ := Sl.outU h
  have HX1 := Lib.hid hx1
  have HL := Lib.hid hl
  have hwd : IntKind.u64.wrap (d : Int) = d := by rw [IntKind.wrap_u64]; unfold B at hd; omega
  clear h hx1 hl
  go_enter Tryd.func45, Tryd.ntmps45
  go_wp2_with (at_make; refine wpList_make_sl _ rfl _ _ 22 rfl w.heap.size eU32 _ 4 elemU32 rfl .i64 .i64 _ _ l.length rfl rfl (by omega) (by omega) (by omega) (by unfold maxLen; omega) (by simp) ?_; intro w3 hown hgrow)
  have hB3 := grown_ext hgrow
  clear hgrow
  go_loopw [7, 8] (fun r i wr => ∃ (k : Nat) (ql : List Nat), k ≤ l.length ∧ i = .int .i64 ((k : Int) - 1) ∧ r = .int .u64 (val B (l.drop k) % d : Nat) ∧ ql.length = l.length ∧ (∀ d ∈ ql, d < B) ∧ (∀ s, s < k → ql[s]?.getD 0 = 0) ∧ val B ql = B ^ k * (val B (l.drop k) / d) ∧
      wr.ownsRow w.heap.size eU32 1 (.slice (some ⟨w.heap.size, 0, none⟩) l.length l.length) l.length (u32s ql) ∧ Below w.heap.size w wr)
    (fun _ i _ => (intOf i + 1).toNat)
  case atStart =>
    refine ⟨l.length, List.replicate l.length 0, Nat.le_refl _, rfl, by simp [val], by simp, ?_, ?_, by simp [val_zeros, val], by simpa [u32s] using hown, hB3⟩
    · intro d hd; rw [(List.mem_replicate.1 hd).2]; decide
    · intro t _
      rw [List.getElem?_replicate]; split <;> rfl
  case round =>
    obtain ⟨k, ql, hk, rfl, rfl, hql, hqlt, hqz, hv, hO, hE⟩ := hrel
    by_cases hk0 : 0 < k
    · obtain ⟨i, rfl⟩ : ∃ i, k = i + 1 := ⟨k - 1, by omega⟩
      obtain ⟨b1, off1, rfl, hb1, hc1⟩ := HX1.out i (by omega)
      have hc1 := (hE.cell (p := ⟨b1, off1 + i, none⟩) hb1).trans hc1
      have hxi : l[i] < B := HL.out _ (List.getElem_mem _)
      obtain ⟨hcell, hfr⟩ := own_at hO (j := i) (by simp; omega)
      have HS := Lib.hid (fun (u : Value) => (hO.stored i u).1)
      have hdv := drop_val B l i (by omega)
      have hsi : ((i + 1 : Nat) : Int) - 1 = i := by omega
      have hr : val B (l.drop (i + 1)) % d < d := Nat.mod_lt _ hd0
      have hV := Nat.div_add_mod (val B (l.drop (i + 1))) d
      rw [hsi]
      generalize val B (l.drop (i + 1)) / d = Q at *
      generalize val B (l.drop (i + 1)) % d = r at *
      generalize val B (l.drop (i + 1)) = V at *
      generalize hXI : l[i] = xi at *
      have HXI := Lib.hid hXI
      have HDV := Lib.hid hdv
      have HV := Lib.hid hV
      have HVV := Lib.hid hv
      have HQZ := Lib.hid hqz
      have HQL := Lib.hid hqlt
      clear hXI hdv hV hv hqz hqlt hO hsi
      obtain ⟨S, hor, hS, hSB⟩ : ∃ S : Nat, bits .or .u64 (IntKind.u64.wrap ((r : Int) * 4294967296)) (IntKind.u64.wrap (xi : Int)) = (S : Int) ∧ S = B * r + xi ∧ S < 18446744073709551616 :=
        ⟨_, or_u64 (by omega) hxi, rfl, by unfold B at hd hxi ⊢; omega⟩
      have HSS := Lib.hid hS
      clear hS
      go_wp2
      go_roundw
      case rel =>
        have e1 : (S : Int) % d = ((S % d : Nat) : Int) := rfl
        have e2 : (S : Int) / d = ((S / d : Nat) : Int) := rfl
        have hSd : S / d < B := Nat.div_lt_of_lt_mul (by rw [HSS.out, Nat.mul_comm d B]; have := Nat.mul_le_mul_left B (show r + 1 ≤ d by omega); rw [Nat.mul_add] at this; omega)
        have hval : val B (l.drop i) = d * (B * Q) + S := by rw [HDV.out, HSS.out, ← HV.out, Nat.mul_add, Nat.mul_left_comm]; omega
        have hmod : val B (l.drop i) % d = S % d := by rw [hval, Nat.mul_add_mod]
        have hdiv : val B (l.drop i) / d = B * Q + S / d := by rw [hval, Nat.mul_add_div hd0]
        rw [e1, e2]
        have e3 : ∀ t : Nat, t < B → IntKind.u64.wrap (t : Int) % 4294967296 = (t : Int) := fun t ht => by rw [IntKind.wrap_u64]; unfold B at ht; omega
        rw [e3 _ hSd]
        have e4 := val_set B ql i (S / d) (by omega)
        rw [HQZ.out i (by omega), Nat.zero_mul, Nat.add_zero, HVV.out] at e4
        refine ⟨i, ql.set i (S / d), by omega, rfl, by rw [hmod], by simp; exact hql, lt_of_mem_set HQL.out hSd, fun s hs => ?_, ?_, ?_, below_put hE (Nat.le_refl _)⟩
        · rw [getD_set_ne (by omega)]; exact HQZ.out s (by omega)
        · rw [e4, hdiv, Nat.pow_succ, Nat.mul_add, Nat.mul_assoc, Nat.mul_comm (S / d)]
        · rw [← u32s_set]; exact HS.out _
      case measure => simp [intOf]
    · obtain rfl : k = 0 := by omega
      rw [List.drop_zero, Nat.pow_zero, Nat.one_mul] at hv
      have hm : val B l % d < d := Nat.mod_lt _ hd0
      rw [List.drop_zero]
      generalize hR : val B l % d = R at *
      have HR := Lib.hid hR
      have HVV := Lib.hid hv
      have HQL := Lib.hid hqlt
      have HO := Lib.hid hO
      have hwr : (R : Int) % 4294967296 = R := by unfold B at hd; omega
      clear hR hv hqlt hqz hO
      go_wp2
      exact bodyPost_ret (v := .tuple #[.slice (some ⟨w.heap.size, 0, none⟩) l.length l.length, .int .u32 R]) (by simp [results, Tryd.results45, go_sem]) rfl ⟨_, ql, by rw [HR.out], HO.out, HQL.out, HVV.out, hE⟩
end Go.Proofs.YtcabmibcgedhhaaDoor

/-
  The walks of the reference's arithmetic on decimal digits: Times, Of, Num.
-/
import Derived.Test.YtcabmibcgedhhaaDoorRef1
import Derived.Test.YtcabmibcgedhhaaDoorDigs2
namespace Go.Proofs.YtcabmibcgedhhaaDoor
open Go.RowKit Go.Cd

set_option maxRecDepth 100000 in
set_option maxHeartbeats 1600000 in
theorem times_ok {w : World} {v : Value} {x : Nat} (h : DecV w v x) (m r : Nat) (hm : m ≤ 4294967296) (hr : r < 4294967296) (hx : (digs 10 x).length < 1073741824) :
    Calls Tryd.prog 36 #[v, .int .u64 m, .int .u64 r] w fun e w' => ∃ u, e = .returned u ∧ DecV w' u (x * m + r) ∧ Below w.heap.size w w' := by
  obtain ⟨a, cap, rfl, hc, _⟩ := Sl.out h
  rw [length_ds] at hc h
  rw [length_ds]
  have hD : (digs 10 (x * m + r)).length ≤ (digs 10 x).length + 21 := by
    rw [len_digs_le (by omega)]
    have h1 := (len_digs_le (b := 10) (by omega)).1 (Nat.le_refl (digs 10 x).length)
    rw [Nat.pow_add]
    have h2 : x * m ≤ x * 4294967296 := Nat.mul_le_mul_left _ hm
    have h3 : (10 : Nat) ^ 21 = 1000000000000000000000 := by decide
    rw [h3]
    omega
  have a1 := fun (W : World) (E : Below w.heap.size w W) (k : Nat) => at_ok (h.mono E) k
  have A1 := Lib.hid a1
  have hend : ∀ k, (digs 10 x).length ≤ k → tcar 10 x m r k = 0 → val 10 (digL 10 (x * m + r) k) = x * m + r := fun k h1 h2 =>
    digL_all (by omega) (by rw [tdiv (by omega), h2, div_zero_of_len (by omega) h1]; omega)
  have hmore : ∀ k, k < (digs 10 x).length ∨ 0 < tcar 10 x m r k → k < (digs 10 x).length + (digs 10 (x * m + r)).length := fun k hk => by
    rcases hk with hk | hk
    · omega
    · have : k < (digs 10 (x * m + r)).length := len_pos_of_div (by omega) (by rw [tdiv (by omega)]; omega)
      omega
  have HEnd := Lib.hid hend
  have HMore := Lib.hid hmore
  generalize (digs 10 x).length = L at *
  generalize (digs 10 (x * m + r)).length = D at *
  clear h a1 hend hmore
  go_enter Tryd.func36, Tryd.ntmps36
  go_wp2_with fail
  go_loopw [7, 8, 9] (fun o c i wr => ∃ k : Nat, k ≤ L + D ∧ i = .int .i64 k ∧ c = .int .u64 (tcar 10 x m r k : Nat) ∧ wr.ownsRow w.heap.size eInt 1 o k (ds (digL 10 (x * m + r) k)) ∧ Below w.heap.size w wr)
    (fun _ _ i _ => L + D - (intOf i).toNat)
  case atStart => exact ⟨0, Nat.zero_le _, rfl, by rw [tcar_zero], own_empty _ _, below_new _⟩
  case round =>
    obtain ⟨k, hk, rfl, rfl, hown, hb⟩ := hrel
    have a2 := fun (W : World) (E : Below w.heap.size w W) => A1.out W E k
    have hcs := tcar_succ (b := 10) (by omega) x m r k
    have hdg := tdig (b := 10) (by omega) x m r k
    have hle := tcar_le (b := 10) (by omega) x m r k
    have hd9 := dig_lt (b := 10) (by omega) x k
    have hmo := HMore.out k
    have hen := HEnd.out k
    have hb9 : dig 10 x k * m ≤ 9 * 4294967296 := Nat.mul_le_mul (by omega) hm
    generalize tcar 10 x m r k = c at *
    generalize dig 10 x k = d at *
    obtain ⟨p, hp⟩ : ∃ p, p = d * m := ⟨_, rfl⟩
    rw [← hp] at hcs hdg hb9
    have HP := Lib.hid hp
    have A2 := Lib.hid a2
    have HCS := Lib.hid hcs
    have HDG := Lib.hid hdg
    have HEn := Lib.hid hen
    clear a2 hcs hdg hp hen
    by_cases hgo : k < L ∨ 0 < c
    · have hkk := hmo hgo
      clear hmo
      have hpi : (d : Int) * (m : Int) = (p : Int) := by rw [HP.out]; simp
      by_cases hkL : k < L
      all_goals
        first | have q1 : decide ((k : Int) < L) = true := decide_eq_true (by omega) | have q1 : decide ((k : Int) < L) = false := decide_eq_false (by omega)
        go_wp2_with fail
        refine (A2.out _ hb).mono ?_
        rintro e w2 ⟨rfl, rfl⟩
        go_wp2_with (at_builtin; refine wpList_push rfl _ _ 37 rfl w.heap.size eInt _ 8 elemInt _ k _ rfl hown _ rfl rfl (by omega) (by unfold maxLen; omega) w hb (Nat.le_refl _) ?_; intro v' w' hown' hb')
        go_roundw
        case rel =>
          have e1 : ((p : Int) + c) / 10 = (tcar 10 x m r (k + 1) : Nat) := by have := HCS.out; omega
          have e2 : ((p : Int) + c) % 10 = (dig 10 (x * m + r) k : Nat) := by have := HDG.out; omega
          rw [e2] at hown'
          rw [e1]
          exact ⟨k + 1, by omega, rfl, rfl, by rw [digL_succ, ds_append]; exact hown', hb'⟩
        case measure => simp [intOf]; omega
    · have hkL : ¬ k < L := by omega
      have hc0 : c = 0 := by omega
      subst hc0
      go_wp2_with fail
      refine (trim10_ok (Sl.of_own hown) (digL_lt (by omega) _ _) (by simp; omega)).mono ?_
      rintro e w2 ⟨u, rfl, hu, hb2⟩
      rw [HEn.out (by omega) (by simp)] at hu
      go_wp2
      go_ret
      exact ⟨_, rfl, hu, ext_trans hb hb2⟩
/-- What the first limbs from the top on write. -/
theorem val_drop_step (l : List Nat) (k : Nat) (h : k < l.length) : val B (l.drop k) = val B (l.drop (k + 1)) * 4294967296 + l[k] := by
  rw [List.drop_eq_getElem_cons h]
  show l[k] + B * _ = _
  unfold B; omega

theorem val_drop_lt {l : List Nat} (hl : ∀ d ∈ l, d < B) (k : Nat) : val B (l.drop k) < B ^ l.length := by
  have h1 := val_lt (l.drop k) (fun d hd => hl d (List.mem_of_mem_drop hd))
  exact Nat.lt_of_lt_of_le h1 (Nat.pow_le_pow_right (by decide) (by simp))

theorem len10_le {x n : Nat} (h : x < B ^ n) : (digs 10 x).length ≤ 10 * n := by
  rw [len_digs_le (by omega), Nat.pow_mul]
  exact Nat.lt_of_lt_of_le h (Nat.pow_le_pow_left (by decide) n)

set_option maxRecDepth 100000 in
set_option maxHeartbeats 1600000 in
theorem refOf_ok {w : World} {v : Value} {l : List Nat} (h : Sl eU32 w v (u32s l)) (hl : ∀ d ∈ l, d < B) (hmax : l.length < 100000000) :
    Calls Tryd.prog 25 #[v] w fun e w' => ∃ u, e = .returned u ∧ DecV w' u (val B l) ∧ Below w.heap.size w w' := by
  obtain ⟨a, cap, rfl, hc, hr⟩ := h.out
  simp only [length_u32s] at *
  have HR := Lib.hid hr
  have t1 := fun (W : World) (E : Below w.heap.size w W) (v : Value) (k : Nat) (hk : k < l.length) (hv : DecV W v (val B (l.drop (k + 1)))) =>
    times_ok hv 4294967296 l[k] (Nat.le_refl _) (by have := hl l[k] (List.getElem_mem hk); unfold B at this; exact this) (by have := len10_le (val_drop_lt hl (k + 1)); omega)
  have T1 := Lib.hid t1
  have HL := Lib.hid hl
  obtain ⟨n, hn⟩ : ∃ n, n = l.length := ⟨_, rfl⟩
  have HN := Lib.hid hn
  rw [← hn] at hmax hc ⊢
  clear h hr t1 hl hn
  go_enter Tryd.func25, Tryd.ntmps25
  go_wp2_with fail
  go_loopw [3, 4] (fun o i wr => ∃ k : Nat, k ≤ n ∧ i = .int .i64 ((k : Int) - 1) ∧ DecV wr o (val B (l.drop k)) ∧ Below w.heap.size w wr)
    (fun _ i _ => (intOf i + 1).toNat)
  case atStart => exact ⟨n, Nat.le_refl _, rfl, by rw [HN.out, List.drop_length]; unfold DecV; rw [show val B [] = 0 from rfl, digs_zero]; exact .nil _ _ _ _ (fun e => by cases e), below_new _⟩
  case round =>
    obtain ⟨k, hk, rfl, ho, hb⟩ := hrel
    by_cases hk0 : 0 < k
    · obtain ⟨j, rfl⟩ : ∃ j, k = j + 1 := ⟨k - 1, by omega⟩
      have e1 : ((j + 1 : Nat) : Int) - 1 = j := by omega
      rw [e1]
      obtain ⟨b, off, rfl, _, hcell⟩ := HR.out j (by have := HN.out; omega)
      rw [u32s_getElem _ _ (by have := HN.out; omega)] at hcell
      have t2 := T1.out wr hb u3 j (by have := HN.out; omega) ho
      have hv := val_drop_step l j (by have := HN.out; omega)
      rw [← hv] at t2
      have hd9 := HL.out _ (List.getElem_mem (l := l) (n := j) (by have := HN.out; omega))
      generalize l[j]'(by have := HN.out; omega) = d at *
      unfold B at hd9
      have hc2 := cellE hb hcell
      have T2 := Lib.hid t2
      clear t2 hv hcell e1 ho
      go_wp2_with fail
      refine T2.out.mono ?_
      rintro e w2 ⟨u, rfl, hu, hb2⟩
      go_wp2_with fail
      go_roundw
      case rel => exact ⟨j, by omega, rfl, hu, ext_trans hb hb2⟩
      case measure => simp [intOf]
    · obtain rfl : k = 0 := by omega
      go_wp2
      go_ret
      exact ⟨_, rfl, ho, hb⟩

end Go.Proofs.YtcabmibcgedhhaaDoor

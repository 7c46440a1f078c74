/-
  The walks of the reference's arithmetic on decimal digits: Trim, at, Times.
-/
import Derived.Test.YtcabmibcgedhhaaDoorNat8
namespace Go.Proofs.YtcabmibcgedhhaaDoor
open Go.RowKit Go.Cd

set_option maxRecDepth 100000 in
set_option maxHeartbeats 800000 in
theorem trim10_block (b off len cap : Nat) (l : List Nat) (w : World) (hlen : l.length = len) (hmax : len < 1099511627776) (hcap : len ≤ cap)
    (hc : ∀ i (hi : i < l.length), w.cell? ⟨b, off + i, none⟩ = some (.int .i64 (l[i] : Nat))) :
    Calls Tryd.prog 43 #[.slice (some ⟨b, off, none⟩) len cap] w fun e w' => ∃ n : Nat, n ≤ len ∧ (∀ j (_ : n ≤ j) (hj : j < l.length), l[j] = 0) ∧ (n = 0 ∨ l[n - 1]? ≠ some 0) ∧
      e = .returned (.slice (some ⟨b, off, none⟩) n cap) ∧ w = w' := by
  have HL := Lib.hid hlen
  clear hlen
  go_enter Tryd.func43, Tryd.ntmps43
  go_wp2
  go_loop [3] (fun n => ∃ k : Nat, k ≤ len ∧ n = .int .i64 k ∧ (∀ j (_ : k ≤ j) (hj : j < l.length), l[j] = 0)) (fun n => (intOf n).toNat)
  case atStart => exact ⟨len, Nat.le_refl _, rfl, fun j h1 h2 => by have := HL.out; omega⟩
  case round =>
    obtain ⟨k, hk, rfl, hz⟩ := hrel
    have HZ := Lib.hid hz
    clear hz
    by_cases hk0 : 0 < k
    · obtain ⟨z, hzv⟩ : ∃ z, l[k - 1]? = some z := ⟨_, List.getElem?_eq_getElem (by have := HL.out; omega)⟩
      have hcell : w.cell? ⟨b, off + (k - 1), none⟩ = some (.int .i64 (z : Nat)) := by
        obtain ⟨h1, h2⟩ := List.getElem?_eq_some_iff.1 hzv
        rw [hc _ h1, h2]
      have HV := Lib.hid hzv
      clear hzv hc
      by_cases h0 : z = 0
      · subst h0
        go_wp2
        go_round
        case rel => exact ⟨k - 1, by omega, by go_num, fun j h1 h2 => by
          by_cases hj : j = k - 1
          · subst hj; have := HV.out; rw [List.getElem?_eq_getElem h2] at this; simpa using this
          · exact HZ.out j (by omega) h2⟩
        case measure => simp [intOf]; omega
      · have hz1 : ((z : Int) == 0) = false := by simpa using h0
        go_wp2
        go_ret
        exact ⟨k, hk, HZ.out, .inr (by rw [HV.out]; simpa using h0), rfl, rfl⟩
    · go_wp2
      go_ret
      exact ⟨k, hk, HZ.out, .inl (by omega), rfl, rfl⟩

set_option maxRecDepth 100000 in
set_option maxHeartbeats 800000 in
theorem trim10_none (a : Option Addr) (cap : Nat) (w : World) :
    Calls Tryd.prog 43 #[.slice a 0 cap] w fun e w' => e = .returned (.slice a 0 cap) ∧ w = w' := by
  go_enter Tryd.func43, Tryd.ntmps43
  go_wp2
  refine wp_loop_rounds 1 ?_
  rw [rounds_succ]
  go_wp2
  go_ret
  exact ⟨rfl, rfl⟩

theorem trim10_ok {w : World} {v : Value} {l : List Nat} (h : Sl eInt w v (ds l)) (hl : ∀ d ∈ l, d < 10) (hmax : l.length < 1099511627776) :
    Calls Tryd.prog 43 #[v] w fun e w' => ∃ r, e = .returned r ∧ DecV w' r (val 10 l) ∧ Below w.heap.size w w' := by
  obtain ⟨a, cap, rfl, hc, hr⟩ := h
  rw [length_ds] at *
  rcases hr with ⟨hr, ha⟩ | ⟨b, off, cs, fr, rfl, hh, hx⟩
  · obtain rfl : l = [] := by simpa [ds] using hr
    refine (trim10_none a cap w).mono ?_
    rintro e w' ⟨rfl, rfl⟩
    exact ⟨_, rfl, by unfold DecV; rw [show val 10 [] = 0 from rfl, digs_zero]; exact .nil _ _ _ _ ha, Below.refl _ _⟩
  · refine (trim10_block b off l.length cap l w rfl hmax hc fun i hi => ?_).mono ?_
    · unfold World.cell?
      rw [hh]
      have := hx i (by simpa using hi)
      rw [ds_getElem _ _ hi] at this
      simpa using this
    · rintro e w' ⟨n, hn, hz, h0, rfl, rfl⟩
      have e1 : digs 10 (val 10 l) = l.take n := digs_val_take (by omega) l n hl (fun d hd => by
        obtain ⟨j, hj, rfl⟩ := List.mem_iff_getElem.1 hd
        rw [List.getElem_drop]
        exact hz _ (by omega) _) hn h0
      refine ⟨_, rfl, ?_, Below.refl _ _⟩
      unfold DecV
      rw [e1]
      have hlen : (ds (l.take n)).length = n := by simp; omega
      refine ⟨_, cap, by rw [hlen], by rw [hlen]; omega, .inr ⟨b, off, cs, fr, rfl, hh, fun i hi => ?_⟩⟩
      rw [hlen] at hi
      rw [hx i (by simp; omega)]
      simp [ds]

set_option maxRecDepth 100000 in
set_option maxHeartbeats 800000 in
theorem at_in (b off len cap : Nat) (i : Nat) (z : Int) (w : World) (hi : i < len) (hc : w.cell? ⟨b, off + i, none⟩ = some (.int .i64 z)) :
    Calls Tryd.prog 51 #[.slice (some ⟨b, off, none⟩) len cap, .int .i64 i] w fun e w' => e = .returned (.int .i64 z) ∧ w = w' := by
  go_enter Tryd.func51, Tryd.ntmps51
  go_wp2
  go_ret
  exact ⟨rfl, rfl⟩

set_option maxRecDepth 100000 in
set_option maxHeartbeats 800000 in
theorem at_out (a : Option Addr) (len cap : Nat) (i : Nat) (w : World) (hi : ¬ i < len) :
    Calls Tryd.prog 51 #[.slice a len cap, .int .i64 i] w fun e w' => e = .returned (.int .i64 0) ∧ w = w' := by
  go_enter Tryd.func51, Tryd.ntmps51
  go_wp2
  go_ret
  exact ⟨rfl, rfl⟩

/-- A digit of a number; 0 beyond the last one. -/
theorem at_ok {w : World} {v : Value} {x : Nat} (h : DecV w v x) (i : Nat) :
    Calls Tryd.prog 51 #[v, .int .i64 i] w fun e w' => e = .returned (.int .i64 (dig 10 x i : Nat)) ∧ w = w' := by
  obtain ⟨a, cap, rfl, hc, hx⟩ := Sl.out h
  rw [length_ds] at *
  by_cases hi : i < (digs 10 x).length
  · obtain ⟨b, off, rfl, hb, hcell⟩ := hx i (by simpa using hi)
    have e : (ds (digs 10 x))[i]'(by simpa using hi) = .int .i64 (dig 10 x i : Nat) := by
      have := dig_eq (b := 10) (by omega) x i
      rw [List.getElem?_eq_getElem hi] at this
      simp only [Option.getD_some] at this
      simp [ds, this]
    rw [e] at hcell
    exact at_in b off _ cap i _ w hi hcell
  · have e : dig 10 x i = 0 := by
      have := dig_eq (b := 10) (by omega) x i
      rw [List.getElem?_eq_none (by omega)] at this
      simpa using this.symm
    rw [e]
    exact at_out a _ cap i w hi

end Go.Proofs.YtcabmibcgedhhaaDoor

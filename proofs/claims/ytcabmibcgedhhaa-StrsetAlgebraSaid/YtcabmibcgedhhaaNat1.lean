/-
  The walks of the layer nat: a limb, the trim.
-/
import Derived.Test.YtcabmibcgedhhaaBase
namespace Go.Proofs.Ytcabmibcgedhhaa
open Go.RowKit Go.Cd

set_option maxHeartbeats 400000 in
theorem limb_in (b off len cap : Nat) (i : Nat) (z : Int) (w : World) (hi : i < len)
    (hb : b < w.heap.size) (hc : w.cell? ⟨b, off + i, none⟩ = some (.int .u32 z)) (hz : 0 ≤ z) (hz2 : z < 4294967296) :
    Calls Try.prog 81 #[.agg #[.slice (some ⟨b, off, none⟩) len cap], .int .i64 i] w fun e w' => e = .returned (.int .u64 z) ∧ Below w.heap.size w w' := by
  go_enter Try.func81, Try.ntmps81
  go_wp2
  go_ret
  exact ⟨rfl, (Below.refl _ _).alloc (Nat.le_refl _) _⟩

set_option maxHeartbeats 400000 in
theorem limb_out (a : Option Addr) (len cap : Nat) (i : Nat) (w : World) (hi : ¬ i < len) :
    Calls Try.prog 81 #[.agg #[.slice a len cap], .int .i64 i] w fun e w' => e = .returned (.int .u64 0) ∧ Below w.heap.size w w' := by
  go_enter Try.func81, Try.ntmps81
  go_wp2
  go_ret
  exact ⟨rfl, (Below.refl _ _).alloc (Nat.le_refl _) _⟩

/-- A digit of a number; 0 beyond the last one. -/
theorem limb_ok {w : World} {v : Value} {x : Nat} (h : NatV w v x) (i : Nat) :
    Calls Try.prog 81 #[v, .int .i64 i] w fun e w' => e = .returned (.int .u64 (dig B x i : Nat)) ∧ Below w.heap.size w w' := by
  obtain ⟨s, rfl, hs⟩ := h
  obtain ⟨a, cap, rfl, hc, hx⟩ := hs.out
  rw [length_u32s] at *
  by_cases hi : i < (digs B x).length
  · obtain ⟨b, off, rfl, hb, hcell⟩ := hx i (by simpa using hi)
    have e : (u32s (digs B x))[i]'(by simpa using hi) = .int .u32 (dig B x i : Nat) := by
      have := dig_eq two_le_B x i
      rw [List.getElem?_eq_getElem hi] at this
      simp only [Option.getD_some] at this
      simp [u32s, this]
    rw [e] at hcell
    exact limb_in b off _ cap i _ w hi hb hcell (by omega) (by have := dig_lt two_le_B x i; unfold B at this ⊢; omega)
  · have e : dig B x i = 0 := by
      have := dig_eq two_le_B x i
      rw [List.getElem?_eq_none (by omega)] at this
      simpa using this.symm
    rw [e]
    exact limb_out a _ cap i w hi

set_option maxHeartbeats 400000 in
theorem trim_block (b off len cap : Nat) (l : List Nat) (w : World) (hlen : l.length = len) (hmax : len < 1099511627776) (hb : b < w.heap.size) (hcap : len ≤ cap)
    (hc : ∀ i (hi : i < l.length), w.cell? ⟨b, off + i, none⟩ = some (.int .u32 (l[i] : Nat))) :
    Calls Try.prog 79 #[.slice (some ⟨b, off, none⟩) len cap] w fun e w' => ∃ n : Nat, n ≤ len ∧ (∀ j (_ : n ≤ j) (hj : j < l.length), l[j] = 0) ∧ (n = 0 ∨ l[n - 1]? ≠ some 0) ∧
      e = .returned (.agg #[.slice (some ⟨b, off, none⟩) n n]) ∧ Below w.heap.size w w' := by
  have HL := Lib.hid hlen
  clear hlen
  go_enter Try.func79, Try.ntmps79
  go_wp2
  go_loop [3] (fun n => ∃ k : Nat, k ≤ len ∧ n = .int .i64 k ∧ (∀ j (_ : k ≤ j) (hj : j < l.length), l[j] = 0)) (fun n => (intOf n).toNat)
  case atStart => exact ⟨len, Nat.le_refl _, rfl, fun j h1 h2 => by have := HL.out; omega⟩
  case round =>
    obtain ⟨k, hk, rfl, hz⟩ := hrel
    have HZ := Lib.hid hz
    clear hz
    by_cases hk0 : 0 < k
    · obtain ⟨z, hzv⟩ : ∃ z, l[k - 1]? = some z := ⟨_, List.getElem?_eq_getElem (by have := HL.out; omega)⟩
      have hcell : w.cell? ⟨b, off + (k - 1), none⟩ = some (.int .u32 (z : Nat)) := by
        obtain ⟨h1, h2⟩ := List.getElem?_eq_some_iff.1 hzv
        rw [hc _ h1, h2]
      have HV := Lib.hid hzv
      clear hzv hc
      by_cases h0 : z = 0
      · subst h0
        go_wp2
        go_round
        case rel => exact ⟨k - 1, by omega, by go_num, fun j h1 h2 => by
          by_cases hj : j = k - 1
          · subst hj; have := HV.out; rw [List.getElem?_eq_getElem h2] at this; simpa using this
          · exact HZ.out j (by omega) h2⟩
        case measure => simp [intOf]; omega
      · have hz1 : ((z : Int) == 0) = false := by simpa using h0
        go_wp2
        exact bodyPost_ret (v := .agg #[.slice (some ⟨b, off, none⟩) k k]) (by simp [results, Try.results79, go_sem]) rfl ⟨k, hk, HZ.out, .inr (by rw [HV.out]; simpa using h0), rfl, below_new _⟩
    · go_wp2
      exact bodyPost_ret (v := .agg #[.slice (some ⟨b, off, none⟩) k k]) (by simp [results, Try.results79, go_sem]) rfl ⟨k, hk, HZ.out, .inl (by omega), rfl, below_new _⟩

set_option maxHeartbeats 400000 in
theorem trim_none (a : Option Addr) (cap : Nat) (w : World) :
    Calls Try.prog 79 #[.slice a 0 cap] w fun e w' => e = .returned (.agg #[.slice a 0 0]) ∧ Below w.heap.size w w' := by
  go_enter Try.func79, Try.ntmps79
  go_wp2
  refine wp_loop_rounds 1 ?_
  rw [rounds_succ]
  go_wp2
  exact bodyPost_ret (v := .agg #[.slice a 0 0]) (by simp [results, Try.results79, go_sem]) rfl ⟨rfl, below_new _⟩

theorem u32s_getElem (l : List Nat) (i : Nat) (h : i < l.length) : (u32s l)[i]'(by simpa using h) = .int .u32 (l[i] : Nat) := by simp [u32s]

/-- The number that digits write. -/
theorem trim_ok {w : World} {v : Value} {l : List Nat} (h : Sl eU32 w v (u32s l)) (hl : ∀ d ∈ l, d < B) (hmax : l.length < 1099511627776) :
    Calls Try.prog 79 #[v] w fun e w' => ∃ r, e = .returned r ∧ NatV w' r (val B l) ∧ Below w.heap.size w w' := by
  obtain ⟨a, cap, rfl, hc, hr⟩ := h
  rw [length_u32s] at *
  rcases hr with ⟨hr, ha⟩ | ⟨b, off, cs, fr, rfl, hh, hx⟩
  · obtain rfl : l = [] := by simpa [u32s] using hr
    refine (trim_none a cap w).mono ?_
    rintro e w' ⟨rfl, hb⟩
    exact ⟨_, rfl, ⟨_, rfl, by rw [show val B [] = 0 from rfl, digs_zero]; exact .nil _ _ _ _ (fun _ => rfl)⟩, hb⟩
  · refine (trim_block b off l.length cap l w rfl hmax (block_lt hh) hc fun i hi => ?_).mono ?_
    · unfold World.cell?
      rw [hh]
      have := hx i (by simpa using hi)
      rw [u32s_getElem _ _ hi] at this
      simpa using this
    · rintro e w' ⟨n, hn, hz, h0, rfl, hb⟩
      have e1 : digs B (val B l) = l.take n := digs_val_take two_le_B l n hl (fun d hd => by
        obtain ⟨j, hj, rfl⟩ := List.mem_iff_getElem.1 hd
        rw [List.getElem_drop]
        exact hz _ (by omega) _) hn h0
      refine ⟨_, rfl, ⟨_, rfl, ?_⟩, hb⟩
      rw [e1]
      have hlen : (u32s (l.take n)).length = n := by simp; omega
      refine ⟨_, n, by rw [hlen], by rw [hlen]; exact Nat.le_refl _, .inr ⟨b, off, cs, fr, rfl, by rw [hb.block b (block_lt hh)]; exact hh, fun i hi => ?_⟩⟩
      rw [hlen] at hi
      rw [hx i (by simp; omega)]
      simp [u32s]

end Go.Proofs.Ytcabmibcgedhhaa

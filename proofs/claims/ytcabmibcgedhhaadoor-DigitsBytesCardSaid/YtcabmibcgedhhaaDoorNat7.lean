/-
  The walks of the layer nat: Bits, Uint64.
-/
import Derived.Test.YtcabmibcgedhhaaDoorNat6
namespace Go.Proofs.YtcabmibcgedhhaaDoor
open Go.RowKit Go.Cd

theorem bitLen_aux : ∀ (f x : Nat), x < 2 ^ f → Lib.bitLenAux f x = (digs 2 x).length
  | 0, x, h => by
    have : x = 0 := by simpa using h
    subst this; simp [Lib.bitLenAux, digs_zero]
  | f + 1, x, h => by
    unfold Lib.bitLenAux
    by_cases h0 : x = 0
    · subst h0; simp [digs_zero]
    · rw [if_neg h0, bitLen_aux f (x / 2) (by rw [Nat.pow_succ] at h; omega), digs_pos (by omega) h0]
      simp; omega

theorem bitLen_eq {x : Nat} (h : x < 18446744073709551616) : Lib.bitLen x = (digs 2 x).length := bitLen_aux 64 x h

theorem bits_top {x n : Nat} (h : n + 1 = (digs B x).length) : (digs 2 x).length = 32 * n + (digs 2 (dig B x n)).length := by
  have h1 : B ^ n ≤ x := le_of_len two_le_B (by omega)
  have h2 : x < B ^ (n + 1) := (len_digs_le two_le_B).1 (by omega)
  have e : B ^ n = 2 ^ (32 * n) := by rw [Nat.pow_mul]; rfl
  have e2 : dig B x n = x / B ^ n := by
    unfold dig
    apply Nat.mod_eq_of_lt
    apply Nat.div_lt_of_lt_mul
    rw [← Nat.pow_succ]; exact h2
  rw [e2, e, len_digs_div (by omega) (32 * n) x (by rw [← e]; exact h1)]

set_option maxRecDepth 100000 in
set_option maxHeartbeats 800000 in
theorem bits_ok {w : World} {v : Value} {x : Nat} (h : NatV w v x) (hx : (digs B x).length < 1099511627776) :
    Calls Tryd.prog 23 #[v] w fun e w' => e = .returned (.int .i64 ((digs 2 x).length : Nat)) ∧ Below w.heap.size w w' := by
  obtain ⟨a, n, cap, rfl, h⟩ := h.out
  have hn := h.len
  rw [← hn] at hx
  by_cases h0 : n = 0
  · subst h0
    have hx0 : x = 0 := (digs_eq_nil two_le_B).1 (List.eq_nil_of_length_eq_zero hn.symm)
    have HX := Lib.hid hx0
    clear h hn hx0
    go_enter Tryd.func23, Tryd.ntmps23
    go_wp2
    go_ret
    exact ⟨ret_int (by rw [HX.out, digs_zero]; rfl), below_new _⟩
  · obtain ⟨m, rfl⟩ : ∃ m, n = m + 1 := ⟨n - 1, by omega⟩
    have hb := bits_top hn
    obtain ⟨a', cap', hv, hc, hr⟩ := (NatV.sl h).out
    obtain ⟨b, off, ha, hbl, hcell⟩ := hr m (by simp; omega)
    simp only [length_u32s, Value.slice.injEq] at hv
    obtain ⟨rfl, hq, rfl⟩ := hv
    clear hq
    subst ha
    have e : (u32s (digs B x))[m]'(by simp; omega) = .int .u32 (dig B x m : Nat) := by
      have := dig_eq two_le_B x m
      rw [List.getElem?_eq_getElem (by omega)] at this
      simp only [Option.getD_some] at this
      simp [u32s, this]
    rw [e] at hcell
    have hd := dig_lt two_le_B x m
    generalize dig B x m = d at hcell hd hb
    have hbl2 := bitLen_eq (x := d) (by unfold B at hd; omega)
    have hle : (digs 2 d).length ≤ 32 := (len_digs_le (by omega)).2 (by unfold B at hd; exact hd)
    unfold B at hd
    have l1 := fun W => Tryd.bits_Len32 (d : Int) W (by omega) (by omega)
    rw [show ((d : Int).toNat) = d from by omega, hbl2] at l1
    generalize (digs 2 d).length = k at l1 hb hle
    have L1 := Lib.hid l1
    have HB := Lib.hid hb
    clear l1 hb h hn hr e hc h0 hbl2
    go_enter Tryd.func23, Tryd.ntmps23
    go_wp2_with fail
    refine (L1.out _).mono ?_
    rintro e w1 ⟨rfl, rfl⟩
    go_wp2
    go_ret
    exact ⟨ret_int (by rw [HB.out]; omega), below_new _⟩

theorem or_shift (a b : Nat) (ha : a < 4294967296) (hb : b < 4294967296) : bits .or .u64 ((a : Int) * 4294967296) b = (a : Int) * 4294967296 + b := by
  have e : (a : Int) * 4294967296 = ((a * 4294967296 : Nat) : Int) := by omega
  rw [e, u64_or_nat _ _ (by omega) (by omega)]
  have : a * 4294967296 ||| b = a * 4294967296 + b := by
    have := Nat.shiftLeft_add_eq_or_of_lt (i := 32) (a := a) (b := b) (by omega)
    rw [Nat.shiftLeft_eq] at this
    exact this.symm
  rw [this]; omega

theorem ret_u64 {a b : Int} {t : Bool} (h : a = b) : Ending.returned (.tuple #[.int .u64 a, .bool t]) = .returned (.tuple #[.int .u64 b, .bool t]) := by rw [h]

set_option maxRecDepth 100000 in
set_option maxHeartbeats 800000 in
theorem uint64_big {w : World} {v : Value} {x : Nat} (h : NatV w v x) (hx : (digs B x).length < 1099511627776) (hbig : 18446744073709551616 ≤ x) :
    Calls Tryd.prog 30 #[v] w fun e w' => e = .returned (.tuple #[.int .u64 0, .bool false]) ∧ Below w.heap.size w w' := by
  obtain ⟨a, n, cap, rfl, h⟩ := h.out
  have hn := h.len
  have h2 : 2 < n := by
    rcases Nat.lt_or_ge 2 n with h1 | h1
    · exact h1
    · have := (len_digs_le two_le_B).1 (show (digs B x).length ≤ 2 by omega)
      unfold B at this; omega
  rw [← hn] at hx
  clear h hn hbig
  go_enter Tryd.func30, Tryd.ntmps30
  go_wp2
  go_ret2
  exact ⟨rfl, below_new _⟩

set_option maxRecDepth 100000 in
set_option maxHeartbeats 800000 in
theorem uint64_ok {w : World} {v : Value} {x : Nat} (h : NatV w v x) (hs : x < 18446744073709551616) :
    Calls Tryd.prog 30 #[v] w fun e w' => e = .returned (.tuple #[.int .u64 x, .bool true]) ∧ Below w.heap.size w w' := by
  obtain ⟨a, n, cap, rfl, h⟩ := h.out
  have hn := h.len
  have h2 : n ≤ 2 := by
    rw [hn]; exact (len_digs_le two_le_B).2 (by unfold B; omega)
  have l1 := fun (W : World) (E : Below w.heap.size w W) => limb_ok (h.mono E) 1
  have l0 := fun (W : World) (E : Below w.heap.size w W) => limb_ok (h.mono E) 0
  have e1 : dig B x 1 * B + dig B x 0 = x := by unfold dig B; omega
  have b1 := dig_lt two_le_B x 1
  have b0 := dig_lt two_le_B x 0
  generalize dig B x 1 = d1 at l1 e1 b1
  generalize dig B x 0 = d0 at l0 e1 b0
  unfold B at e1 b1 b0
  have E1 := Lib.hid e1
  have L1 := Lib.hid l1
  have L0 := Lib.hid l0
  clear h hn hs e1 l1 l0
  go_enter Tryd.func30, Tryd.ntmps30
  go_wp2_with fail
  have hc0 : (w.alloc (.cells #[.slice a n cap] 25)).cell? ⟨w.heap.size, 0, none⟩ = some (.slice a n cap) := by go_simp
  refine wp_region_E (Array.replicate 8 true) 8 0 mixed (by rfl) ?_
  have hg := Gr.cell (ext_drew (w.alloc (.cells #[.slice a n cap] 25))) hc0
  refine wpE_seg' [0, 3] 6 rfl (by kernel_rfl) ?_
  repeat (refine seg_cons rfl ?_; go_big_quiet_step (rfl))
  refine seg_nil ?_
  refine wpE_one 1 (by kernel_rfl) rfl ?_
  go_wp2_with fail
  refine (L1.out _ (ext_trans (below_new _) (ext_drew _))).mono ?_
  rintro e w2 ⟨rfl, hb2⟩
  go_wp2_with fail
  refine QE_intro hb2 ?_
  refine wpE_seg' [2] 4 rfl (by kernel_rfl) ?_
  repeat (refine seg_cons rfl ?_; go_big_quiet_step (rfl))
  refine seg_nil ?_
  refine wpE_one 4 (by kernel_rfl) rfl ?_
  go_wp2_with fail
  refine (L0.out _ (ext_trans (ext_trans (below_new _) (ext_drew _)) hb2)).mono ?_
  rintro e w3 ⟨rfl, hb3⟩
  go_wp2_with fail
  refine QE_intro hb3 ?_
  refine wpE_seg' [5, 6, 7] 0 rfl (by kernel_rfl) ?_
  repeat (refine seg_cons rfl ?_; go_big_quiet_step (rfl))
  refine seg_nil ?_
  refine wpE_tail [] (by kernel_rfl) ?_
  refine tail_nil ?_
  go_wp2
  go_ret2
  have e1 : bits BinOp.or IntKind.u64 ((d1 : Int) * 4294967296) d0 = x := by rw [or_shift d1 d0 b1 b0]; have := E1.out; omega
  exact ⟨ret_u64 e1, ext_trans (below_new _) (ext_trans (ext_drew _) (ext_trans hb2 hb3))⟩

end Go.Proofs.YtcabmibcgedhhaaDoor

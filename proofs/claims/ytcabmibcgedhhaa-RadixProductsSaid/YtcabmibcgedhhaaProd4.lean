/-
  The walk of prod.Pow.
-/
import Derived.Test.YtcabmibcgedhhaaProd3
namespace Go.Proofs.Ytcabmibcgedhhaa
open Go.RowKit Go.Cd

set_option maxRecDepth 100000 in
set_option maxHeartbeats 1600000 in
theorem pow_neg {w : World} {v : Value} {x : Nat} (h : NatV w v x) {q : Int} (hq : q < 0) :
    Calls Try.prog 51 #[v, .int .i64 q] w fun e w' => ∃ r, e = .returned (.tuple #[r, .int .i64 1]) ∧ NatV w' r 0 ∧ Below w.heap.size w w' := by
  obtain ⟨a, n, cap, rfl, h⟩ := h.out
  have hb := (below_new (w := w) (.cells #[.slice a n cap] 42)).alloc (by simp) (.cells #[.slice none 0 0] 42)
  have q1 : ((w.alloc (.cells #[.slice a n cap] 42)).alloc (.cells #[.slice none 0 0] 42)).cell? ⟨w.heap.size + 1, 0, none⟩ = some (.slice none 0 0) := by go_simp
  go_enter Try.func51, Try.ntmps51
  go_wp2
  exact bodyPost_ret (v := .tuple #[.agg #[.slice none 0 0], .int .i64 1]) (by simp [results, Try.results51, go_sem, q1]) rfl ⟨_, rfl, ⟨_, rfl, by rw [digs_zero]; exact .nil _ _ _ _ (fun _ => rfl)⟩, hb⟩

set_option maxRecDepth 100000 in
set_option maxHeartbeats 1600000 in
theorem pow_big {w : World} {v : Value} {x m : Nat} (h : NatV w v x) (hx : (digs B x).length < 1099511627776) (h0 : 0 < (digs 2 x).length) (hm : 131072 / (digs 2 x).length < m) :
    Calls Try.prog 51 #[v, .int .i64 m] w fun e w' => ∃ r, e = .returned (.tuple #[r, .int .i64 4]) ∧ NatV w' r 0 ∧ Below w.heap.size w w' := by
  obtain ⟨a, n, cap, rfl, h⟩ := h.out
  have hb := (below_new (w := w) (.cells #[.slice a n cap] 42)).alloc (by simp) (.cells #[.slice none 0 0] 42)
  have N1 := h.mono hb
  have z : ((w.alloc (.cells #[.slice a n cap] 42)).alloc (.cells #[.slice none 0 0] 42)).heap[w.heap.size + 1]? = some (.cells #[.slice none 0 0] 42) := heap_alloc_new' _ _ _ (by simp)
  have c1 : ((w.alloc (.cells #[.slice a n cap] 42)).alloc (.cells #[.slice none 0 0] 42)).cell? ⟨w.heap.size, 0, none⟩ = some (.slice a n cap) := by go_simp
  have B1 := Lib.hid (fun (W : World) (E : Below _ _ W) => bits_ok (N1.mono E) hx)
  have T0 := ext_refl ((w.alloc (.cells #[.slice a n cap] 42)).alloc (.cells #[.slice none 0 0] 42))
  generalize (digs 2 x).length = D at *
  have hD : (131072 : Int) / D < m := by have := Int.ofNat_lt.2 hm; rw [Int.natCast_ediv] at this; exact this
  go_enter Try.func51, Try.ntmps51
  go_wp2_with fail
  refine (B1.out _ T0).mono ?_
  rintro e w1 ⟨rfl, b1⟩
  have c1 := cellE b1 c1
  go_wp2_with fail
  refine (B1.out _ b1).mono ?_
  rintro e w2 ⟨rfl, b2⟩
  have b12 := ext_trans b1 b2
  have z := (b12.block _ (by simp)).trans z
  have hcell : w2.cell? ⟨w.heap.size + 1, 0, none⟩ = some (.slice none 0 0) := by unfold World.cell?; rw [z]; rfl
  have hfr : w2.frozen? ⟨w.heap.size + 1, 0, none⟩ = false := by unfold World.frozen?; rw [z]; rfl
  have q1 := cell_put (o := 0) (u := .slice none 0 0) z (by simp)
  have hBf := below_put (off := 0) (u := .slice none 0 0) (b := w.heap.size + 1) (hb.trans (b12.mono hb.size)) (by omega)
  clear z b1 b2 b12
  go_wp2
  exact bodyPost_ret (v := .tuple #[.agg #[.slice none 0 0], .int .i64 4]) (by simp [results, Try.results51, go_sem, q1]) rfl ⟨_, rfl, ⟨_, rfl, by rw [digs_zero]; exact .nil _ _ _ _ (fun _ => rfl)⟩, hBf⟩

theorem i64_and1 (n : Int) : bits .and .i64 n 1 = n % 2 := by
  have h1 : (BitVec.ofInt 64 1).toNat = 2 ^ 1 - 1 := by decide
  have key : (BitVec.ofInt 64 n &&& BitVec.ofInt 64 1).toNat = (n % ((2 ^ 64 : Nat) : Int)).toNat % 2 ^ 1 := by
    rw [BitVec.toNat_and, BitVec.toNat_ofInt, h1, Nat.and_two_pow_sub_one_eq_mod]
  show IntKind.i64.wrap ((BitVec.ofInt 64 n &&& BitVec.ofInt 64 1).toNat : Nat) = n % 2
  rw [key, IntKind.wrap_i64]
  omega

theorem len_pow_le {x D : Nat} (h : x < 2 ^ D) : ∀ j : Nat, (digs B (x ^ j)).length ≤ D * j + 1 := fun j => by
  rw [len_digs_le two_le_B]
  have h1 : x ^ j ≤ (2 ^ D) ^ j := Nat.pow_le_pow_left (Nat.le_of_lt h) j
  rw [← Nat.pow_mul] at h1
  have h2 : 2 ^ (D * j) < 2 ^ (D * j + 1) := Nat.pow_lt_pow_right (by omega) (by omega)
  have h3 : 2 ^ (D * j + 1) ≤ B ^ (D * j + 1) := Nat.pow_le_pow_left two_le_B _
  omega

set_option maxRecDepth 100000 in
set_option maxHeartbeats 1600000 in
theorem pow_ok {w : World} {v : Value} {x m : Nat} (h : NatV w v x) (hm63 : m < 9223372036854775808) (hx : (digs B x).length < 268435456) (hm : (digs 2 x).length = 0 ∨ m ≤ 131072 / (digs 2 x).length) :
    Calls Try.prog 51 #[v, .int .i64 m] w fun e w' => ∃ r, e = .returned (.tuple #[r, .int .i64 0]) ∧ NatV w' r (x ^ m) ∧ Below w.heap.size w w' := by
  obtain ⟨a, n, cap, rfl, h⟩ := h.out
  have hb := (below_new (w := w) (.cells #[.slice a n cap] 42)).alloc (by simp) (.cells #[.slice none 0 0] 42)
  have N1 := h.mono hb
  have z : ((w.alloc (.cells #[.slice a n cap] 42)).alloc (.cells #[.slice none 0 0] 42)).heap[w.heap.size + 1]? = some (.cells #[.slice none 0 0] 42) := heap_alloc_new' _ _ _ (by simp)
  have c1 : ((w.alloc (.cells #[.slice a n cap] 42)).alloc (.cells #[.slice none 0 0] 42)).cell? ⟨w.heap.size, 0, none⟩ = some (.slice a n cap) := by go_simp
  have B1 := Lib.hid (fun (W : World) (E : Below _ _ W) => bits_ok (N1.mono E) (by omega))
  have NX := Lib.hid (fun (W : World) (E : Below _ _ W) => N1.mono E)
  have T0 := ext_refl ((w.alloc (.cells #[.slice a n cap] 42)).alloc (.cells #[.slice none 0 0] 42))
  have hlen : ∀ j, j ≤ m → (digs B (x ^ j)).length < 268435456 := fun j hj => by
    rcases hm with h0 | h0
    · have hx0 : x = 0 := (digs_eq_nil (by omega)).1 (List.length_eq_zero_iff.1 h0)
      have := len_pow_le (x := x) (D := 0) (by rw [hx0]; decide) j
      omega
    · have hxD := (len_digs_le (b := 2) (by omega) (x := x)).1 (Nat.le_refl _)
      have h1 := len_pow_le hxD j
      have h2 : (digs 2 x).length * j ≤ (digs 2 x).length * (131072 / (digs 2 x).length) := Nat.mul_le_mul_left _ (Nat.le_trans hj h0)
      have h3 := Nat.mul_div_le 131072 (digs 2 x).length
      omega
  have HLEN := Lib.hid hlen
  have hbl : Lib.bitLen m = (digs 2 m).length := bitLen_eq (by omega)
  have hw : IntKind.u64.wrap (m : Int) = m := by rw [IntKind.wrap_u64]; omega
  have ln := fun W => Try.bits_Len (m : Int) W (by omega) (by omega)
  simp only [Int.toNat_natCast, hbl] at ln
  have hL : (digs 2 m).length ≤ 63 := (len_digs_le (by omega)).2 (by omega)
  have hmL := (len_digs_le (b := 2) (by omega) (x := m)).1 (Nat.le_refl _)
  generalize (digs 2 m).length = L at *
  have HML := Lib.hid hmL
  have LN := Lib.hid ln
  clear hlen hmL hbl ln
  generalize (digs 2 x).length = D at *
  have hDD : ((D : Int) = 0 ∧ 0 = D) ∨ (0 < (D : Int) ∧ 0 < D ∧ ¬ (131072 : Int) / D < m ∧ decide ((131072 : Int) / D < m) = false) := by
    rcases Nat.eq_zero_or_pos D with h0 | h0
    · exact .inl ⟨by omega, by omega⟩
    · rcases hm with hm | hm
      · omega
      · have h1 : ¬ (131072 : Int) / D < m := by
          have := Int.ofNat_le.2 hm; rw [Int.natCast_ediv] at this; exact Int.not_lt.2 this
        exact .inr ⟨by omega, h0, h1, decide_eq_false h1⟩
  clear h N1 hm
  go_enter Try.func51, Try.ntmps51
  go_wp2_with fail
  refine (B1.out _ T0).mono ?_
  rintro e w1 ⟨rfl, b1⟩
  have d1 := cellE b1 c1
  rcases hDD with ⟨h0, rfl⟩ | ⟨h0, hD0, h2, h3⟩
  · go_wp2_with fail
    have EW := b1
    refine (of_ok 1 (by omega) _).mono ?_
    rintro e w3 ⟨r3, rfl, n3, b3⟩
    obtain ⟨a3, m3, cap3, rfl, n3⟩ := n3.out
    have E3 := ext_trans EW b3
    have z3 : (w3.alloc (.cells #[.slice a3 m3 cap3] 42)).heap[w3.heap.size]? = some (.cells #[.slice a3 m3 cap3] 42) := heap_alloc_new' _ _ _ rfl
    have n4 := n3.mono (below_new (.cells #[.slice a3 m3 cap3] 42))
    have b4 := below_new (w := w3) (.cells #[.slice a3 m3 cap3] 42)
    clear n3 b1
    go_wp2_with fail
    refine (LN.out _).mono ?_
    rintro e w4 ⟨rfl, rfl⟩
    go_wp2_with fail
    go_loopw [7] (fun k wr => ∃ (j : Nat) (a5 : Option Addr) (m5 cap5 : Nat), j ≤ L ∧ k = .int .i64 ((j : Int) - 1) ∧ wr.heap[w3.heap.size]? = some (.cells #[.slice a5 m5 cap5] 42) ∧ NatV wr (.agg #[.slice a5 m5 cap5]) (x ^ (m / 2 ^ j)) ∧ Below w3.heap.size w3 wr)
      (fun k _ => (intOf k + 1).toNat)
    case atStart =>
      refine ⟨L, a3, m3, cap3, Nat.le_refl _, rfl, z3, ?_, b4⟩
      rw [Nat.div_eq_of_lt HML.out, Nat.pow_zero]; exact n4
    case round =>
      clear z3 n4 b4
      obtain ⟨j, a5, m5, cap5, hj, rfl, z5, n5, b5⟩ := hrel
      have hcell5 : wr.cell? ⟨w3.heap.size, 0, none⟩ = some (.slice a5 m5 cap5) := by unfold World.cell?; rw [z5]; rfl
      by_cases hj0 : 0 < j
      · obtain ⟨i, rfl⟩ : ∃ i, j = i + 1 := ⟨j - 1, by omega⟩
        have hsi : ((i + 1 : Nat) : Int) - 1 = i := by omega
        rw [hsi]
        have hM := Lib.hid (mul_ok n5 n5 (by have := HLEN.out (m / 2 ^ (i + 1)) (Nat.div_le_self _ _); omega) (by have := HLEN.out (m / 2 ^ (i + 1)) (Nat.div_le_self _ _); omega))
        clear hsi n5
        go_wp2_with fail
        refine hM.out.mono ?_
        rintro e w6 ⟨r6, rfl, n6, b6⟩
        obtain ⟨a6, m6, cap6, rfl, n6⟩ := n6.out
        have E6 := ext_trans E3 (ext_trans b5 b6)
        have e1 := cellE E6 c1
        have NX6 := NX.out _ E6
        have hx6 := HLEN.out 1
        have z6 := (b6.block _ (block_lt z5)).trans z5
        have hcell6 : w6.cell? ⟨w3.heap.size, 0, none⟩ = some (.slice a5 m5 cap5) := by unfold World.cell?; rw [z6]; rfl
        have hfr6 : w6.frozen? ⟨w3.heap.size, 0, none⟩ = false := by unfold World.frozen?; rw [z6]; rfl
        have hne : w.heap.size < w3.heap.size := by have := E3.size; simp at this; omega
        have e7 : ∀ u, (w6.setCell ⟨w3.heap.size, 0, none⟩ u).cell? ⟨w.heap.size, 0, none⟩ = some (.slice a n cap) := fun u => (World.cell?_of_block (Below.heap_setCell _ _ _ _ (by simp only; omega))).trans e1
        have NX7 : NatV (w6.setCell ⟨w3.heap.size, 0, none⟩ (.slice a6 m6 cap6)) (.agg #[.slice a n cap]) x := NX6.put z6 (by decide)
        obtain ⟨c7, n7⟩ := box_nat z6 (by decide) n6
        have z7 : (w6.setCell ⟨w3.heap.size, 0, none⟩ (.slice a6 m6 cap6)).heap[w3.heap.size]? = some (.cells #[.slice a6 m6 cap6] 42) := heap_setCell_same w6 w3.heap.size 0 _ _ _ z6
        have b7 : Below w3.heap.size w3 (w6.setCell ⟨w3.heap.size, 0, none⟩ (.slice a6 m6 cap6)) := below_put (b5.trans (b6.mono b5.size)) (Nat.le_refl _)
        have hq1 : m / 2 ^ (i + 1) = m / 2 ^ i / 2 := by rw [Nat.pow_succ, Nat.div_div_eq_div_mul]
        have hqm : m / 2 ^ i ≤ m := Nat.div_le_self _ _
        have hqi : (m : Int) / 2 ^ i = ((m / 2 ^ i : Nat) : Int) := by rw [Int.natCast_ediv]; simp
        have hand := i64_and1 ((m / 2 ^ i : Nat) : Int)
        rw [← hqi] at hand
        have hbit : (bits .and .i64 ((m : Int) / 2 ^ i) 1 = 0 ∧ x ^ (m / 2 ^ i) = x ^ (m / 2 ^ (i + 1)) * x ^ (m / 2 ^ (i + 1))) ∨ (bits .and .i64 ((m : Int) / 2 ^ i) 1 = 1 ∧ x ^ (m / 2 ^ i) = x ^ (m / 2 ^ (i + 1)) * x ^ (m / 2 ^ (i + 1)) * x) := by
          rw [hand, hqi, hq1]
          generalize m / 2 ^ i = t
          rcases Nat.mod_two_eq_zero_or_one t with h | h
          · exact .inl ⟨by omega, by rw [← Nat.pow_add]; congr 1; omega⟩
          · exact .inr ⟨by omega, by rw [← Nat.pow_add, ← Nat.pow_succ]; congr 1; omega⟩
        have E7 := Lib.hid (E3.trans (b7.mono E3.size))
        have hl2 : (digs B (x ^ (m / 2 ^ (i + 1)) * x ^ (m / 2 ^ (i + 1)))).length < 268435456 := by
          rw [← Nat.pow_add]
          refine HLEN.out _ ?_
          rw [hq1]
          generalize m / 2 ^ i = t at hqm
          omega
        clear hand hqi hq1 hqm hx6 NX6 n6 b6 z6
        rcases hbit with ⟨hbit, hpow⟩ | ⟨hbit, hpow⟩
        · have HP := Lib.hid hpow
          clear hpow
          go_wp2
          go_roundw
          case rel => exact ⟨i, a6, m6, cap6, by omega, rfl, z7, by rw [HP.out]; exact n7, b7⟩
          case measure => simp [intOf]
        · have hMM := Lib.hid (mul_ok n7 NX7 (by omega) (by omega))
          have HP := Lib.hid hpow
          clear hpow n7 NX7
          go_wp2_with fail
          refine hMM.out.mono ?_
          rintro e w8 ⟨r8, rfl, n8, b8⟩
          obtain ⟨a8, m8, cap8, rfl, n8⟩ := n8.out
          have z8 := (b8.block _ (block_lt z7)).trans z7
          have hcell8 : w8.cell? ⟨w3.heap.size, 0, none⟩ = some (.slice a6 m6 cap6) := by unfold World.cell?; rw [z8]; rfl
          have hfr8 : w8.frozen? ⟨w3.heap.size, 0, none⟩ = false := by unfold World.frozen?; rw [z8]; rfl
          obtain ⟨c9, n9⟩ := box_nat z8 (by decide) n8
          have z9 : (w8.setCell ⟨w3.heap.size, 0, none⟩ (.slice a8 m8 cap8)).heap[w3.heap.size]? = some (.cells #[.slice a8 m8 cap8] 42) := heap_setCell_same w8 w3.heap.size 0 _ _ _ z8
          have b9 : Below w3.heap.size w3 (w8.setCell ⟨w3.heap.size, 0, none⟩ (.slice a8 m8 cap8)) := below_put (b7.trans (b8.mono b7.size)) (Nat.le_refl _)
          go_wp2
          go_roundw
          case rel => exact ⟨i, a8, m8, cap8, by omega, rfl, z9, by rw [HP.out]; exact n9, b9⟩
          case measure => simp [intOf]
      · obtain rfl : j = 0 := by omega
        rw [Nat.pow_zero, Nat.div_one] at n5
        have E5 := ext_trans E3 b5
        have z5' := (E5.block _ (by simp)).trans z
        have hcell4 : wr.cell? ⟨w.heap.size + 1, 0, none⟩ = some (.slice none 0 0) := by unfold World.cell?; rw [z5']; rfl
        have hfr4 : wr.frozen? ⟨w.heap.size + 1, 0, none⟩ = false := by unfold World.frozen?; rw [z5']; rfl
        obtain ⟨q1, N9⟩ := box_nat z5' (by decide) n5
        have hBf := below_put (off := 0) (u := .slice a5 m5 cap5) (b := w.heap.size + 1) (hb.trans (E5.mono hb.size)) (by omega)
        clear z5' n5 z5
        go_wp2
        exact bodyPost_ret (v := .tuple #[.agg #[.slice a5 m5 cap5], .int .i64 0]) (by simp [results, Try.results51, go_sem, q1]) rfl ⟨_, rfl, N9, hBf⟩
  · go_wp2_with fail
    refine (B1.out _ b1).mono ?_
    rintro e w1' ⟨rfl, b1'⟩
    have EW := ext_trans b1 b1'
    clear d1
    have d1 := cellE EW c1
    go_wp2_with fail
    refine (of_ok 1 (by omega) _).mono ?_
    rintro e w3 ⟨r3, rfl, n3, b3⟩
    obtain ⟨a3, m3, cap3, rfl, n3⟩ := n3.out
    have E3 := ext_trans EW b3
    have z3 : (w3.alloc (.cells #[.slice a3 m3 cap3] 42)).heap[w3.heap.size]? = some (.cells #[.slice a3 m3 cap3] 42) := heap_alloc_new' _ _ _ rfl
    have n4 := n3.mono (below_new (.cells #[.slice a3 m3 cap3] 42))
    have b4 := below_new (w := w3) (.cells #[.slice a3 m3 cap3] 42)
    clear n3 b1
    go_wp2_with fail
    refine (LN.out _).mono ?_
    rintro e w4 ⟨rfl, rfl⟩
    go_wp2_with fail
    go_loopw [7] (fun k wr => ∃ (j : Nat) (a5 : Option Addr) (m5 cap5 : Nat), j ≤ L ∧ k = .int .i64 ((j : Int) - 1) ∧ wr.heap[w3.heap.size]? = some (.cells #[.slice a5 m5 cap5] 42) ∧ NatV wr (.agg #[.slice a5 m5 cap5]) (x ^ (m / 2 ^ j)) ∧ Below w3.heap.size w3 wr)
      (fun k _ => (intOf k + 1).toNat)
    case atStart =>
      refine ⟨L, a3, m3, cap3, Nat.le_refl _, rfl, z3, ?_, b4⟩
      rw [Nat.div_eq_of_lt HML.out, Nat.pow_zero]; exact n4
    case round =>
      clear z3 n4 b4
      obtain ⟨j, a5, m5, cap5, hj, rfl, z5, n5, b5⟩ := hrel
      have hcell5 : wr.cell? ⟨w3.heap.size, 0, none⟩ = some (.slice a5 m5 cap5) := by unfold World.cell?; rw [z5]; rfl
      by_cases hj0 : 0 < j
      · obtain ⟨i, rfl⟩ : ∃ i, j = i + 1 := ⟨j - 1, by omega⟩
        have hsi : ((i + 1 : Nat) : Int) - 1 = i := by omega
        rw [hsi]
        have hM := Lib.hid (mul_ok n5 n5 (by have := HLEN.out (m / 2 ^ (i + 1)) (Nat.div_le_self _ _); omega) (by have := HLEN.out (m / 2 ^ (i + 1)) (Nat.div_le_self _ _); omega))
        clear hsi n5
        go_wp2_with fail
        refine hM.out.mono ?_
        rintro e w6 ⟨r6, rfl, n6, b6⟩
        obtain ⟨a6, m6, cap6, rfl, n6⟩ := n6.out
        have E6 := ext_trans E3 (ext_trans b5 b6)
        have e1 := cellE E6 c1
        have NX6 := NX.out _ E6
        have hx6 := HLEN.out 1
        have z6 := (b6.block _ (block_lt z5)).trans z5
        have hcell6 : w6.cell? ⟨w3.heap.size, 0, none⟩ = some (.slice a5 m5 cap5) := by unfold World.cell?; rw [z6]; rfl
        have hfr6 : w6.frozen? ⟨w3.heap.size, 0, none⟩ = false := by unfold World.frozen?; rw [z6]; rfl
        have hne : w.heap.size < w3.heap.size := by have := E3.size; simp at this; omega
        have e7 : ∀ u, (w6.setCell ⟨w3.heap.size, 0, none⟩ u).cell? ⟨w.heap.size, 0, none⟩ = some (.slice a n cap) := fun u => (World.cell?_of_block (Below.heap_setCell _ _ _ _ (by simp only; omega))).trans e1
        have NX7 : NatV (w6.setCell ⟨w3.heap.size, 0, none⟩ (.slice a6 m6 cap6)) (.agg #[.slice a n cap]) x := NX6.put z6 (by decide)
        obtain ⟨c7, n7⟩ := box_nat z6 (by decide) n6
        have z7 : (w6.setCell ⟨w3.heap.size, 0, none⟩ (.slice a6 m6 cap6)).heap[w3.heap.size]? = some (.cells #[.slice a6 m6 cap6] 42) := heap_setCell_same w6 w3.heap.size 0 _ _ _ z6
        have b7 : Below w3.heap.size w3 (w6.setCell ⟨w3.heap.size, 0, none⟩ (.slice a6 m6 cap6)) := below_put (b5.trans (b6.mono b5.size)) (Nat.le_refl _)
        have hq1 : m / 2 ^ (i + 1) = m / 2 ^ i / 2 := by rw [Nat.pow_succ, Nat.div_div_eq_div_mul]
        have hqm : m / 2 ^ i ≤ m := Nat.div_le_self _ _
        have hqi : (m : Int) / 2 ^ i = ((m / 2 ^ i : Nat) : Int) := by rw [Int.natCast_ediv]; simp
        have hand := i64_and1 ((m / 2 ^ i : Nat) : Int)
        rw [← hqi] at hand
        have hbit : (bits .and .i64 ((m : Int) / 2 ^ i) 1 = 0 ∧ x ^ (m / 2 ^ i) = x ^ (m / 2 ^ (i + 1)) * x ^ (m / 2 ^ (i + 1))) ∨ (bits .and .i64 ((m : Int) / 2 ^ i) 1 = 1 ∧ x ^ (m / 2 ^ i) = x ^ (m / 2 ^ (i + 1)) * x ^ (m / 2 ^ (i + 1)) * x) := by
          rw [hand, hqi, hq1]
          generalize m / 2 ^ i = t
          rcases Nat.mod_two_eq_zero_or_one t with h | h
          · exact .inl ⟨by omega, by rw [← Nat.pow_add]; congr 1; omega⟩
          · exact .inr ⟨by omega, by rw [← Nat.pow_add, ← Nat.pow_succ]; congr 1; omega⟩
        have E7 := Lib.hid (E3.trans (b7.mono E3.size))
        have hl2 : (digs B (x ^ (m / 2 ^ (i + 1)) * x ^ (m / 2 ^ (i + 1)))).length < 268435456 := by
          rw [← Nat.pow_add]
          refine HLEN.out _ ?_
          rw [hq1]
          generalize m / 2 ^ i = t at hqm
          omega
        clear hand hqi hq1 hqm hx6 NX6 n6 b6 z6
        rcases hbit with ⟨hbit, hpow⟩ | ⟨hbit, hpow⟩
        · have HP := Lib.hid hpow
          clear hpow
          go_wp2
          go_roundw
          case rel => exact ⟨i, a6, m6, cap6, by omega, rfl, z7, by rw [HP.out]; exact n7, b7⟩
          case measure => simp [intOf]
        · have hMM := Lib.hid (mul_ok n7 NX7 (by omega) (by omega))
          have HP := Lib.hid hpow
          clear hpow n7 NX7
          go_wp2_with fail
          refine hMM.out.mono ?_
          rintro e w8 ⟨r8, rfl, n8, b8⟩
          obtain ⟨a8, m8, cap8, rfl, n8⟩ := n8.out
          have z8 := (b8.block _ (block_lt z7)).trans z7
          have hcell8 : w8.cell? ⟨w3.heap.size, 0, none⟩ = some (.slice a6 m6 cap6) := by unfold World.cell?; rw [z8]; rfl
          have hfr8 : w8.frozen? ⟨w3.heap.size, 0, none⟩ = false := by unfold World.frozen?; rw [z8]; rfl
          obtain ⟨c9, n9⟩ := box_nat z8 (by decide) n8
          have z9 : (w8.setCell ⟨w3.heap.size, 0, none⟩ (.slice a8 m8 cap8)).heap[w3.heap.size]? = some (.cells #[.slice a8 m8 cap8] 42) := heap_setCell_same w8 w3.heap.size 0 _ _ _ z8
          have b9 : Below w3.heap.size w3 (w8.setCell ⟨w3.heap.size, 0, none⟩ (.slice a8 m8 cap8)) := below_put (b7.trans (b8.mono b7.size)) (Nat.le_refl _)
          go_wp2
          go_roundw
          case rel => exact ⟨i, a8, m8, cap8, by omega, rfl, z9, by rw [HP.out]; exact n9, b9⟩
          case measure => simp [intOf]
      · obtain rfl : j = 0 := by omega
        rw [Nat.pow_zero, Nat.div_one] at n5
        have E5 := ext_trans E3 b5
        have z5' := (E5.block _ (by simp)).trans z
        have hcell4 : wr.cell? ⟨w.heap.size + 1, 0, none⟩ = some (.slice none 0 0) := by unfold World.cell?; rw [z5']; rfl
        have hfr4 : wr.frozen? ⟨w.heap.size + 1, 0, none⟩ = false := by unfold World.frozen?; rw [z5']; rfl
        obtain ⟨q1, N9⟩ := box_nat z5' (by decide) n5
        have hBf := below_put (off := 0) (u := .slice a5 m5 cap5) (b := w.heap.size + 1) (hb.trans (E5.mono hb.size)) (by omega)
        clear z5' n5 z5
        go_wp2
        exact bodyPost_ret (v := .tuple #[.agg #[.slice a5 m5 cap5], .int .i64 0]) (by simp [results, Try.results51, go_sem, q1]) rfl ⟨_, rfl, N9, hBf⟩
end Go.Proofs.Ytcabmibcgedhhaa

/-
  The walk of the law DigitsParses.
-/
import Derived.Test.YtcabmibcgedhhaaDoorDgW
import Derived.Test.YtcabmibcgedhhaaDoorLawDigitsTexts
import Derived.Test.YtcabmibcgedhhaaDoorRef4
namespace Go.Proofs.YtcabmibcgedhhaaDoor
open Go.RowKit Go.Cd

theorem ps_cases (L : List Nat) : (psE L = 0 → rightB L = true) ∧ psE L < 5 := by
  unfold psE
  by_cases h1 : 10000 < L.length
  · simp [h1]
  · by_cases h2 : rightB L = true <;> simp [h1, h2]
theorem isDec_right {L : List Nat} (h : rightB L = true) : isDec L = true := by
  unfold rightB at h
  exact (Bool.and_eq_true _ _ ▸ h).1
theorem digs_hvd {L : List Nat} (h : rightB L = true) (hn : L ≠ [48]) : digs 10 (hvd L) = (L.map (· - 48)).reverse := by
  have hd := isDec_mem (isDec_right h)
  unfold rightB at h
  rw [Bool.and_eq_true, Bool.or_eq_true, Bool.and_eq_true] at h
  have h2 : L ≠ [] ∧ L[0]?.getD 0 ≠ 48 := by
    rcases h.2 with h | h
    · exact absurd (of_decide_eq_true h) hn
    · exact ⟨of_decide_eq_true h.1, of_decide_eq_true h.2⟩
  unfold hvd hv
  refine digs_val (by omega) _ (fun d hm => ?_) (fun d hm => ?_)
  · obtain ⟨c, hc, rfl⟩ := List.mem_map.1 (List.mem_reverse.1 hm)
    have := hd c hc
    omega
  · rw [List.getLast?_reverse, List.head?_map] at hm
    match L, h2, hd, hm with
    | c :: l, h2, hd, hm =>
      have h3 := hd c (by simp)
      have h4 := h2.2
      simp at h4 hm
      omega
theorem hvd_top {L : List Nat} (h : rightB L = true) (h1 : 1 < L.length) : 10 ^ (L.length - 1) ≤ hvd L := by
  have hn : L ≠ [48] := fun e => by rw [e] at h1; simp at h1
  have hd := congrArg List.length (digs_hvd h hn)
  rw [List.length_reverse, List.length_map] at hd
  refine Nat.le_of_not_lt fun hc => ?_
  have := (len_digs_le (b := 10) (by omega) (x := hvd L)).2 hc
  omega
theorem bits_lo {L : List Nat} (h : rightB L = true) (h1 : 1 < L.length) : 3 * (L.length - 1) < (digs 2 (hvd L)).length := by
  refine Nat.lt_of_not_le fun hc => ?_
  have h2 := (len_digs_le (b := 2) (by omega) (x := hvd L)).1 hc
  rw [Nat.pow_mul] at h2
  have h3 : (2 ^ 3) ^ (L.length - 1) ≤ 10 ^ (L.length - 1) := Nat.pow_le_pow_left (by decide) _
  have := hvd_top h h1
  omega
theorem pow_gap (n : Nat) : 2 * 10 ^ (n + 2) ≤ 16 ^ (n + 2) := by
  induction n with
  | zero => decide
  | succ n ih =>
    rw [show n + 1 + 2 = (n + 2) + 1 by omega, Nat.pow_succ, Nat.pow_succ 16]
    omega
theorem bits_hi {L : List Nat} (h : rightB L = true) (h1 : 1 < L.length) : (digs 2 (hvd L)).length < 4 * L.length := by
  have h2 := hvd_lt (isDec_mem (isDec_right h))
  have h3 := pow_gap (L.length - 2)
  rw [show L.length - 2 + 2 = L.length by omega] at h3
  have : (digs 2 (hvd L)).length ≤ 4 * L.length - 1 := by
    refine (len_digs_le (b := 2) (by omega)).2 ?_
    have h4 : 2 ^ (4 * L.length) = 16 ^ L.length := by rw [Nat.pow_mul]
    have h5 : 2 ^ (4 * L.length) = 2 ^ (4 * L.length - 1) * 2 := by rw [← Nat.pow_succ]; congr 1; omega
    omega
  omega
theorem dec_hvd {L : List Nat} (h : rightB L = true) : decT (hvd L) = L := by
  by_cases hn : L = [48]
  · subst hn; rfl
  · have hd := digs_hvd h hn
    have h0 : hvd L ≠ 0 := by
      intro h0
      rw [h0, digs_zero] at hd
      have := congrArg List.length hd
      simp at this
      rw [List.length_eq_zero_iff.1 this.symm] at h
      cases h
    unfold decT
    rw [if_neg h0, hd, List.reverse_reverse, List.map_map]
    have hm := isDec_mem (isDec_right h)
    conv => rhs; rw [← List.map_id L]
    exact List.map_congr_left fun c hc => by have := hm c hc; simp; omega

set_option maxRecDepth 100000 in
set_option maxHeartbeats 3200000 in
theorem digitsParses_ok {w : World} (s : ByteArray) : Calls Tryd.prog 6 #[.string s] w fun e w' => e = .returned (.bool true) ∧ Below w.heap.size w w' := by
  by_cases hs : 10020 < s.size
  · have hd : decide ((10020 : Int) < (s.size : Int)) = true := decide_eq_true (by omega)
    go_enter Tryd.func6, Tryd.ntmps6
    go_wp2_with fail
    refine (awake03_ok _).mono ?_
    rintro e w1 ⟨rfl, h1⟩
    go_wp2_with fail
    have hS : (s.extract 0 10020).size < 1000000 := by simp; omega
    generalize s.extract 0 10020 = S at *
    clear hs hd
    have PA := Lib.hid (fun (W : World) => parse_ok (w := W) S hS)
    have RP := Lib.hid (fun (W : World) => refParse_ok (w := W) S hS)
    have HPS := Lib.hid (ps_cases (bts S))
    have hlS := length_bts S
    have HSB := Lib.hid (str_bts S)
    obtain ⟨E, hE⟩ : ∃ E, E = psE (bts S) := ⟨_, rfl⟩
    obtain ⟨X, hX⟩ : ∃ X, X = hvd (bts S) := ⟨_, rfl⟩
    rw [← hE] at HPS
    rw [← hE, ← hX] at PA RP
    have HE := Lib.hid hE
    have HX := Lib.hid hX
    clear hE hX
    by_cases hE0 : E = 0
    · subst hE0
      simp only [if_true] at PA
      have hrb := HPS.out.1 rfl
      have HR := Lib.hid hrb
      have HD := Lib.hid (dec_hvd hrb)
      have hXl := hvd_lenB (l := bts S) (isDec_mem (isDec_right hrb))
      rw [← HX.out, hlS] at hXl
      clear hrb HPS
      go_wp2_with fail
      refine (PA.out _).mono ?_
      rintro e w2 ⟨r2, rfl, x2, h2⟩
      obtain ⟨a2, n2, cap2, rfl, x2⟩ := x2.out
      have hb2 := below_new (w := w2) (.cells #[.slice a2 n2 cap2] tNat)
      have c2 : (w2.alloc (.cells #[.slice a2 n2 cap2] tNat)).cell? ⟨w2.heap.size, 0, none⟩ = some (.slice a2 n2 cap2) := by unfold World.cell?; rw [heap_alloc_new]; rfl
      have y2 := x2.mono hb2
      have E2 := ext_trans h1 (ext_trans h2 hb2)
      clear PA x2 h1 h2 hb2
      go_wp2_with fail
      refine (RP.out _).mono ?_
      rintro e w3 ⟨r3, rfl, x3, h3⟩
      have x3 := x3 trivial
      have c3 := cellE h3 c2
      have y3 := y2.mono h3
      have E3 := E2.trans (h3.mono E2.size)
      clear RP c2 y2 E2 h3
      by_cases h300 : 300 < S.size
      · have d3 : decide ((300 : Int) < (S.size : Int)) = true := decide_eq_true (by omega)
        have BT := Lib.hid (bits_ok y3 (by omega))
        have hlo := bits_lo HR.out (by omega : 1 < (bts S).length)
        have hhi := bits_hi HR.out (by omega : 1 < (bts S).length)
        rw [← HX.out, hlS] at hlo hhi
        generalize (digs 2 X).length = b at *
        have d4 : decide ((3 : Int) * ((S.size : Int) - 1) < (b : Int)) = true := decide_eq_true (by omega)
        have d5 : decide ((b : Int) < 4 * (S.size : Int)) = true := decide_eq_true (by omega)
        clear y3 x3
        go_wp2_with fail
        refine BT.out.mono ?_
        rintro e w4 ⟨rfl, h4⟩
        go_wp2
        go_ret
        exact ⟨by simp, E3.trans (h4.mono E3.size)⟩
      · have d3 : decide ((300 : Int) < (S.size : Int)) = false := decide_eq_false (by omega)
        have l10 := len10 (x := X) (n := 300) (by omega)
        have IS := Lib.hid (is_ok y3 x3 (by omega) (by omega))
        rw [decide_eq_true rfl] at IS
        have TX := Lib.hid (fun (W : World) (K : Below w3.heap.size w3 W) => text_ok (y3.mono K) (by omega))
        have hdt : str (decT X) = S := by rw [HX.out, HD.out, HSB.out]
        rw [hdt] at TX
        clear y3 x3 hdt l10
        go_wp2_with fail
        refine IS.out.mono ?_
        rintro e w4 ⟨rfl, h4⟩
        have c4 := cellE h4 c3
        go_wp2_with fail
        refine (TX.out _ h4).mono ?_
        rintro e w5 ⟨rfl, h5⟩
        go_wp2
        go_ret
        exact ⟨by simp, E3.trans ((ext_trans h4 h5).mono E3.size)⟩
    · have dE : ((E : Int) == 0) = false := beq_eq_false_iff_ne.2 (by omega)
      simp only [if_neg hE0] at PA
      clear HPS
      go_wp2_with fail
      refine (PA.out _).mono ?_
      rintro e w2 ⟨r2, rfl, x2, h2⟩
      obtain ⟨a2, n2, cap2, rfl, x2⟩ := x2.out
      have hb2 := below_new (w := w2) (.cells #[.slice a2 n2 cap2] tNat)
      have c2 : (w2.alloc (.cells #[.slice a2 n2 cap2] tNat)).cell? ⟨w2.heap.size, 0, none⟩ = some (.slice a2 n2 cap2) := by unfold World.cell?; rw [heap_alloc_new]; rfl
      have y2 := x2.mono hb2
      have E2 := ext_trans h1 (ext_trans h2 hb2)
      clear PA x2 h1 h2 hb2
      go_wp2_with fail
      refine (RP.out _).mono ?_
      rintro e w3 ⟨r3, rfl, x3, h3⟩
      have c3 := cellE h3 c2
      have ZR := Lib.hid (zero_ok (y2.mono h3))
      have E3 := E2.trans (h3.mono E2.size)
      clear RP c2 y2 E2 h3 x3
      go_wp2_with fail
      refine ZR.out.mono ?_
      rintro e w4 ⟨rfl, h4⟩
      go_wp2
      go_ret
      exact ⟨by simp, E3.trans (h4.mono E3.size)⟩
  · have hd : decide ((10020 : Int) < (s.size : Int)) = false := decide_eq_false (by omega)
    go_enter Tryd.func6, Tryd.ntmps6
    go_wp2_with fail
    refine (awake03_ok _).mono ?_
    rintro e w1 ⟨rfl, h1⟩
    go_wp2_with fail
    have hS : s.size < 1000000 := by omega
    clear hs hd
    generalize s = S at *
    have PA := Lib.hid (fun (W : World) => parse_ok (w := W) S hS)
    have RP := Lib.hid (fun (W : World) => refParse_ok (w := W) S hS)
    have HPS := Lib.hid (ps_cases (bts S))
    have hlS := length_bts S
    have HSB := Lib.hid (str_bts S)
    obtain ⟨E, hE⟩ : ∃ E, E = psE (bts S) := ⟨_, rfl⟩
    obtain ⟨X, hX⟩ : ∃ X, X = hvd (bts S) := ⟨_, rfl⟩
    rw [← hE] at HPS
    rw [← hE, ← hX] at PA RP
    have HE := Lib.hid hE
    have HX := Lib.hid hX
    clear hE hX
    by_cases hE0 : E = 0
    · subst hE0
      simp only [if_true] at PA
      have hrb := HPS.out.1 rfl
      have HR := Lib.hid hrb
      have HD := Lib.hid (dec_hvd hrb)
      have hXl := hvd_lenB (l := bts S) (isDec_mem (isDec_right hrb))
      rw [← HX.out, hlS] at hXl
      clear hrb HPS
      go_wp2_with fail
      refine (PA.out _).mono ?_
      rintro e w2 ⟨r2, rfl, x2, h2⟩
      obtain ⟨a2, n2, cap2, rfl, x2⟩ := x2.out
      have hb2 := below_new (w := w2) (.cells #[.slice a2 n2 cap2] tNat)
      have c2 : (w2.alloc (.cells #[.slice a2 n2 cap2] tNat)).cell? ⟨w2.heap.size, 0, none⟩ = some (.slice a2 n2 cap2) := by unfold World.cell?; rw [heap_alloc_new]; rfl
      have y2 := x2.mono hb2
      have E2 := ext_trans h1 (ext_trans h2 hb2)
      clear PA x2 h1 h2 hb2
      go_wp2_with fail
      refine (RP.out _).mono ?_
      rintro e w3 ⟨r3, rfl, x3, h3⟩
      have x3 := x3 trivial
      have c3 := cellE h3 c2
      have y3 := y2.mono h3
      have E3 := E2.trans (h3.mono E2.size)
      clear RP c2 y2 E2 h3
      by_cases h300 : 300 < S.size
      · have d3 : decide ((300 : Int) < (S.size : Int)) = true := decide_eq_true (by omega)
        have BT := Lib.hid (bits_ok y3 (by omega))
        have hlo := bits_lo HR.out (by omega : 1 < (bts S).length)
        have hhi := bits_hi HR.out (by omega : 1 < (bts S).length)
        rw [← HX.out, hlS] at hlo hhi
        generalize (digs 2 X).length = b at *
        have d4 : decide ((3 : Int) * ((S.size : Int) - 1) < (b : Int)) = true := decide_eq_true (by omega)
        have d5 : decide ((b : Int) < 4 * (S.size : Int)) = true := decide_eq_true (by omega)
        clear y3 x3
        go_wp2_with fail
        refine BT.out.mono ?_
        rintro e w4 ⟨rfl, h4⟩
        go_wp2
        go_ret
        exact ⟨by simp, E3.trans (h4.mono E3.size)⟩
      · have d3 : decide ((300 : Int) < (S.size : Int)) = false := decide_eq_false (by omega)
        have l10 := len10 (x := X) (n := 300) (by omega)
        have IS := Lib.hid (is_ok y3 x3 (by omega) (by omega))
        rw [decide_eq_true rfl] at IS
        have TX := Lib.hid (fun (W : World) (K : Below w3.heap.size w3 W) => text_ok (y3.mono K) (by omega))
        have hdt : str (decT X) = S := by rw [HX.out, HD.out, HSB.out]
        rw [hdt] at TX
        clear y3 x3 hdt l10
        go_wp2_with fail
        refine IS.out.mono ?_
        rintro e w4 ⟨rfl, h4⟩
        have c4 := cellE h4 c3
        go_wp2_with fail
        refine (TX.out _ h4).mono ?_
        rintro e w5 ⟨rfl, h5⟩
        go_wp2
        go_ret
        exact ⟨by simp, E3.trans ((ext_trans h4 h5).mono E3.size)⟩
    · have dE : ((E : Int) == 0) = false := beq_eq_false_iff_ne.2 (by omega)
      simp only [if_neg hE0] at PA
      clear HPS
      go_wp2_with fail
      refine (PA.out _).mono ?_
      rintro e w2 ⟨r2, rfl, x2, h2⟩
      obtain ⟨a2, n2, cap2, rfl, x2⟩ := x2.out
      have hb2 := below_new (w := w2) (.cells #[.slice a2 n2 cap2] tNat)
      have c2 : (w2.alloc (.cells #[.slice a2 n2 cap2] tNat)).cell? ⟨w2.heap.size, 0, none⟩ = some (.slice a2 n2 cap2) := by unfold World.cell?; rw [heap_alloc_new]; rfl
      have y2 := x2.mono hb2
      have E2 := ext_trans h1 (ext_trans h2 hb2)
      clear PA x2 h1 h2 hb2
      go_wp2_with fail
      refine (RP.out _).mono ?_
      rintro e w3 ⟨r3, rfl, x3, h3⟩
      have c3 := cellE h3 c2
      have ZR := Lib.hid (zero_ok (y2.mono h3))
      have E3 := E2.trans (h3.mono E2.size)
      clear RP c2 y2 E2 h3 x3
      go_wp2_with fail
      refine ZR.out.mono ?_
      rintro e w4 ⟨rfl, h4⟩
      go_wp2
      go_ret
      exact ⟨by simp, E3.trans (h4.mono E3.size)⟩
end Go.Proofs.YtcabmibcgedhhaaDoor

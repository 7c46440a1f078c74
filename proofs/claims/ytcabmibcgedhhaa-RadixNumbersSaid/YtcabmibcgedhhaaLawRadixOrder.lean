/-
  The walk of the law RadixOrder.
-/
import Derived.Test.YtcabmibcgedhhaaRad11
import Derived.Laws.Bits128
namespace Go.Proofs.Ytcabmibcgedhhaa
open Go.RowKit Go.Cd

theorem i64_and7 (n : Int) : bits .and .i64 n 7 = n % 8 := by
  have h127 : (BitVec.ofInt 64 7).toNat = 2 ^ 3 - 1 := by decide
  have key : (BitVec.ofInt 64 n &&& BitVec.ofInt 64 7).toNat = (n % ((2 ^ 64 : Nat) : Int)).toNat % 2 ^ 3 := by
    rw [BitVec.toNat_and, BitVec.toNat_ofInt, h127, Nat.and_two_pow_sub_one_eq_mod]
  show IntKind.i64.wrap ((BitVec.ofInt 64 n &&& BitVec.ofInt 64 7).toNat : Nat) = n % 8
  rw [key, IntKind.wrap_i64]
  omega

theorem prodN_snoc (xs : List Nat) (x : Nat) : prodN (xs ++ [x]) = prodN xs * x := by
  induction xs with
  | nil => simp [prodN]
  | cons y xs ih => simp only [List.cons_append, prodN, ih, Nat.mul_assoc]

theorem prodN_take (xs : List Nat) (k : Nat) (h : k < xs.length) : prodN (xs.take (k + 1)) = prodN (xs.take k) * xs[k] := by
  rw [List.take_succ_eq_append_getElem h, prodN_snoc]

theorem prodN_le {xs : List Nat} {c : Nat} (h : ∀ x ∈ xs, x ≤ c) : ∀ k, k ≤ xs.length → prodN (xs.take k) ≤ c ^ k := by
  intro k
  induction k with
  | zero => intro _; simp [prodN]
  | succ k ih =>
    intro hk
    rw [prodN_take xs k (by omega), Nat.pow_succ]
    exact Nat.mul_le_mul (ih (by omega)) (h _ (List.getElem_mem _))

/-- The bases of a few: 1 and what a number leaves behind m. -/
def few (m : Int) (l : List Int) : List Nat := l.map fun d => (1 + d % m).toNat
@[simp] theorem length_few (m : Int) (l : List Int) : (few m l).length = l.length := by simp [few]
theorem few_in {m : Int} (hm : 0 < m) {l : List Int} : ∀ b ∈ few m l, 1 ≤ b ∧ b ≤ m.toNat := by
  intro b hb
  obtain ⟨d, _, rfl⟩ := List.mem_map.1 hb
  have h1 := Int.emod_nonneg d (show m ≠ 0 by omega)
  have h2 := Int.emod_lt_of_pos d hm
  omega

theorem SlA.outN {w : World} {v : Value} {L : List Nat} (h : SlA w v (ds L)) : ∃ a cap, v = .slice a L.length cap ∧ L.length ≤ cap ∧
    ∀ i (hi : i < L.length), ∃ b off, a = some ⟨b, off, none⟩ ∧ b < w.heap.size ∧ w.cell? ⟨b, off + i, none⟩ = some (.int .i64 (L[i] : Nat)) := by
  obtain ⟨a, cap, rfl, hc, hx⟩ := SlA.out h
  have el : (ds L).length = L.length := length_ds _
  refine ⟨a, cap, by rw [el], by omega, fun i hi => ?_⟩
  obtain ⟨b, off, h1, h2, h3⟩ := hx i (by omega)
  exact ⟨b, off, h1, h2, by rw [h3, ds_getElem _ _ hi]⟩

/-- Into the range, as Go's '%' has it. -/
theorem into {i : Int} {S : Nat} (h : 1 ≤ S) (hS : S ≤ 1073741824) : ∃ A : Nat, A < S ∧ (wrap64 (i.tmod (S : Int) + (S : Int))).tmod (S : Int) = (A : Int) := by
  have h1 : -(S : Int) < i.tmod (S : Int) := Int.neg_lt_of_neg_lt (by have := Int.tmod_lt_of_pos (-i) (show (0 : Int) < (S : Int) by omega); rw [Int.neg_tmod] at this; exact this)
  have h2 : i.tmod (S : Int) < (S : Int) := Int.tmod_lt_of_pos i (by omega)
  generalize i.tmod (S : Int) = q at *
  obtain ⟨m, hm⟩ : ∃ m : Nat, q + (S : Int) = (m : Int) := ⟨(q + (S : Int)).toNat, by omega⟩
  have h3 : wrap64 (q + (S : Int)) = (m : Int) := by rw [hm]; unfold wrap64; omega
  rw [h3, ← Int.ofNat_tmod]
  exact ⟨m % S, Nat.mod_lt _ h, rfl⟩

set_option maxRecDepth 100000 in
set_option maxHeartbeats 3200000 in
theorem radixOrder_ok {w : World} {v : Value} {l : List Int} {i j : Int} (h : SlA w v (i64s l)) :
    Calls Try.prog 4 #[v, .int .i64 i, .int .i64 j] w fun e w' => e = .returned (.bool true) ∧ Below w.heap.size w w' := by
  obtain ⟨x1, cp1, rfl, _, hx1⟩ := SlA.outI h
  have hF := few_in (m := 8) (by omega) (l := l)
  have hS := prodN_le (xs := few 8 l) (c := 8) (fun x hx => (hF x hx).2)
  have h8 : ∀ k, k ≤ 6 → 8 ^ k ≤ 262144 := fun k hk => Nat.le_trans (Nat.pow_le_pow_right (by omega) hk) (by decide)
  have HSZ := Lib.hid (fun (k : Nat) (h1 : k ≤ l.length) (h2 : k ≤ 6) => Nat.le_trans (hS k (by simpa using h1)) (h8 k h2))
  have HF := Lib.hid hF
  have HX1 := Lib.hid hx1
  clear h hx1 hF hS h8
  go_enter Try.func4, Try.ntmps4
  go_wp2_with fail
  refine (awake23_ok _).mono ?_
  rintro e w1 ⟨rfl, hE1⟩
  go_wp2_with fail
  have hWW := hE1.size
  go_loopw [7, 8, 9] (fun o s n wr => ∃ k : Nat, k ≤ l.length ∧ k ≤ 6 ∧ n = .int .i64 k ∧ s = .int .i64 (prodN ((few 8 l).take k) : Nat) ∧ wr.ownsRow w.heap.size eInt 1 o k (ds ((few 8 l).take k)) ∧ Below w.heap.size w wr)
    (fun _ _ n _ => 7 - (intOf n).toNat)
  case atStart => exact ⟨0, Nat.zero_le _, by omega, rfl, rfl, ⟨by simp [ds], .inl (by simp)⟩, hE1⟩
  case round =>
    clear hE1
    obtain ⟨k, hk, hk6, rfl, rfl, ho, hE⟩ := hrel
    have hsz := HSZ.out k hk hk6
    by_cases hgo : k < l.length ∧ k < 6
    · obtain ⟨hkl, hk6'⟩ := hgo
      obtain ⟨b, off, rfl, hb, hc⟩ := HX1.out k hkl
      have hc := cellE hE hc
      have HP := Lib.hid (prodN_take (few 8 l) k (by simpa using hkl))
      have HT := Lib.hid (List.take_succ_eq_append_getElem (show k < (few 8 l).length by simpa using hkl))
      have hge : (few 8 l)[k]'(by simpa using hkl) = (1 + l[k] % 8).toNat := by simp [few]
      rw [hge] at HP HT
      clear hge
      generalize l[k] = d at *
      obtain ⟨c, hc8, hcd⟩ : ∃ c : Nat, 1 ≤ c ∧ (1 + d % 8) = (c : Int) := ⟨(1 + d % 8).toNat, by omega, by omega⟩
      have hand := i64_and7 d
      rw [hcd, Int.toNat_natCast] at HP HT
      have hc8' : c ≤ 8 := by omega
      generalize prodN ((few 8 l).take k) = S at *
      have hw : wrap64 ((S : Int) * (c : Int)) = ((S * c : Nat) : Int) := by
        rw [← Int.natCast_mul]
        have : S * c ≤ 262144 * 8 := Nat.mul_le_mul hsz hc8'
        unfold wrap64
        omega
      go_wp2_with (at_builtin; refine wpList_push rfl _ _ 22 rfl w.heap.size eInt _ 8 elemInt _ k _ rfl ho _ rfl rfl (by omega) (by unfold maxLen; omega) w hE (Nat.le_refl _) ?_; intro v' w' hown' hb')
      go_roundw
      case rel => exact ⟨k + 1, by omega, by omega, rfl, by rw [HP.out, hw], by rw [HT.out]; simpa [ds] using hown', hb'⟩
      case measure => simp [intOf]; omega
    · have hK : k = l.length ∨ k = 6 := by omega
      clear HX1
      obtain ⟨bs, hbs⟩ : ∃ bs, bs = (few 8 l).take k := ⟨_, rfl⟩
      have hbl : bs.length = k := by rw [hbs]; simp; omega
      have hbp : ∀ b ∈ bs, 1 ≤ b := fun b hb => by rw [hbs] at hb; exact (HF.out b (List.mem_of_mem_take hb)).1
      have hbm : ∀ b ∈ bs, b ≤ 8 := fun b hb => by rw [hbs] at hb; exact (HF.out b (List.mem_of_mem_take hb)).2
      rw [← hbs] at ho hsz ⊢
      clear hbs hgo
      obtain ⟨xo, cpo, rfl, _⟩ := SlA.outN (Sl.of_own ho).any
      rw [hbl] at ho ⊢
      have NW := Lib.hid (new_walk (Sl.of_own ho).any (by omega) hbp (fun b hb => by have := hbm b hb; omega))
      have HP1 := prodN_pos hbp
      by_cases hkl : k < l.length
      · have hk6 : k = 6 := by omega
        subst hk6
        go_wp2_with fail
        refine NW.out.mono ?_
        rintro e w2 ⟨r, e0, rfl, hE2, hr⟩
        have EB := hE.trans (hE2.mono hE.size)
        rcases hr with ⟨hmax, rfl, hR⟩ | ⟨hbig, _⟩
        case inr => exact absurd hbig (by omega)
        obtain ⟨a1, c1, a2, c2, rfl, _⟩ := hR.out
        have BN := below_new (w := w2) (.cells #[.slice a1 bs.length c1, .slice a2 bs.length c2, .int .i64 (prodN bs : Nat)] tRadix)
        have I3 : Is3 (w2.alloc (.cells #[.slice a1 bs.length c1, .slice a2 bs.length c2, .int .i64 (prodN bs : Nat)] tRadix)) w2.heap.size (.slice a1 bs.length c1) (.slice a2 bs.length c2) (.int .i64 (prodN bs : Nat)) tRadix := ⟨heap_alloc_new' _ _ _ rfl⟩
        have DG := Lib.hid (fun (W : World) (E : Below w2.heap.size w2 W) (n : Nat) (hn : n < prodN bs) => digits_ok (hR.mono E) hbp hmax (by omega) (n : Int))
        have DL := Lib.hid (fun n => length_dgs bs n)
        have CMP := Lib.hid (fun n m => cmp_dgs bs n m hbp)
        clear hbp hbm hR NW hE hE2 ho HF HSZ
        generalize hSS : prodN bs = S at *
        clear hSS
        have hS0 : S ≠ 0 := by omega
        have hS1 : (0 : Int) < (S : Int) := by omega
        go_wp2_with fail
        go_quiet (fail)
        go_wp2_with fail
        obtain ⟨A, hA, hAi⟩ := into (i := i) HP1 hmax
        obtain ⟨C, hC, hCj⟩ := into (i := j) HP1 hmax
        rw [hAi, hCj]
        simp only [hbl] at DG BN I3 DL
        clear hAi hCj
        have J3 : Is3 ((w2.alloc (.cells #[.slice a1 6 c1, .slice a2 6 c2, .int .i64 (S : Nat)] tRadix)).drewN nq) w2.heap.size (.slice a1 6 c1) (.slice a2 6 c2) (.int .i64 (S : Nat)) tRadix := ⟨I3.at_⟩
        have BN3 : Below w2.heap.size w2 ((w2.alloc (.cells #[.slice a1 6 c1, .slice a2 6 c2, .int .i64 (S : Nat)] tRadix)).drewN nq) := ⟨BN.os, BN.tape, BN.output, BN.size, BN.block⟩
        clear BN I3
        generalize ((w2.alloc (.cells #[.slice a1 6 c1, .slice a2 6 c2, .int .i64 (S : Nat)] tRadix)).drewN nq) = W3 at *
        have D1 := DG.out W3 BN3 A hA
        have D2 := Lib.hid (fun (W : World) (E : Below W3.heap.size W3 W) => DG.out W (ext_trans BN3 E) C hC)
        rw [decide_eq_true (show 0 ≤ (A : Int) ∧ (A : Int) < (S : Int) by omega)] at D1
        rw [decide_eq_true (show 0 ≤ (C : Int) ∧ (C : Int) < (S : Int) by omega)] at D2
        refine D1.mono ?_
        rintro e w4 ⟨r4, rfl, h4, g4, _⟩
        have g4 := (g4 ⟨by omega, by omega⟩).1
        rw [Int.toNat_natCast] at g4
        have g4' := g4
        obtain ⟨x4, cp4, rfl, _⟩ := SlA.outN g4
        clear D1 g4
        obtain ⟨e0, e1, e2⟩ := (J3.mono h4).cell
        rw [DL.out A] at g4' ⊢
        go_wp2_with fail
        refine (D2.out _ h4).mono ?_
        rintro e w5 ⟨r5, rfl, h5, g5, _⟩
        have g5 := (g5 ⟨by omega, by omega⟩).1
        rw [Int.toNat_natCast] at g5
        obtain ⟨x5, cp5, rfl, _, k5⟩ := SlA.outN g5
        obtain ⟨_, _, hv4, _, k4⟩ := SlA.outN (g4'.mono h5)
        rw [DL.out A] at hv4
        cases hv4
        rw [DL.out C] at ⊢
        have K4 := Lib.hid k4
        have K5 := Lib.hid k5
        have EW := (EB.trans (ext_trans BN3 (ext_trans h4 h5) |>.mono EB.size))
        clear e0 e1 e2 k4 k5 g5 g4' D2 J3 BN3 EB DG
        go_wp2_with fail
        go_loopw [17, 18] (fun want n wr => ∃ t : Nat, t ≤ 6 ∧ n = .int .i64 ((t : Int) - 1) ∧ want = .int .i64 (cmpL ((dgs bs A).drop t) ((dgs bs C).drop t)) ∧ Below w5.heap.size w5 wr)
          (fun _ n _ => (intOf n + 1).toNat)
        case atStart =>
          have hd1 : (dgs bs A).drop 6 = [] := List.drop_of_length_le (by rw [DL.out]; omega)
          exact ⟨6, by omega, by first | rfl | exact congrArg (Value.int .i64) (by omega), by rw [hd1]; rfl, Below.refl _ _⟩
        case round =>
          obtain ⟨t, ht, rfl, rfl, hE⟩ := hrel
          by_cases ht0 : 0 < t
          · obtain ⟨m, rfl⟩ : ∃ m, t = m + 1 := ⟨t - 1, by omega⟩
            have hsi : ((m + 1 : Nat) : Int) - 1 = m := by omega
            rw [hsi]
            clear hsi
            have hm4 : m < (dgs bs A).length := by rw [DL.out]; omega
            have hm5 : m < (dgs bs C).length := by rw [DL.out]; omega
            obtain ⟨b4, o4, rfl, hb4, k4⟩ := K4.out m hm4
            obtain ⟨b5, o5, rfl, hb5, k5⟩ := K5.out m hm5
            have k4 := (hE.cell (p := ⟨b4, o4 + m, none⟩) hb4).trans k4
            have k5 := (hE.cell (p := ⟨b5, o5 + m, none⟩) hb5).trans k5
            have CD := Lib.hid (cmpL_drop hm4 hm5)
            generalize (dgs bs A)[m] = p at *
            generalize (dgs bs C)[m] = q at *
            obtain ⟨z, hz⟩ : ∃ z, z = cmpL ((dgs bs A).drop (m + 1)) ((dgs bs C).drop (m + 1)) := ⟨_, rfl⟩
            rw [← hz] at CD ⊢
            clear hz hm4 hm5
            by_cases h1 : p < q
            · have hd : decide ((p : Int) < (q : Int)) = true := decide_eq_true (by omega)
              go_wp2_with fail
              go_quiet (fail)
              go_wp2_with fail
              go_roundw
              case rel => exact ⟨m, by omega, rfl, by rw [CD.out, if_pos h1], ⟨hE.os, hE.tape, hE.output, hE.size, hE.block⟩⟩
              case measure => simp [intOf]
            · have hd : decide ((p : Int) < (q : Int)) = false := decide_eq_false (by omega)
              by_cases h2 : q < p
              · have hd2 : decide ((q : Int) < (p : Int)) = true := decide_eq_true (by omega)
                go_wp2_with fail
                go_quiet (fail)
                go_wp2_with fail
                go_quiet (fail)
                go_wp2_with fail
                go_roundw
                case rel => exact ⟨m, by omega, rfl, by rw [CD.out, if_neg h1, if_pos h2], ⟨hE.os, hE.tape, hE.output, hE.size, hE.block⟩⟩
                case measure => simp [intOf]
              · have hd2 : decide ((q : Int) < (p : Int)) = false := decide_eq_false (by omega)
                go_wp2_with fail
                go_quiet (fail)
                go_wp2_with fail
                go_quiet (fail)
                go_wp2_with fail
                go_roundw
                case rel => exact ⟨m, by omega, rfl, by rw [CD.out, if_neg h1, if_neg h2], ⟨hE.os, hE.tape, hE.output, hE.size, hE.block⟩⟩
                case measure => simp [intOf]
          · obtain rfl : t = 0 := by omega
            have hcm := CMP.out A C hA hC
            rw [List.drop_zero, List.drop_zero, hcm]
            clear hcm CMP
            by_cases h1 : A < C
            · have h2 : ¬ C < A := by omega
              rw [if_pos h1]
              go_wp2
              go_ret
              exact ⟨by simp, EW.trans (hE.mono EW.size)⟩
            · by_cases h2 : C < A
              · rw [if_neg h1, if_pos h2]
                go_wp2
                go_ret
                exact ⟨by simp, EW.trans (hE.mono EW.size)⟩
              · rw [if_neg h1, if_neg h2]
                go_wp2
                go_ret
                exact ⟨by simp, EW.trans (hE.mono EW.size)⟩
      · obtain rfl : k = l.length := by omega
        go_wp2_with fail
        refine NW.out.mono ?_
        rintro e w2 ⟨r, e0, rfl, hE2, hr⟩
        have EB := hE.trans (hE2.mono hE.size)
        rcases hr with ⟨hmax, rfl, hR⟩ | ⟨hbig, _⟩
        case inr => exact absurd hbig (by omega)
        obtain ⟨a1, c1, a2, c2, rfl, _⟩ := hR.out
        have BN := below_new (w := w2) (.cells #[.slice a1 bs.length c1, .slice a2 bs.length c2, .int .i64 (prodN bs : Nat)] tRadix)
        have I3 : Is3 (w2.alloc (.cells #[.slice a1 bs.length c1, .slice a2 bs.length c2, .int .i64 (prodN bs : Nat)] tRadix)) w2.heap.size (.slice a1 bs.length c1) (.slice a2 bs.length c2) (.int .i64 (prodN bs : Nat)) tRadix := ⟨heap_alloc_new' _ _ _ rfl⟩
        have DG := Lib.hid (fun (W : World) (E : Below w2.heap.size w2 W) (n : Nat) (hn : n < prodN bs) => digits_ok (hR.mono E) hbp hmax (by omega) (n : Int))
        have DL := Lib.hid (fun n => length_dgs bs n)
        have CMP := Lib.hid (fun n m => cmp_dgs bs n m hbp)
        clear hbp hbm hR NW hE hE2 ho HF HSZ
        generalize hSS : prodN bs = S at *
        clear hSS
        have hS0 : S ≠ 0 := by omega
        have hS1 : (0 : Int) < (S : Int) := by omega
        go_wp2_with fail
        go_quiet (fail)
        go_wp2_with fail
        obtain ⟨A, hA, hAi⟩ := into (i := i) HP1 hmax
        obtain ⟨C, hC, hCj⟩ := into (i := j) HP1 hmax
        rw [hAi, hCj]
        simp only [hbl] at DG BN I3 DL
        clear hAi hCj
        have J3 : Is3 ((w2.alloc (.cells #[.slice a1 l.length c1, .slice a2 l.length c2, .int .i64 (S : Nat)] tRadix)).drewN nq) w2.heap.size (.slice a1 l.length c1) (.slice a2 l.length c2) (.int .i64 (S : Nat)) tRadix := ⟨I3.at_⟩
        have BN3 : Below w2.heap.size w2 ((w2.alloc (.cells #[.slice a1 l.length c1, .slice a2 l.length c2, .int .i64 (S : Nat)] tRadix)).drewN nq) := ⟨BN.os, BN.tape, BN.output, BN.size, BN.block⟩
        clear BN I3
        generalize ((w2.alloc (.cells #[.slice a1 l.length c1, .slice a2 l.length c2, .int .i64 (S : Nat)] tRadix)).drewN nq) = W3 at *
        have D1 := DG.out W3 BN3 A hA
        have D2 := Lib.hid (fun (W : World) (E : Below W3.heap.size W3 W) => DG.out W (ext_trans BN3 E) C hC)
        rw [decide_eq_true (show 0 ≤ (A : Int) ∧ (A : Int) < (S : Int) by omega)] at D1
        rw [decide_eq_true (show 0 ≤ (C : Int) ∧ (C : Int) < (S : Int) by omega)] at D2
        refine D1.mono ?_
        rintro e w4 ⟨r4, rfl, h4, g4, _⟩
        have g4 := (g4 ⟨by omega, by omega⟩).1
        rw [Int.toNat_natCast] at g4
        have g4' := g4
        obtain ⟨x4, cp4, rfl, _⟩ := SlA.outN g4
        clear D1 g4
        obtain ⟨e0, e1, e2⟩ := (J3.mono h4).cell
        rw [DL.out A] at g4' ⊢
        go_wp2_with fail
        refine (D2.out _ h4).mono ?_
        rintro e w5 ⟨r5, rfl, h5, g5, _⟩
        have g5 := (g5 ⟨by omega, by omega⟩).1
        rw [Int.toNat_natCast] at g5
        obtain ⟨x5, cp5, rfl, _, k5⟩ := SlA.outN g5
        obtain ⟨_, _, hv4, _, k4⟩ := SlA.outN (g4'.mono h5)
        rw [DL.out A] at hv4
        cases hv4
        rw [DL.out C] at ⊢
        have K4 := Lib.hid k4
        have K5 := Lib.hid k5
        have EW := (EB.trans (ext_trans BN3 (ext_trans h4 h5) |>.mono EB.size))
        clear e0 e1 e2 k4 k5 g5 g4' D2 J3 BN3 EB DG
        go_wp2_with fail
        go_loopw [17, 18] (fun want n wr => ∃ t : Nat, t ≤ l.length ∧ n = .int .i64 ((t : Int) - 1) ∧ want = .int .i64 (cmpL ((dgs bs A).drop t) ((dgs bs C).drop t)) ∧ Below w5.heap.size w5 wr)
          (fun _ n _ => (intOf n + 1).toNat)
        case atStart =>
          have hd1 : (dgs bs A).drop l.length = [] := List.drop_of_length_le (by rw [DL.out]; omega)
          exact ⟨l.length, by omega, by first | rfl | exact congrArg (Value.int .i64) (by omega), by rw [hd1]; rfl, Below.refl _ _⟩
        case round =>
          obtain ⟨t, ht, rfl, rfl, hE⟩ := hrel
          by_cases ht0 : 0 < t
          · obtain ⟨m, rfl⟩ : ∃ m, t = m + 1 := ⟨t - 1, by omega⟩
            have hsi : ((m + 1 : Nat) : Int) - 1 = m := by omega
            rw [hsi]
            clear hsi
            have hm4 : m < (dgs bs A).length := by rw [DL.out]; omega
            have hm5 : m < (dgs bs C).length := by rw [DL.out]; omega
            obtain ⟨b4, o4, rfl, hb4, k4⟩ := K4.out m hm4
            obtain ⟨b5, o5, rfl, hb5, k5⟩ := K5.out m hm5
            have k4 := (hE.cell (p := ⟨b4, o4 + m, none⟩) hb4).trans k4
            have k5 := (hE.cell (p := ⟨b5, o5 + m, none⟩) hb5).trans k5
            have CD := Lib.hid (cmpL_drop hm4 hm5)
            generalize (dgs bs A)[m] = p at *
            generalize (dgs bs C)[m] = q at *
            obtain ⟨z, hz⟩ : ∃ z, z = cmpL ((dgs bs A).drop (m + 1)) ((dgs bs C).drop (m + 1)) := ⟨_, rfl⟩
            rw [← hz] at CD ⊢
            clear hz hm4 hm5
            by_cases h1 : p < q
            · have hd : decide ((p : Int) < (q : Int)) = true := decide_eq_true (by omega)
              go_wp2_with fail
              go_quiet (fail)
              go_wp2_with fail
              go_roundw
              case rel => exact ⟨m, by omega, rfl, by rw [CD.out, if_pos h1], ⟨hE.os, hE.tape, hE.output, hE.size, hE.block⟩⟩
              case measure => simp [intOf]
            · have hd : decide ((p : Int) < (q : Int)) = false := decide_eq_false (by omega)
              by_cases h2 : q < p
              · have hd2 : decide ((q : Int) < (p : Int)) = true := decide_eq_true (by omega)
                go_wp2_with fail
                go_quiet (fail)
                go_wp2_with fail
                go_quiet (fail)
                go_wp2_with fail
                go_roundw
                case rel => exact ⟨m, by omega, rfl, by rw [CD.out, if_neg h1, if_pos h2], ⟨hE.os, hE.tape, hE.output, hE.size, hE.block⟩⟩
                case measure => simp [intOf]
              · have hd2 : decide ((q : Int) < (p : Int)) = false := decide_eq_false (by omega)
                go_wp2_with fail
                go_quiet (fail)
                go_wp2_with fail
                go_quiet (fail)
                go_wp2_with fail
                go_roundw
                case rel => exact ⟨m, by omega, rfl, by rw [CD.out, if_neg h1, if_neg h2], ⟨hE.os, hE.tape, hE.output, hE.size, hE.block⟩⟩
                case measure => simp [intOf]
          · obtain rfl : t = 0 := by omega
            have hcm := CMP.out A C hA hC
            rw [List.drop_zero, List.drop_zero, hcm]
            clear hcm CMP
            by_cases h1 : A < C
            · have h2 : ¬ C < A := by omega
              rw [if_pos h1]
              go_wp2
              go_ret
              exact ⟨by simp, EW.trans (hE.mono EW.size)⟩
            · by_cases h2 : C < A
              · rw [if_neg h1, if_pos h2]
                go_wp2
                go_ret
                exact ⟨by simp, EW.trans (hE.mono EW.size)⟩
              · rw [if_neg h1, if_neg h2]
                go_wp2
                go_ret
                exact ⟨by simp, EW.trans (hE.mono EW.size)⟩
end Go.Proofs.Ytcabmibcgedhhaa

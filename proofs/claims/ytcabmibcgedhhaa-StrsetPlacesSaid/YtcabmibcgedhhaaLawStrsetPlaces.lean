/-
  The walk of the law StrsetPlaces. (Written by genStrsetPlaces.py.)
-/
import Derived.Test.YtcabmibcgedhhaaStrA
import Derived.Test.YtcabmibcgedhhaaStr8
namespace Go.Proofs.Ytcabmibcgedhhaa
open Go.RowKit Go.Cd

theorem rank_take_succ {l : List Txt} {x : Txt} {j : Nat} (hj : j < l.length) : rank (l.take (j + 1)) x = rank (l.take j) x + if l[j] < x then 1 else 0 := by
  unfold rank
  rw [List.take_succ_eq_append_getElem hj, List.countP_append]
  congr 1
  by_cases h : l[j] < x <;> simp [h]

set_option maxRecDepth 100000 in
set_option maxHeartbeats 12800000 in
theorem strsetPlaces_law {w : World} {v : Value} {l : List Txt} (x0 : Txt) (i : Int) (hi64 : -9223372036854775808 ≤ i ∧ i ≤ 9223372036854775807) (h : SlA w v (txs l)) :
    Calls Try.prog 17 #[v, .string (sv x0), .int .i64 i] w fun e w' => e = .returned (.bool true) ∧ Below w.heap.size w w' := by
  obtain ⟨a, cap, rfl, _, _⟩ := SlA.outT h
  have AW := Lib.hid (awake7_ok (w := w))
  have FE := fun (W : World) (E : Below w.heap.size w W) => Lib.hid (fewT_ok (h.mono E))
  clear h
  go_enter Try.func17, Try.ntmps17
  go_wp2_with fail
  refine AW.out.mono ?_
  rintro e w1 ⟨rfl, h1⟩
  have FE' := FE _ h1
  clear AW FE
  go_wp2_with fail
  refine FE'.out.mono ?_
  rintro e w2 ⟨r2, L, rfl, o2, hL, h2⟩
  have hE2 := h1.trans (h2.mono h1.size)
  have sL := (Sl.of_own o2).any
  obtain ⟨nL, hnL⟩ : ∃ n, n = L.length := ⟨_, rfl⟩
  obtain ⟨aL, cL, rfl, _, _⟩ := SlA.outTn sL hnL
  have HL := Lib.hid hL
  have SL := Lib.hid sL
  have C1 := Lib.hid (cut05_ok (w := w2) x0 30 (by omega))
  have OF := Lib.hid (of_set sL (by omega))
  clear FE' o2 hL h1 h2 sL hnL
  go_wp2_with fail
  refine C1.out.mono ?_
  rintro e w2 ⟨rfl, rfl⟩
  generalize x0.take 30 = x
  clear C1
  go_wp2_with fail
  refine OF.out.mono ?_
  rintro e w4 ⟨r4, S, rfl, s4, hi, hm4, hl4, h4⟩
  have hE4 := hE2.trans (h4.mono hE2.size)
  obtain ⟨aS, nS, cS, rfl, sS, hnS⟩ := s4.out
  have HS4 := Lib.hid s4
  have HNS := Lib.hid hnS
  have HI := Lib.hid hi
  have HM4 := Lib.hid hm4
  have hnS40 : nS ≤ 40 := by have := HL.out; omega
  clear OF s4 sS hi hm4 hnS hl4
  obtain ⟨W5, hW5⟩ : ∃ W5, W5 = w4.alloc (.cells #[.slice aS nS cS] tSet) := ⟨_, rfl⟩
  have c5 : W5.cell? ⟨w4.heap.size, 0, none⟩ = some (.slice aS nS cS) := by subst hW5; unfold World.cell?; rw [heap_alloc_new]; rfl
  have hb5 : Below w4.heap.size w4 W5 := by subst hW5; exact below_new _
  obtain ⟨W6, hW6⟩ : ∃ W6, W6 = W5.alloc (.cells #[.int .i64 1] 3) := ⟨_, rfl⟩
  have hb6 : Below w4.heap.size w4 W6 := by subst hW6; exact ext_trans hb5 (below_new _)
  have c6 : W6.cell? ⟨w4.heap.size, 0, none⟩ = some (.slice aS nS cS) := by subst hW6; exact cellE (below_new _) c5
  have k6 : SlA W6 (.slice (some ⟨w4.heap.size + 1, 0, none⟩) 1 1) (nis [1]) := by subst hW6; have := sla_new W5 #[.int .i64 1] 3; rw [show W5.heap.size = w4.heap.size + 1 by rw [hW5]; simp] at this; exact this
  have hE6 := hE4.trans (hb6.mono hE4.size)
  have SO := Lib.hid (sorted_ok (b := []) (ks := [1]) ((SL.out.mono h4).mono hb6) (sla_none W6) k6 (by have := HL.out; omega) (by simp) (by simp))
  rw [hW5] at hW6
  clear hW5 c5 hb5 k6
  go_wp2_with fail
  rw [← hW6]
  clear hW6
  refine SO.out.mono ?_
  rintro e w7 ⟨r7, M, rfl, s7, hM, _, h7⟩
  have hMS : M = S := inc_ext _ _ hM.1 HI.out (fun x => (mgs_one hM x).trans (HM4.out x).symm)
  subst hMS
  obtain ⟨a7, c7', rfl, _, hx7⟩ := SlA.outTn s7 HNS.out
  have HX7 := Lib.hid hx7
  have hE7 := hE6.trans (h7.mono hE6.size)
  have hE47 := hb6.trans (h7.mono hb6.size)
  have c7 := cellE h7 c6
  clear SO hM s7 hx7 h7 c6 hb6 hE6
  go_wp2_with fail
  go_loopw [8, 27] (fun lv iv wr => ∃ j : Nat, j ≤ nS ∧ iv = .int .i64 j ∧ lv = .int .i64 (rank (M.take j) x : Nat) ∧ wr = w7) (fun _ iv _ => nS - (intOf iv).toNat)
  case atStart => exact ⟨0, Nat.zero_le _, rfl, rfl, rfl⟩
  case round =>
    obtain ⟨j, hj, rfl, rfl, rfl⟩ := hrel
    have hrj : rank (M.take j) x ≤ j := Nat.le_trans (rank_le _ _) (by rw [List.length_take]; omega)
    by_cases hjn : j < nS
    · have hjl : j < M.length := by have := HNS.out; omega
      obtain ⟨b, off, rfl, hbs, hc⟩ := HX7.out j hjl
      have RS := Lib.hid (rank_take_succ (x := x) hjl)
      generalize rank (M.take j) x = r at *
      generalize M[j] = s at *
      by_cases hs : s < x
      · have RS' := Lib.hid (RS.out.trans (by rw [if_pos hs]) : rank (M.take (j + 1)) x = r + 1)
        have q := str_less hs
        clear RS hs
        go_wp2
        go_roundw
        case rel => exact ⟨j + 1, by omega, rfl, by rw [RS'.out]; rfl, trivial⟩
        case measure => simp [intOf]; omega
      · have RS' := Lib.hid (RS.out.trans (by rw [if_neg hs]; rfl) : rank (M.take (j + 1)) x = r)
        have q := str_nless hs
        clear RS hs
        go_wp2
        go_roundw
        case rel => exact ⟨j + 1, by omega, rfl, by rw [RS'.out], trivial⟩
        case measure => simp [intOf]; omega
    · obtain rfl : j = nS := by omega
      rw [List.take_of_length_le (by rw [HNS.out]; exact Nat.le_refl _)] at hrj ⊢
      have hMl : M.length < 1099511627776 := by have := HNS.out; omega
      have SV := fun (W : World) (E : Below wr.heap.size wr W) => Lib.hid ((HS4.out.mono hE47).mono E)
      have LE := fun (W : World) (E : Below wr.heap.size wr W) => Lib.hid (setLen_ok ((HS4.out.mono hE47).mono E))
      rw [← HNS.out] at LE
      have IX := fun (W : World) (E : Below wr.heap.size wr W) (y : Txt) => Lib.hid (index_ok ((HS4.out.mono hE47).mono E) HI.out hMl y)
      have HA := fun (W : World) (E : Below wr.heap.size wr W) (y : Txt) => Lib.hid (setHas_ok ((HS4.out.mono hE47).mono E) HI.out hMl y)
      have AI := fun (W : World) (E : Below wr.heap.size wr W) (k : Nat) (hk : k < M.length) => Lib.hid (at_in ((HS4.out.mono hE47).mono E) hMl k hk)
      have AO := fun (W : World) (E : Below wr.heap.size wr W) (k : Int) (hk : k < 0 ∨ (M.length : Int) ≤ k) => Lib.hid (at_out ((HS4.out.mono hE47).mono E) hMl k hk)
      have RH := fun (W : World) (E : Below wr.heap.size wr W) => Lib.hid (refHas_ok ((SL.out.mono (h4.trans (hE47.mono h4.size))).mono E) (by have := HL.out; omega) x)
      have RA := Lib.hid (rank_at (x := x) HI.out)
      have RG := Lib.hid (fun (k : Nat) (hk : k < M.length) => rank_getElem HI.out hk)
      have q0 := sv_toList []
      obtain ⟨r, hr⟩ : ∃ r, r = rank M x := ⟨_, rfl⟩
      rw [← hr] at hrj ⊢
      have HR := Lib.hid hr
      clear hMl hr SV HX7
      have hi0 : (0 ≤ i ∧ i < j) ∨ (j : Int) ≤ i ∨ i < 0 := by omega
      have hxc : (r < j ∧ x ∈ M) ∨ (r < j ∧ x ∉ M) ∨ (r = j ∧ x ∉ M) := by
        by_cases hx : x ∈ M
        · refine .inl ⟨?_, hx⟩
          obtain ⟨h1, _⟩ := List.getElem?_eq_some_iff.1 (RA.out.2 hx)
          rw [← HR.out] at h1; have := HNS.out; omega
        · by_cases h : r < j
          · exact .inr (.inl ⟨h, hx⟩)
          · exact .inr (.inr ⟨by omega, hx⟩)
      rcases hi0 with hi0 | hi0 | hi0
      · obtain ⟨k, rfl⟩ : ∃ k : Nat, i = k := ⟨i.toNat, by omega⟩
        have hkM : k < M.length := by have := HNS.out; omega
        have hk : k < j := by omega
        have A1 := AI _ (Below.refl _ _) k hkM
        have hry := RG.out k hkM
        have hyM := List.getElem_mem hkM
        generalize M[k] = y at *
        have HRY := Lib.hid hry
        have HYM := Lib.hid (decide_eq_true hyM)
        clear hry hyM hkM hi0 hi64
        go_wp2_with fail
        refine A1.out.mono ?_
        rintro e w8 ⟨rfl, h8⟩
        have c8 := cellE h8 c7
        have L1 := LE _ h8
        go_wp2_with fail
        refine L1.out.mono ?_
        rintro e w9 ⟨rfl, h9⟩
        have h9 := ext_trans h8 h9
        have c9 := cellE h9 c7
        have I1 := IX _ h9 y
        clear A1 L1
        go_wp2_with fail
        refine I1.out.mono ?_
        rintro e w10 ⟨rfl, h10⟩
        rw [HRY.out]
        have h10 := ext_trans h9 h10
        have c10 := cellE h10 c7
        have H1 := HA _ h10 y
        clear I1
        go_wp2_with fail
        refine H1.out.mono ?_
        rintro e w11 ⟨rfl, h11⟩
        rw [HYM.out]
        have h11 := ext_trans h10 h11
        have c11 := cellE h11 c7
        clear H1 HRY HYM c8 c9 c10 h8 h9 h10
        rcases hxc with ⟨hrj2, hx⟩ | ⟨hrj2, hx⟩ | ⟨hrj2, hx⟩
        · have hrM : r < M.length := by have := HNS.out; omega
          have A2 := AI _ h11 r hrM
          have hat : M[r]? = some M[r] := List.getElem?_eq_getElem hrM
          have hz : M[r] = x := by have := RA.out.2 hx; rw [← HR.out, hat] at this; exact Option.some.inj this
          rw [hz] at A2
          clear hat hz hrM

          have HX := Lib.hid hx
          clear hx
          go_wp2_with fail
          refine A2.out.mono ?_
          rintro e w12 ⟨rfl, h12⟩
          have h12 := ext_trans h11 h12
          have c12 := cellE h12 c7
          have I2 := IX _ h12 x
          rw [← HR.out] at I2
          clear A2
          go_wp2_with fail
          refine I2.out.mono ?_
          rintro e w13 ⟨rfl, h13⟩
          have h13 := ext_trans h12 h13
          have c13 := cellE h13 c7
          have H2 := HA _ h13 x
          clear I2
          go_wp2_with fail
          refine H2.out.mono ?_
          rintro e w14 ⟨rfl, h14⟩
          have h14 := ext_trans h13 h14
          have c14 := cellE h14 c7
          have R2 := RH _ h14
          rw [decide_eq_true HX.out]
          clear H2
          go_wp2_with fail
          refine R2.out.mono ?_
          rintro e w15 ⟨rfl, h15⟩
          have h15 := ext_trans h14 h15
          have c15 := cellE h15 c7
          have H3 := HA _ h15 x
          rw [decide_eq_true ((HM4.out x).1 HX.out)]
          clear R2
          go_wp2_with fail
          refine H3.out.mono ?_
          rintro e w16 ⟨rfl, h16⟩
          have h16 := ext_trans h15 h16
          rw [decide_eq_true HX.out]
          clear H3
          go_wp2
          go_ret
          exact ⟨rfl, hE7.trans (h16.mono hE7.size)⟩
        · have hrM : r < M.length := by have := HNS.out; omega
          have A2 := AI _ h11 r hrM
          have hat : M[r]? = some M[r] := List.getElem?_eq_getElem hrM
          have hz : ¬ M[r] = x := fun e => hx (RA.out.1 (by rw [← HR.out, hat, e]))
          clear hat
          generalize M[r] = z at *
          have qz := str_ne hz
          clear hz hrM

          have HX := Lib.hid hx
          clear hx
          go_wp2_with fail
          refine A2.out.mono ?_
          rintro e w12 ⟨rfl, h12⟩
          have h12 := ext_trans h11 h12
          have c12 := cellE h12 c7
          have I2 := IX _ h12 x
          rw [← HR.out] at I2
          clear A2
          go_wp2_with fail
          refine I2.out.mono ?_
          rintro e w13 ⟨rfl, h13⟩
          have h13 := ext_trans h12 h13
          have c13 := cellE h13 c7
          have H2 := HA _ h13 x
          clear I2
          go_wp2_with fail
          refine H2.out.mono ?_
          rintro e w14 ⟨rfl, h14⟩
          have h14 := ext_trans h13 h14
          have c14 := cellE h14 c7
          have R2 := RH _ h14
          rw [decide_eq_false HX.out]
          clear H2
          go_wp2_with fail
          refine R2.out.mono ?_
          rintro e w15 ⟨rfl, h15⟩
          have h15 := ext_trans h14 h15
          have c15 := cellE h15 c7
          have H3 := HA _ h15 x
          rw [decide_eq_false (fun h => HX.out ((HM4.out x).2 h))]
          clear R2
          go_wp2_with fail
          refine H3.out.mono ?_
          rintro e w16 ⟨rfl, h16⟩
          have h16 := ext_trans h15 h16
          rw [decide_eq_false HX.out]
          clear H3
          go_wp2
          go_ret
          exact ⟨rfl, hE7.trans (h16.mono hE7.size)⟩
        · have A2 := AO _ h11 (r : Int) (by have := HNS.out; omega)
          clear hrj2 hrj

          have HX := Lib.hid hx
          clear hx
          go_wp2_with fail
          refine A2.out.mono ?_
          rintro e w12 ⟨rfl, h12⟩
          have h12 := ext_trans h11 h12
          have c12 := cellE h12 c7
          have I2 := IX _ h12 x
          rw [← HR.out] at I2
          clear A2
          go_wp2_with fail
          refine I2.out.mono ?_
          rintro e w13 ⟨rfl, h13⟩
          have h13 := ext_trans h12 h13
          have c13 := cellE h13 c7
          have H2 := HA _ h13 x
          clear I2
          go_wp2_with fail
          refine H2.out.mono ?_
          rintro e w14 ⟨rfl, h14⟩
          have h14 := ext_trans h13 h14
          have c14 := cellE h14 c7
          have R2 := RH _ h14
          rw [decide_eq_false HX.out]
          clear H2
          go_wp2_with fail
          refine R2.out.mono ?_
          rintro e w15 ⟨rfl, h15⟩
          have h15 := ext_trans h14 h15
          have c15 := cellE h15 c7
          have H3 := HA _ h15 x
          rw [decide_eq_false (fun h => HX.out ((HM4.out x).2 h))]
          clear R2
          go_wp2_with fail
          refine H3.out.mono ?_
          rintro e w16 ⟨rfl, h16⟩
          have h16 := ext_trans h15 h16
          rw [decide_eq_false HX.out]
          clear H3
          go_wp2
          go_ret
          exact ⟨rfl, hE7.trans (h16.mono hE7.size)⟩
      · have A1 := AO _ (Below.refl _ _) i (by have := HNS.out; omega)
        go_wp2_with fail
        refine A1.out.mono ?_
        rintro e w8 ⟨rfl, h8⟩
        have c8 := cellE h8 c7

        have L1 := LE _ h8
        go_wp2_with fail
        refine L1.out.mono ?_
        rintro e w11 ⟨rfl, h11⟩
        have h11 := ext_trans h8 h11
        have c11 := cellE h11 c7
        clear A1 L1 c8 h8
        rcases hxc with ⟨hrj2, hx⟩ | ⟨hrj2, hx⟩ | ⟨hrj2, hx⟩
        · have hrM : r < M.length := by have := HNS.out; omega
          have A2 := AI _ h11 r hrM
          have hat : M[r]? = some M[r] := List.getElem?_eq_getElem hrM
          have hz : M[r] = x := by have := RA.out.2 hx; rw [← HR.out, hat] at this; exact Option.some.inj this
          rw [hz] at A2
          clear hat hz hrM

          have HX := Lib.hid hx
          clear hx
          go_wp2_with fail
          refine A2.out.mono ?_
          rintro e w12 ⟨rfl, h12⟩
          have h12 := ext_trans h11 h12
          have c12 := cellE h12 c7
          have I2 := IX _ h12 x
          rw [← HR.out] at I2
          clear A2
          go_wp2_with fail
          refine I2.out.mono ?_
          rintro e w13 ⟨rfl, h13⟩
          have h13 := ext_trans h12 h13
          have c13 := cellE h13 c7
          have H2 := HA _ h13 x
          clear I2
          go_wp2_with fail
          refine H2.out.mono ?_
          rintro e w14 ⟨rfl, h14⟩
          have h14 := ext_trans h13 h14
          have c14 := cellE h14 c7
          have R2 := RH _ h14
          rw [decide_eq_true HX.out]
          clear H2
          go_wp2_with fail
          refine R2.out.mono ?_
          rintro e w15 ⟨rfl, h15⟩
          have h15 := ext_trans h14 h15
          have c15 := cellE h15 c7
          have H3 := HA _ h15 x
          rw [decide_eq_true ((HM4.out x).1 HX.out)]
          clear R2
          go_wp2_with fail
          refine H3.out.mono ?_
          rintro e w16 ⟨rfl, h16⟩
          have h16 := ext_trans h15 h16
          rw [decide_eq_true HX.out]
          clear H3
          go_wp2
          go_ret
          exact ⟨rfl, hE7.trans (h16.mono hE7.size)⟩
        · have hrM : r < M.length := by have := HNS.out; omega
          have A2 := AI _ h11 r hrM
          have hat : M[r]? = some M[r] := List.getElem?_eq_getElem hrM
          have hz : ¬ M[r] = x := fun e => hx (RA.out.1 (by rw [← HR.out, hat, e]))
          clear hat
          generalize M[r] = z at *
          have qz := str_ne hz
          clear hz hrM

          have HX := Lib.hid hx
          clear hx
          go_wp2_with fail
          refine A2.out.mono ?_
          rintro e w12 ⟨rfl, h12⟩
          have h12 := ext_trans h11 h12
          have c12 := cellE h12 c7
          have I2 := IX _ h12 x
          rw [← HR.out] at I2
          clear A2
          go_wp2_with fail
          refine I2.out.mono ?_
          rintro e w13 ⟨rfl, h13⟩
          have h13 := ext_trans h12 h13
          have c13 := cellE h13 c7
          have H2 := HA _ h13 x
          clear I2
          go_wp2_with fail
          refine H2.out.mono ?_
          rintro e w14 ⟨rfl, h14⟩
          have h14 := ext_trans h13 h14
          have c14 := cellE h14 c7
          have R2 := RH _ h14
          rw [decide_eq_false HX.out]
          clear H2
          go_wp2_with fail
          refine R2.out.mono ?_
          rintro e w15 ⟨rfl, h15⟩
          have h15 := ext_trans h14 h15
          have c15 := cellE h15 c7
          have H3 := HA _ h15 x
          rw [decide_eq_false (fun h => HX.out ((HM4.out x).2 h))]
          clear R2
          go_wp2_with fail
          refine H3.out.mono ?_
          rintro e w16 ⟨rfl, h16⟩
          have h16 := ext_trans h15 h16
          rw [decide_eq_false HX.out]
          clear H3
          go_wp2
          go_ret
          exact ⟨rfl, hE7.trans (h16.mono hE7.size)⟩
        · have A2 := AO _ h11 (r : Int) (by have := HNS.out; omega)
          clear hrj2 hrj

          have HX := Lib.hid hx
          clear hx
          go_wp2_with fail
          refine A2.out.mono ?_
          rintro e w12 ⟨rfl, h12⟩
          have h12 := ext_trans h11 h12
          have c12 := cellE h12 c7
          have I2 := IX _ h12 x
          rw [← HR.out] at I2
          clear A2
          go_wp2_with fail
          refine I2.out.mono ?_
          rintro e w13 ⟨rfl, h13⟩
          have h13 := ext_trans h12 h13
          have c13 := cellE h13 c7
          have H2 := HA _ h13 x
          clear I2
          go_wp2_with fail
          refine H2.out.mono ?_
          rintro e w14 ⟨rfl, h14⟩
          have h14 := ext_trans h13 h14
          have c14 := cellE h14 c7
          have R2 := RH _ h14
          rw [decide_eq_false HX.out]
          clear H2
          go_wp2_with fail
          refine R2.out.mono ?_
          rintro e w15 ⟨rfl, h15⟩
          have h15 := ext_trans h14 h15
          have c15 := cellE h15 c7
          have H3 := HA _ h15 x
          rw [decide_eq_false (fun h => HX.out ((HM4.out x).2 h))]
          clear R2
          go_wp2_with fail
          refine H3.out.mono ?_
          rintro e w16 ⟨rfl, h16⟩
          have h16 := ext_trans h15 h16
          rw [decide_eq_false HX.out]
          clear H3
          go_wp2
          go_ret
          exact ⟨rfl, hE7.trans (h16.mono hE7.size)⟩
      · have A1 := AO _ (Below.refl _ _) i (by have := HNS.out; omega)
        go_wp2_with fail
        refine A1.out.mono ?_
        rintro e w8 ⟨rfl, h8⟩
        have c8 := cellE h8 c7

        obtain ⟨w11, hw11⟩ : ∃ w11, w11 = w8 := ⟨_, rfl⟩
        subst hw11
        have h11 := h8
        have c11 := c8
        clear A1 c8 h8
        rcases hxc with ⟨hrj2, hx⟩ | ⟨hrj2, hx⟩ | ⟨hrj2, hx⟩
        · have hrM : r < M.length := by have := HNS.out; omega
          have A2 := AI _ h11 r hrM
          have hat : M[r]? = some M[r] := List.getElem?_eq_getElem hrM
          have hz : M[r] = x := by have := RA.out.2 hx; rw [← HR.out, hat] at this; exact Option.some.inj this
          rw [hz] at A2
          clear hat hz hrM

          have HX := Lib.hid hx
          clear hx
          go_wp2_with fail
          refine A2.out.mono ?_
          rintro e w12 ⟨rfl, h12⟩
          have h12 := ext_trans h11 h12
          have c12 := cellE h12 c7
          have I2 := IX _ h12 x
          rw [← HR.out] at I2
          clear A2
          go_wp2_with fail
          refine I2.out.mono ?_
          rintro e w13 ⟨rfl, h13⟩
          have h13 := ext_trans h12 h13
          have c13 := cellE h13 c7
          have H2 := HA _ h13 x
          clear I2
          go_wp2_with fail
          refine H2.out.mono ?_
          rintro e w14 ⟨rfl, h14⟩
          have h14 := ext_trans h13 h14
          have c14 := cellE h14 c7
          have R2 := RH _ h14
          rw [decide_eq_true HX.out]
          clear H2
          go_wp2_with fail
          refine R2.out.mono ?_
          rintro e w15 ⟨rfl, h15⟩
          have h15 := ext_trans h14 h15
          have c15 := cellE h15 c7
          have H3 := HA _ h15 x
          rw [decide_eq_true ((HM4.out x).1 HX.out)]
          clear R2
          go_wp2_with fail
          refine H3.out.mono ?_
          rintro e w16 ⟨rfl, h16⟩
          have h16 := ext_trans h15 h16
          rw [decide_eq_true HX.out]
          clear H3
          go_wp2
          go_ret
          exact ⟨rfl, hE7.trans (h16.mono hE7.size)⟩
        · have hrM : r < M.length := by have := HNS.out; omega
          have A2 := AI _ h11 r hrM
          have hat : M[r]? = some M[r] := List.getElem?_eq_getElem hrM
          have hz : ¬ M[r] = x := fun e => hx (RA.out.1 (by rw [← HR.out, hat, e]))
          clear hat
          generalize M[r] = z at *
          have qz := str_ne hz
          clear hz hrM

          have HX := Lib.hid hx
          clear hx
          go_wp2_with fail
          refine A2.out.mono ?_
          rintro e w12 ⟨rfl, h12⟩
          have h12 := ext_trans h11 h12
          have c12 := cellE h12 c7
          have I2 := IX _ h12 x
          rw [← HR.out] at I2
          clear A2
          go_wp2_with fail
          refine I2.out.mono ?_
          rintro e w13 ⟨rfl, h13⟩
          have h13 := ext_trans h12 h13
          have c13 := cellE h13 c7
          have H2 := HA _ h13 x
          clear I2
          go_wp2_with fail
          refine H2.out.mono ?_
          rintro e w14 ⟨rfl, h14⟩
          have h14 := ext_trans h13 h14
          have c14 := cellE h14 c7
          have R2 := RH _ h14
          rw [decide_eq_false HX.out]
          clear H2
          go_wp2_with fail
          refine R2.out.mono ?_
          rintro e w15 ⟨rfl, h15⟩
          have h15 := ext_trans h14 h15
          have c15 := cellE h15 c7
          have H3 := HA _ h15 x
          rw [decide_eq_false (fun h => HX.out ((HM4.out x).2 h))]
          clear R2
          go_wp2_with fail
          refine H3.out.mono ?_
          rintro e w16 ⟨rfl, h16⟩
          have h16 := ext_trans h15 h16
          rw [decide_eq_false HX.out]
          clear H3
          go_wp2
          go_ret
          exact ⟨rfl, hE7.trans (h16.mono hE7.size)⟩
        · have A2 := AO _ h11 (r : Int) (by have := HNS.out; omega)
          clear hrj2 hrj

          have HX := Lib.hid hx
          clear hx
          go_wp2_with fail
          refine A2.out.mono ?_
          rintro e w12 ⟨rfl, h12⟩
          have h12 := ext_trans h11 h12
          have c12 := cellE h12 c7
          have I2 := IX _ h12 x
          rw [← HR.out] at I2
          clear A2
          go_wp2_with fail
          refine I2.out.mono ?_
          rintro e w13 ⟨rfl, h13⟩
          have h13 := ext_trans h12 h13
          have c13 := cellE h13 c7
          have H2 := HA _ h13 x
          clear I2
          go_wp2_with fail
          refine H2.out.mono ?_
          rintro e w14 ⟨rfl, h14⟩
          have h14 := ext_trans h13 h14
          have c14 := cellE h14 c7
          have R2 := RH _ h14
          rw [decide_eq_false HX.out]
          clear H2
          go_wp2_with fail
          refine R2.out.mono ?_
          rintro e w15 ⟨rfl, h15⟩
          have h15 := ext_trans h14 h15
          have c15 := cellE h15 c7
          have H3 := HA _ h15 x
          rw [decide_eq_false (fun h => HX.out ((HM4.out x).2 h))]
          clear R2
          go_wp2_with fail
          refine H3.out.mono ?_
          rintro e w16 ⟨rfl, h16⟩
          have h16 := ext_trans h15 h16
          rw [decide_eq_false HX.out]
          clear H3
          go_wp2
          go_ret
          exact ⟨rfl, hE7.trans (h16.mono hE7.size)⟩
end Go.Proofs.Ytcabmibcgedhhaa

/-
  The walk of the law RadixNumbers.
-/
import Derived.Test.YtcabmibcgedhhaaRad14
namespace Go.Proofs.Ytcabmibcgedhhaa
open Go.RowKit Go.Cd

theorem i64_and3 (n : Int) : bits .and .i64 n 3 = n % 4 := by
  have h127 : (BitVec.ofInt 64 3).toNat = 2 ^ 2 - 1 := by decide
  have key : (BitVec.ofInt 64 n &&& BitVec.ofInt 64 3).toNat = (n % ((2 ^ 64 : Nat) : Int)).toNat % 2 ^ 2 := by
    rw [BitVec.toNat_and, BitVec.toNat_ofInt, h127, Nat.and_two_pow_sub_one_eq_mod]
  show IntKind.i64.wrap ((BitVec.ofInt 64 n &&& BitVec.ofInt 64 3).toNat : Nat) = n % 4
  rw [key, IntKind.wrap_i64]
  omega

set_option maxRecDepth 100000 in
set_option maxHeartbeats 6400000 in
theorem radixNumbers_ok {w : World} {v : Value} {l : List Int} {i j : Int} (h : SlA w v (i64s l)) :
    Calls Try.prog 5 #[v, .int .i64 i, .int .i64 j] w fun e w' => e = .returned (.bool true) ∧ Below w.heap.size w w' := by
  obtain ⟨x1, cp1, rfl, _, hx1⟩ := SlA.outI h
  have hF := few_in (m := 4) (by omega) (l := l)
  have hS := prodN_le (xs := few 4 l) (c := 4) (fun x hx => (hF x hx).2)
  have h8 : ∀ k, k ≤ 6 → 4 ^ k ≤ 4096 := fun k hk => Nat.le_trans (Nat.pow_le_pow_right (by omega) hk) (by decide)
  have HSZ := Lib.hid (fun (k : Nat) (h1 : k ≤ l.length) (h2 : k ≤ 6) => Nat.le_trans (hS k (by simpa using h1)) (h8 k h2))
  have HF := Lib.hid hF
  have HX1 := Lib.hid hx1
  clear h hx1 hF hS h8
  go_enter Try.func5, Try.ntmps5
  go_wp2_with fail
  refine (awake23_ok _).mono ?_
  rintro e w1 ⟨rfl, hE1⟩
  go_wp2_with fail
  have hWW := hE1.size
  go_loopw [7, 8, 9] (fun o s n wr => ∃ k : Nat, k ≤ l.length ∧ k ≤ 6 ∧ n = .int .i64 k ∧ s = .int .i64 (prodN ((few 4 l).take k) : Nat) ∧ wr.ownsRow w.heap.size eInt 1 o k (ds ((few 4 l).take k)) ∧ Below w.heap.size w wr)
    (fun _ _ n _ => 7 - (intOf n).toNat)
  case atStart => exact ⟨0, Nat.zero_le _, by omega, rfl, rfl, ⟨by simp [ds], .inl (by simp)⟩, hE1⟩
  case round =>
    clear hE1
    obtain ⟨k, hk, hk6, rfl, rfl, ho, hE⟩ := hrel
    have hsz := HSZ.out k hk hk6
    by_cases hgo : k < l.length ∧ k < 6
    · obtain ⟨hkl, hk6'⟩ := hgo
      obtain ⟨b, off, rfl, hb, hc⟩ := HX1.out k hkl
      have hc := cellE hE hc
      have HP := Lib.hid (prodN_take (few 4 l) k (by simpa using hkl))
      have HT := Lib.hid (List.take_succ_eq_append_getElem (show k < (few 4 l).length by simpa using hkl))
      have hge : (few 4 l)[k]'(by simpa using hkl) = (1 + l[k] % 4).toNat := by simp [few]
      rw [hge] at HP HT
      clear hge
      generalize l[k] = d at *
      obtain ⟨c, hc8, hcd⟩ : ∃ c : Nat, 1 ≤ c ∧ (1 + d % 4) = (c : Int) := ⟨(1 + d % 4).toNat, by omega, by omega⟩
      have hand := i64_and3 d
      rw [hcd, Int.toNat_natCast] at HP HT
      have hc8' : c ≤ 4 := by omega
      generalize prodN ((few 4 l).take k) = S at *
      have hw : wrap64 ((S : Int) * (c : Int)) = ((S * c : Nat) : Int) := by
        rw [← Int.natCast_mul]
        have : S * c ≤ 4096 * 4 := Nat.mul_le_mul hsz hc8'
        unfold wrap64
        omega
      go_wp2_with (at_builtin; refine wpList_push rfl _ _ 22 rfl w.heap.size eInt _ 8 elemInt _ k _ rfl ho _ rfl rfl (by omega) (by unfold maxLen; omega) w hE (Nat.le_refl _) ?_; intro v' w' hown' hb')
      go_roundw
      case rel => exact ⟨k + 1, by omega, by omega, rfl, by rw [HP.out, hw], by rw [HT.out]; simpa [ds] using hown', hb'⟩
      case measure => simp [intOf]; omega
    · have hK : k = l.length ∨ k = 6 := by omega
      clear HX1
      obtain ⟨bs, hbs⟩ : ∃ bs, bs = (few 4 l).take k := ⟨_, rfl⟩
      have hbl : bs.length = k := by rw [hbs]; simp; omega
      have hbp : ∀ b ∈ bs, 1 ≤ b := fun b hb => by rw [hbs] at hb; exact (HF.out b (List.mem_of_mem_take hb)).1
      have hbm : ∀ b ∈ bs, b ≤ 4 := fun b hb => by rw [hbs] at hb; exact (HF.out b (List.mem_of_mem_take hb)).2
      rw [← hbs] at ho hsz ⊢
      clear hbs hgo
      obtain ⟨xo, cpo, rfl, _⟩ := SlA.outN (Sl.of_own ho).any
      rw [hbl] at ho ⊢
      have NW := Lib.hid (new_walk (Sl.of_own ho).any (by omega) hbp (fun b hb => by have := hbm b hb; omega))
      have HP1 := prodN_pos hbp
      by_cases hkl : k < l.length
      · have hk6 : k = 6 := by omega
        subst hk6
        go_wp2_with fail
        refine NW.out.mono ?_
        rintro e w2 ⟨r, e0, rfl, hE2, hr⟩
        have EB := hE.trans (hE2.mono hE.size)
        rcases hr with ⟨hmax, rfl, hR⟩ | ⟨hbig, _⟩
        case inr => exact absurd hbig (by omega)
        obtain ⟨a1, c1, a2, c2, rfl, _, _, _, hy1, _⟩ := hR.out
        have hso : SlA w2 (.slice xo 6 cpo) (ds bs) := by have := (Sl.of_own (own_ext ho hE2)).any; exact this
        have BN := below_new (w := w2) (.cells #[.slice a1 bs.length c1, .slice a2 bs.length c2, .int .i64 (prodN bs : Nat)] tRadix)
        have I3 : Is3 (w2.alloc (.cells #[.slice a1 bs.length c1, .slice a2 bs.length c2, .int .i64 (prodN bs : Nat)] tRadix)) w2.heap.size (.slice a1 bs.length c1) (.slice a2 bs.length c2) (.int .i64 (prodN bs : Nat)) tRadix := ⟨heap_alloc_new' _ _ _ rfl⟩
        have hlen : bs.length < 1099511627776 := by omega
        have SZ := Lib.hid (fun (W : World) (E : Below w2.heap.size w2 W) => size_ok (hR.mono E) hbp hmax)
        have BS := Lib.hid (fun (W : World) (E : Below w2.heap.size w2 W) => bases_ok (hR.mono E) hlen)
        have SM := Lib.hid (fun (W : World) (E : Below w2.heap.size w2 W) (u : Value) (g : SlA W u (ds bs)) => same23_ok g (hso.mono E) rfl hlen)
        have DG := Lib.hid (fun (W : World) (E : Below w2.heap.size w2 W) (n : Int) => digits_ok (hR.mono E) hbp hmax hlen n)
        have IX := Lib.hid (fun (W : World) (E : Below w2.heap.size w2 W) (n : Nat) (hn : n < prodN bs) (u : Value) (g : SlA W u (ds (dgs bs n))) => index_dgs (hR.mono E) hbp hmax hlen hn g)
        have RI := Lib.hid (fun (W : World) (E : Below w2.heap.size w2 W) (n : Nat) (hn : n < prodN bs) (u : Value) (g : SlA W u (ds (dgs bs n))) => refIndex_dgs (hso.mono E) hbp hmax hlen hn g)
        have RU := Lib.hid (fun (W : World) (E : Below w2.heap.size w2 W) (n m : Nat) (hn : n < prodN bs) (hm : m < bs.length) (hd : (dgs bs n)[m]'(by simpa using hm) + 1 < bs[m]) (u : Value) (g : SlA W u (ds ((dgs bs n).set m ((dgs bs n)[m]'(by simpa using hm) + 1)))) => refIndex_up (hso.mono E) hbp hmax hlen hn hm hd g)
        have NX := Lib.hid (fun (W : World) (E : Below w2.heap.size w2 W) (n : Nat) (hn : n < prodN bs) (u : Value) (g : SlA W u (ds (dgs bs n))) => next_dgs (hso.mono E) hbp (fun b hb => by have := hbm b hb; omega) hlen hn g)
        have SI := Lib.hid (fun (W : World) (E : Below w2.heap.size w2 W) (n m : Nat) (hn : n < prodN bs) (hm : m < bs.length) => step_in (hR.mono E) hbp hmax hn hm)
        have SO := Lib.hid (fun (W : World) (E : Below w2.heap.size w2 W) (i k : Int) (hik : ¬ ((0 ≤ i ∧ i < (prodN bs : Nat)) ∧ 0 ≤ k ∧ k < bs.length)) => step_out (hR.mono E) hbp hmax hik)
        have DL := Lib.hid (fun n => length_dgs bs n)
        have DZ := Lib.hid (dgs_zero bs)
        have PQ := Lib.hid (fun m => prodN_pos (bs := bs.drop (m + 1)) (fun b hb => hbp b (List.mem_of_mem_drop hb)))
        have DD := Lib.hid (fun n m (hm : m < bs.length) (hn : n < prodN bs) => dgs_lt hm hbp hn)
        have PD := Lib.hid (fun m => prodN_drop hbp (m + 1))
        have HBM := Lib.hid hbm
        obtain ⟨_, _, hov, _, hoc⟩ := SlA.outN hso
        rw [hbl] at hov
        cases hov
        have OC := Lib.hid hoc
        clear hbp hbm hR NW hE hE2 ho HF HSZ hy1 hso hoc hlen
        generalize hSS : prodN bs = S at *
        clear hSS
        simp only [hbl] at DG BN I3 SZ BS IX SI SO DL DZ
        have E3 := BN
        obtain ⟨f0, f1, f2⟩ := I3.cell
        go_wp2_with fail
        refine (SZ.out _ BN).mono ?_
        rintro e w3 ⟨rfl, h3⟩
        have E3 := ext_trans BN h3
        obtain ⟨f0, f1, f2⟩ := (I3.mono h3).cell
        go_wp2_with fail
        refine (BS.out _ E3).mono ?_
        rintro e w4 ⟨r4, rfl, g4, h4⟩
        have E4 := ext_trans E3 h4
        go_wp2_with fail
        refine (SM.out _ E4 _ g4).mono ?_
        rintro e w5 ⟨rfl, h5⟩
        have E5 := ext_trans E4 h5
        have I5 := I3.mono (ext_trans h3 (ext_trans h4 h5))
        clear g4 h3 h4 h5 E3 E4 f0 f1 f2 I3 BN SZ BS
        go_wp2_with (refine wpList_make_sl _ rfl _ _ 22 rfl w5.heap.size eInt (.int .i64 0) 8 elemInt rfl .i64 .i64 (6 : Nat) (6 : Nat) 6 rfl rfl rfl rfl (by omega) (by unfold maxLen; omega) (Nat.le_refl _) ?_; intro w6 hown6 hgrow6)
        have h6 := grown_ext hgrow6
        have E6 := ext_trans E5 h6
        have I6 := I5.mono h6
        have g6 : SlA w6 (.slice (some ⟨w5.heap.size, 0, none⟩) 6 6) (ds (dgs bs 0)) := by
          have := (Sl.of_own hown6).any
          rw [DZ.out]
          simpa [ds] using this
        clear hown6 hgrow6 I5 E5 h6
        go_loopw [13, 77] (fun row t wr => ∃ n : Nat, n ≤ S ∧ t = .int .i64 n ∧ SlA wr row (ds (dgs bs (if n < S then n else 0))) ∧ Below w6.heap.size w6 wr)
          (fun _ t _ => S - (intOf t).toNat)
        case atStart => exact ⟨0, Nat.zero_le _, rfl, by rw [if_pos (show 0 < S by omega)]; exact g6, Below.refl _ _⟩
        case round =>
          clear g6
          obtain ⟨n, hn, rfl, g, hEr⟩ := hrel
          have ER := ext_trans E6 hEr
          have IR := I6.mono hEr
          by_cases hnS : n < S
          · rw [if_pos hnS] at g
            obtain ⟨f0, f1, f2⟩ := IR.cell
            obtain ⟨ar, cr, rfl, hcr, _⟩ := SlA.outN g
            rw [DL.out] at hcr ⊢
            have DG1 := Lib.hid (fun W E => DG.out W E (n : Int))
            rw [decide_eq_true (show 0 ≤ (n : Int) ∧ (n : Int) < (S : Int) by omega)] at DG1
            go_wp2_with fail
            refine (IX.out _ ER n hnS _ (by have := g; rw [DL.out] at this; exact this)).mono ?_
            rintro e w7 ⟨rfl, h7⟩
            obtain ⟨f0, f1, f2⟩ := (IR.mono h7).cell
            go_wp2_with fail
            refine (DG1.out _ (ext_trans ER h7)).mono ?_
            rintro e w8 ⟨r8, rfl, h8, g8, _⟩
            have g8 := (g8 ⟨by omega, by omega⟩).1
            rw [Int.toNat_natCast] at g8
            go_wp2_with fail
            have gr8 := g.mono (ext_trans h7 h8)
            have e8 : SlA w8 (.slice ar 6 cr) (ds (dgs bs n)) := by have := gr8; rw [DL.out] at this; exact this
            refine (same23_ok g8 e8 rfl (by rw [DL.out]; omega)).mono ?_
            rintro e w9 ⟨rfl, h9⟩
            have E9 := ext_trans ER (ext_trans h7 (ext_trans h8 h9))
            have e9 := e8.mono h9
            go_wp2_with fail
            refine (RI.out _ E9 n hnS _ e9).mono ?_
            rintro e w10 ⟨rfl, h10⟩
            have E10 := ext_trans E9 h10
            have e10 := e9.mono h10
            have I10 := IR.mono (ext_trans h7 (ext_trans h8 (ext_trans h9 h10)))
            have h10r := ext_trans h7 (ext_trans h8 (ext_trans h9 h10))
            clear g8 e8 e9 E9 gr8 g h7 h8 h9 h10 f0 f1 f2 DG1
            go_wp2_with fail
            go_loopw [118] (fun t wm => ∃ m : Nat, m ≤ 6 ∧ t = .int .i64 m ∧ Below w10.heap.size w10 wm)
              (fun t _ => 6 - (intOf t).toNat)
            case atStart => exact ⟨0, Nat.zero_le _, rfl, Below.refl _ _⟩
            case round =>
              obtain ⟨m, hm, rfl, hEm⟩ := hrel
              have EM := ext_trans E10 hEm
              have em := e10.mono hEm
              by_cases hmK : m < 6
              · have hmb : m < bs.length := by omega
                obtain ⟨q1, o1, rfl, hq1, k1⟩ := OC.out m hmb
                have k1 := (EM.cell (p := ⟨q1, o1 + m, none⟩) hq1).trans k1
                have SIm := Lib.hid (fun W E => SI.out W E n m hnS hmK)
                have RUm := Lib.hid (fun W E hd u g => RU.out W E n m hnS hmb hd u g)
                have hdb := DD.out n m hmb hnS
                have hb4 := HBM.out _ (List.getElem_mem hmb)
                have hQ1 := PQ.out m
                have hQS := PD.out m
                have hlD : (dgs bs n).length = 6 := DL.out n
                have HDS := Lib.hid (show ∀ (h : m < (dgs bs n).length), (dgs bs n)[m] = (dgs bs n)[m]'h from fun _ => rfl)
                have hdd : ∃ d, d = (dgs bs n)[m]'(by omega) := ⟨_, rfl⟩
                obtain ⟨d, hd0⟩ := hdd
                rw [← hd0] at SIm RUm hdb
                have HD0 := Lib.hid hd0
                clear hd0 HDS
                generalize bs[m] = b at *
                generalize prodN (bs.drop (m + 1)) = Q at *
                obtain ⟨M, hM⟩ : ∃ M, M = n + Q := ⟨_, rfl⟩
                rw [← hM] at SIm RUm
                have hMn : n < M := by omega
                have hMc : M < 1073741824 * 2 := by omega
                clear hM hQ1 hQS
                go_wp2_with (at_builtin; refine wpList_append_sl rfl _ _ 22 rfl wr.heap.size eInt _ 8 elemInt (.slice (some ⟨wr.heap.size, 0, none⟩) 0 0) 0 [] rfl (own_empty _ _) _ (ds (dgs bs n)) rfl (em.mono (below_new _)) (by intro u hu; obtain ⟨d, _, rfl⟩ := List.mem_map.1 hu; rfl) (by rw [length_ds, hlD]; unfold maxLen; omega) (by rw [length_ds, hlD]; omega) (by simp) ?_; intro v' w' hown' hgrow; rw [length_ds, Nat.zero_add, List.nil_append, hlD] at hown'; obtain ⟨a6, c6, rfl, _⟩ := SlA.outN (Sl.of_own hown').any; rw [hlD] at hown' ⊢; obtain ⟨g, rfl, hg⟩ := own_addr hown' (by omega); obtain ⟨hcu, hfu⟩ := own_at hown' (j := m) (by rw [length_ds, hlD]; omega); rw [ds_getElem _ _ (by rw [hlD]; omega), ← HD0.out] at hcu; have hbg := (below_new (w := wr) (.cells #[] eInt)).grown hgrow (by simp) (fun k hk => Nat.le_of_eq (Option.some.inj hk)); have hEst := below_put (off := m) (u := .int .i64 ((d : Int) + 1)) hbg hg; have IS := I10.mono (hEm.trans (hEst.mono hEm.size)); obtain ⟨f0, f1, f2⟩ := IS.cell)
                have hup := (hown'.stored m (.int .i64 ((d : Int) + 1))).1
                have hset : (ds (dgs bs n)).set m (.int .i64 ((d : Int) + 1)) = ds ((dgs bs n).set m (d + 1)) := by rw [← ds_set]; rfl
                rw [hset] at hup
                have gup := (Sl.of_own hup).any
                have hE10 := hEm.trans (hEst.mono hEm.size)
                have k1' := cellE hEst k1
                have hcu' := (own_at hup (j := m) (by simp [hlD]; omega)).1
                rw [ds_getElem _ _ (by simp [hlD]; omega), List.getElem_set_self] at hcu'
                clear hown' hgrow hbg hcu hfu k1 hset hup
                generalize (World.setCell _ _ _) = W12 at *
                by_cases hd : d + 1 < b
                · have S1 := SIm.out W12 (ext_trans EM hEst)
                  rw [if_pos hd, decide_eq_true hd] at S1
                  refine S1.mono ?_
                  rintro e w13 ⟨rfl, h13⟩
                  have hd1 : decide ((d : Int) + 1 < (b : Int)) = true := decide_eq_true (by omega)
                  have hd2 : decide (d + 1 < b) = true := decide_eq_true hd
                  have hm1 : decide ((M : Int) ≤ (n : Int)) = false := decide_eq_false (by omega)
                  have hm2 : decide (M ≤ n) = false := decide_eq_false (by omega)
                  have kE0 := ext_drew w13
                  go_wp2_with fail
                  refine wp_region_E (Array.replicate 34 true) 34 0 mixed (by rfl) ?_
                  have hg0 := Gr.cell (ext_trans h13 kE0) k1'
                  have hg1 := Gr.cell (ext_trans h13 kE0) hcu'
                  refine wpE_seg' [0, 1, 2, 3, 4, 5, 6, 7, 8, 9, 10, 11, 12, 13, 14, 15, 16] 17 rfl (by kernel_rfl) ?_
                  refine seg_ex ?_
                  iterate 17 (refine ex_cons rfl ?_)
                  refine ex_nil ?_
                  iterate 17 (go_big_quiet_step (rfl))
                  refine seg_nil ?_
                  clear hg0 hg1
                  refine wpE_one 17 (by kernel_rfl) rfl ?_
                  go_wp2_with fail
                  refine (RUm.out _ (ext_trans EM (ext_trans hEst (ext_trans h13 kE0))) hd _ (gup.mono (ext_trans h13 kE0))).mono ?_
                  rintro e k1w ⟨rfl, k1b⟩
                  go_wp2_with fail
                  refine QE_intro k1b ?_
                  refine wpE_seg' [18, 19, 20, 21, 22, 23, 24, 25, 26, 27, 28, 29, 30, 31, 32, 33] 0 rfl (by kernel_rfl) ?_
                  refine seg_ex ?_
                  iterate 16 (refine ex_cons rfl ?_)
                  refine ex_nil ?_
                  iterate 16 (go_big_quiet_step (rfl))
                  refine seg_nil ?_
                  refine wpE_tail [] (by kernel_rfl) ?_
                  refine tail_nil ?_
                  go_wp2_with fail
                  go_roundw
                  case rel => exact ⟨m + 1, by omega, rfl, hE10.trans ((ext_trans h13 (ext_trans kE0 k1b)).mono hE10.size)⟩
                  case measure => simp [intOf]; omega
                · have S1 := SIm.out W12 (ext_trans EM hEst)
                  rw [if_neg hd, decide_eq_false hd] at S1
                  refine S1.mono ?_
                  rintro e w13 ⟨rfl, h13⟩
                  have hd1 : decide ((d : Int) + 1 < (b : Int)) = false := decide_eq_false (by omega)
                  have hd2 : decide (d + 1 < b) = false := decide_eq_false hd
                  have kE0 := ext_drew w13
                  go_wp2_with fail
                  refine wp_region_E (Array.replicate 34 true) 34 0 mixed (by rfl) ?_
                  have hg0 := Gr.cell (ext_trans h13 kE0) k1'
                  have hg1 := Gr.cell (ext_trans h13 kE0) hcu'
                  refine wpE_seg' [0, 1, 2, 3, 4, 5, 6, 7, 8, 9, 10, 11, 12, 13, 14, 15, 16] 17 rfl (by kernel_rfl) ?_
                  refine seg_ex ?_
                  iterate 17 (refine ex_cons rfl ?_)
                  refine ex_nil ?_
                  iterate 17 (go_big_quiet_step (rfl))
                  refine seg_nil ?_
                  clear hg0 hg1
                  refine wpE_one 17 (by kernel_rfl) rfl ?_
                  go_wp2_with fail
                  refine QE_intro (Below.refl _ _) ?_
                  refine wpE_seg' [18, 19, 20, 21, 22, 23, 24, 25, 26, 27, 28, 29, 30, 31, 32, 33] 0 rfl (by kernel_rfl) ?_
                  refine seg_ex ?_
                  iterate 16 (refine ex_cons rfl ?_)
                  refine ex_nil ?_
                  iterate 16 (go_big_quiet_step (rfl))
                  refine seg_nil ?_
                  refine wpE_tail [] (by kernel_rfl) ?_
                  refine tail_nil ?_
                  go_wp2_with fail
                  go_roundw
                  case rel => exact ⟨m + 1, by omega, rfl, hE10.trans ((ext_trans h13 kE0).mono hE10.size)⟩
                  case measure => simp [intOf]; omega
              · obtain rfl : m = 6 := by omega
                go_wp2_with fail
                refine (NX.out _ EM n hnS _ em).mono ?_
                rintro e w12 ⟨r12, rfl, g12, h12⟩
                go_wp2_with fail
                go_roundw
                case rel => exact ⟨n + 1, by omega, rfl, g12, hEr.trans ((h10r.trans ((hEm.trans (h12.mono hEm.size)).mono h10r.size)).mono hEr.size)⟩
                case measure => simp [intOf]; omega
          · obtain rfl : S = n := by omega
            clear g IX RI RU NX
            obtain ⟨f0, f1, f2⟩ := IR.cell
            have EBR := EB.trans (ER.mono EB.size)
            obtain ⟨f0, f1, f2⟩ := IR.cell
            by_cases hin : 0 ≤ i ∧ i < (S : Int)
            · obtain ⟨a, rfl⟩ : ∃ a : Nat, i = a := ⟨i.toNat, by omega⟩
              have haS : a < S := by omega
              have hc1 : decide ((a : Int) < (S : Int)) = true := decide_eq_true (by omega)
              have hc2 : decide (a < S) = true := decide_eq_true haS
              have D1 := Lib.hid (fun W E => DG.out W E (a : Int))
              rw [decide_eq_true hin] at D1
              by_cases hkv : 0 ≤ j ∧ j < (6 : Nat)
              · obtain ⟨c, rfl⟩ : ∃ c : Nat, j = c := ⟨j.toNat, by omega⟩
                have hcK : c < 6 := by omega
                have hk1 : decide ((c : Int) < ((6 : Nat) : Int)) = true := decide_eq_true (by omega)
                have hk2 : decide (c < 6) = true := decide_eq_true hcK
                have S1 := Lib.hid (fun W E => SI.out W E a c haS hcK)
                generalize (dgs bs a)[c]'(by rw [DL.out]; exact hcK) = d at *
                have hcb : c < bs.length := by omega
                generalize bs[c]'hcb = b at *
                generalize prodN (bs.drop (c + 1)) = Q at *
                by_cases hd : d + 1 < b
                · rw [if_pos hd, decide_eq_true hd] at S1
                  clear hin hkv
                  go_wp2_with fail
                  refine (S1.out _ ER).mono ?_
                  rintro e w7 ⟨rfl, h7⟩
                  obtain ⟨f0, f1, f2⟩ := (IR.mono h7).cell
                  go_wp2_with fail
                  refine (D1.out _ (ext_trans ER h7)).mono ?_
                  rintro e w8 ⟨r8, rfl, h8, _, _⟩
                  go_wp2
                  go_ret
                  exact ⟨by first | (simp; done) | (simp; omega), EBR.trans ((ext_trans h7 h8).mono EBR.size)⟩
                · rw [if_neg hd, decide_eq_false hd] at S1
                  clear hin hkv
                  go_wp2_with fail
                  refine (S1.out _ ER).mono ?_
                  rintro e w7 ⟨rfl, h7⟩
                  obtain ⟨f0, f1, f2⟩ := (IR.mono h7).cell
                  go_wp2_with fail
                  refine (D1.out _ (ext_trans ER h7)).mono ?_
                  rintro e w8 ⟨r8, rfl, h8, _, _⟩
                  go_wp2
                  go_ret
                  exact ⟨by first | (simp; done) | (simp; omega), EBR.trans ((ext_trans h7 h8).mono EBR.size)⟩
              · have S1 := Lib.hid (fun W E => SO.out W E (a : Int) j (by omega))
                clear hin hkv
                go_wp2_with fail
                refine (S1.out _ ER).mono ?_
                rintro e w7 ⟨rfl, h7⟩
                obtain ⟨f0, f1, f2⟩ := (IR.mono h7).cell
                go_wp2_with fail
                refine (D1.out _ (ext_trans ER h7)).mono ?_
                rintro e w8 ⟨r8, rfl, h8, _, _⟩
                go_wp2
                go_ret
                exact ⟨by first | (simp; done) | (simp; omega), EBR.trans ((ext_trans h7 h8).mono EBR.size)⟩
            · have D1 := Lib.hid (fun W E => DG.out W E i)
              rw [decide_eq_false hin] at D1
              have S1 := Lib.hid (fun W E => SO.out W E i j (by omega))
              by_cases hi0 : 0 ≤ i
              · have hc0 : decide (0 ≤ i) = true := decide_eq_true hi0
                have hc1 : decide (i < (S : Int)) = false := decide_eq_false (by omega)
                go_wp2_with fail
                refine (S1.out _ ER).mono ?_
                rintro e w7 ⟨rfl, h7⟩
                obtain ⟨f0, f1, f2⟩ := (IR.mono h7).cell
                go_wp2_with fail
                refine (D1.out _ (ext_trans ER h7)).mono ?_
                rintro e w8 ⟨r8, rfl, h8, _, g8⟩
                have g8 := g8 hin
                subst g8
                go_wp2
                go_ret
                exact ⟨by first | (simp; done) | (simp; omega), EBR.trans ((ext_trans h7 h8).mono EBR.size)⟩
              · have hc0 : decide (0 ≤ i) = false := decide_eq_false hi0
                go_wp2_with fail
                refine (S1.out _ ER).mono ?_
                rintro e w7 ⟨rfl, h7⟩
                obtain ⟨f0, f1, f2⟩ := (IR.mono h7).cell
                go_wp2_with fail
                refine (D1.out _ (ext_trans ER h7)).mono ?_
                rintro e w8 ⟨r8, rfl, h8, _, g8⟩
                have g8 := g8 hin
                subst g8
                go_wp2
                go_ret
                exact ⟨by first | (simp; done) | (simp; omega), EBR.trans ((ext_trans h7 h8).mono EBR.size)⟩
      · obtain rfl : k = l.length := by omega
        go_wp2_with fail
        refine NW.out.mono ?_
        rintro e w2 ⟨r, e0, rfl, hE2, hr⟩
        have EB := hE.trans (hE2.mono hE.size)
        rcases hr with ⟨hmax, rfl, hR⟩ | ⟨hbig, _⟩
        case inr => exact absurd hbig (by omega)
        obtain ⟨a1, c1, a2, c2, rfl, _, _, _, hy1, _⟩ := hR.out
        have hso : SlA w2 (.slice xo l.length cpo) (ds bs) := by have := (Sl.of_own (own_ext ho hE2)).any; exact this
        have BN := below_new (w := w2) (.cells #[.slice a1 bs.length c1, .slice a2 bs.length c2, .int .i64 (prodN bs : Nat)] tRadix)
        have I3 : Is3 (w2.alloc (.cells #[.slice a1 bs.length c1, .slice a2 bs.length c2, .int .i64 (prodN bs : Nat)] tRadix)) w2.heap.size (.slice a1 bs.length c1) (.slice a2 bs.length c2) (.int .i64 (prodN bs : Nat)) tRadix := ⟨heap_alloc_new' _ _ _ rfl⟩
        have hlen : bs.length < 1099511627776 := by omega
        have SZ := Lib.hid (fun (W : World) (E : Below w2.heap.size w2 W) => size_ok (hR.mono E) hbp hmax)
        have BS := Lib.hid (fun (W : World) (E : Below w2.heap.size w2 W) => bases_ok (hR.mono E) hlen)
        have SM := Lib.hid (fun (W : World) (E : Below w2.heap.size w2 W) (u : Value) (g : SlA W u (ds bs)) => same23_ok g (hso.mono E) rfl hlen)
        have DG := Lib.hid (fun (W : World) (E : Below w2.heap.size w2 W) (n : Int) => digits_ok (hR.mono E) hbp hmax hlen n)
        have IX := Lib.hid (fun (W : World) (E : Below w2.heap.size w2 W) (n : Nat) (hn : n < prodN bs) (u : Value) (g : SlA W u (ds (dgs bs n))) => index_dgs (hR.mono E) hbp hmax hlen hn g)
        have RI := Lib.hid (fun (W : World) (E : Below w2.heap.size w2 W) (n : Nat) (hn : n < prodN bs) (u : Value) (g : SlA W u (ds (dgs bs n))) => refIndex_dgs (hso.mono E) hbp hmax hlen hn g)
        have RU := Lib.hid (fun (W : World) (E : Below w2.heap.size w2 W) (n m : Nat) (hn : n < prodN bs) (hm : m < bs.length) (hd : (dgs bs n)[m]'(by simpa using hm) + 1 < bs[m]) (u : Value) (g : SlA W u (ds ((dgs bs n).set m ((dgs bs n)[m]'(by simpa using hm) + 1)))) => refIndex_up (hso.mono E) hbp hmax hlen hn hm hd g)
        have NX := Lib.hid (fun (W : World) (E : Below w2.heap.size w2 W) (n : Nat) (hn : n < prodN bs) (u : Value) (g : SlA W u (ds (dgs bs n))) => next_dgs (hso.mono E) hbp (fun b hb => by have := hbm b hb; omega) hlen hn g)
        have SI := Lib.hid (fun (W : World) (E : Below w2.heap.size w2 W) (n m : Nat) (hn : n < prodN bs) (hm : m < bs.length) => step_in (hR.mono E) hbp hmax hn hm)
        have SO := Lib.hid (fun (W : World) (E : Below w2.heap.size w2 W) (i k : Int) (hik : ¬ ((0 ≤ i ∧ i < (prodN bs : Nat)) ∧ 0 ≤ k ∧ k < bs.length)) => step_out (hR.mono E) hbp hmax hik)
        have DL := Lib.hid (fun n => length_dgs bs n)
        have DZ := Lib.hid (dgs_zero bs)
        have PQ := Lib.hid (fun m => prodN_pos (bs := bs.drop (m + 1)) (fun b hb => hbp b (List.mem_of_mem_drop hb)))
        have DD := Lib.hid (fun n m (hm : m < bs.length) (hn : n < prodN bs) => dgs_lt hm hbp hn)
        have PD := Lib.hid (fun m => prodN_drop hbp (m + 1))
        have HBM := Lib.hid hbm
        obtain ⟨_, _, hov, _, hoc⟩ := SlA.outN hso
        rw [hbl] at hov
        cases hov
        have OC := Lib.hid hoc
        clear hbp hbm hR NW hE hE2 ho HF HSZ hy1 hso hoc hlen
        generalize hSS : prodN bs = S at *
        clear hSS
        simp only [hbl] at DG BN I3 SZ BS IX SI SO DL DZ
        have E3 := BN
        obtain ⟨f0, f1, f2⟩ := I3.cell
        go_wp2_with fail
        refine (SZ.out _ BN).mono ?_
        rintro e w3 ⟨rfl, h3⟩
        have E3 := ext_trans BN h3
        obtain ⟨f0, f1, f2⟩ := (I3.mono h3).cell
        go_wp2_with fail
        refine (BS.out _ E3).mono ?_
        rintro e w4 ⟨r4, rfl, g4, h4⟩
        have E4 := ext_trans E3 h4
        go_wp2_with fail
        refine (SM.out _ E4 _ g4).mono ?_
        rintro e w5 ⟨rfl, h5⟩
        have E5 := ext_trans E4 h5
        have I5 := I3.mono (ext_trans h3 (ext_trans h4 h5))
        clear g4 h3 h4 h5 E3 E4 f0 f1 f2 I3 BN SZ BS
        go_wp2_with (refine wpList_make_sl _ rfl _ _ 22 rfl w5.heap.size eInt (.int .i64 0) 8 elemInt rfl .i64 .i64 (l.length : Nat) (l.length : Nat) l.length rfl rfl rfl rfl (by omega) (by unfold maxLen; omega) (Nat.le_refl _) ?_; intro w6 hown6 hgrow6)
        have h6 := grown_ext hgrow6
        have E6 := ext_trans E5 h6
        have I6 := I5.mono h6
        have g6 : SlA w6 (.slice (some ⟨w5.heap.size, 0, none⟩) l.length l.length) (ds (dgs bs 0)) := by
          have := (Sl.of_own hown6).any
          rw [DZ.out]
          simpa [ds] using this
        clear hown6 hgrow6 I5 E5 h6
        go_loopw [13, 77] (fun row t wr => ∃ n : Nat, n ≤ S ∧ t = .int .i64 n ∧ SlA wr row (ds (dgs bs (if n < S then n else 0))) ∧ Below w6.heap.size w6 wr)
          (fun _ t _ => S - (intOf t).toNat)
        case atStart => exact ⟨0, Nat.zero_le _, rfl, by rw [if_pos (show 0 < S by omega)]; exact g6, Below.refl _ _⟩
        case round =>
          clear g6
          obtain ⟨n, hn, rfl, g, hEr⟩ := hrel
          have ER := ext_trans E6 hEr
          have IR := I6.mono hEr
          by_cases hnS : n < S
          · rw [if_pos hnS] at g
            obtain ⟨f0, f1, f2⟩ := IR.cell
            obtain ⟨ar, cr, rfl, hcr, _⟩ := SlA.outN g
            rw [DL.out] at hcr ⊢
            have DG1 := Lib.hid (fun W E => DG.out W E (n : Int))
            rw [decide_eq_true (show 0 ≤ (n : Int) ∧ (n : Int) < (S : Int) by omega)] at DG1
            go_wp2_with fail
            refine (IX.out _ ER n hnS _ (by have := g; rw [DL.out] at this; exact this)).mono ?_
            rintro e w7 ⟨rfl, h7⟩
            obtain ⟨f0, f1, f2⟩ := (IR.mono h7).cell
            go_wp2_with fail
            refine (DG1.out _ (ext_trans ER h7)).mono ?_
            rintro e w8 ⟨r8, rfl, h8, g8, _⟩
            have g8 := (g8 ⟨by omega, by omega⟩).1
            rw [Int.toNat_natCast] at g8
            go_wp2_with fail
            have gr8 := g.mono (ext_trans h7 h8)
            have e8 : SlA w8 (.slice ar l.length cr) (ds (dgs bs n)) := by have := gr8; rw [DL.out] at this; exact this
            refine (same23_ok g8 e8 rfl (by rw [DL.out]; omega)).mono ?_
            rintro e w9 ⟨rfl, h9⟩
            have E9 := ext_trans ER (ext_trans h7 (ext_trans h8 h9))
            have e9 := e8.mono h9
            go_wp2_with fail
            refine (RI.out _ E9 n hnS _ e9).mono ?_
            rintro e w10 ⟨rfl, h10⟩
            have E10 := ext_trans E9 h10
            have e10 := e9.mono h10
            have I10 := IR.mono (ext_trans h7 (ext_trans h8 (ext_trans h9 h10)))
            have h10r := ext_trans h7 (ext_trans h8 (ext_trans h9 h10))
            clear g8 e8 e9 E9 gr8 g h7 h8 h9 h10 f0 f1 f2 DG1
            go_wp2_with fail
            go_loopw [118] (fun t wm => ∃ m : Nat, m ≤ l.length ∧ t = .int .i64 m ∧ Below w10.heap.size w10 wm)
              (fun t _ => l.length - (intOf t).toNat)
            case atStart => exact ⟨0, Nat.zero_le _, rfl, Below.refl _ _⟩
            case round =>
              obtain ⟨m, hm, rfl, hEm⟩ := hrel
              have EM := ext_trans E10 hEm
              have em := e10.mono hEm
              by_cases hmK : m < l.length
              · have hmb : m < bs.length := by omega
                obtain ⟨q1, o1, rfl, hq1, k1⟩ := OC.out m hmb
                have k1 := (EM.cell (p := ⟨q1, o1 + m, none⟩) hq1).trans k1
                have SIm := Lib.hid (fun W E => SI.out W E n m hnS hmK)
                have RUm := Lib.hid (fun W E hd u g => RU.out W E n m hnS hmb hd u g)
                have hdb := DD.out n m hmb hnS
                have hb4 := HBM.out _ (List.getElem_mem hmb)
                have hQ1 := PQ.out m
                have hQS := PD.out m
                have hlD : (dgs bs n).length = l.length := DL.out n
                have HDS := Lib.hid (show ∀ (h : m < (dgs bs n).length), (dgs bs n)[m] = (dgs bs n)[m]'h from fun _ => rfl)
                have hdd : ∃ d, d = (dgs bs n)[m]'(by omega) := ⟨_, rfl⟩
                obtain ⟨d, hd0⟩ := hdd
                rw [← hd0] at SIm RUm hdb
                have HD0 := Lib.hid hd0
                clear hd0 HDS
                generalize bs[m] = b at *
                generalize prodN (bs.drop (m + 1)) = Q at *
                obtain ⟨M, hM⟩ : ∃ M, M = n + Q := ⟨_, rfl⟩
                rw [← hM] at SIm RUm
                have hMn : n < M := by omega
                have hMc : M < 1073741824 * 2 := by omega
                clear hM hQ1 hQS
                go_wp2_with (at_builtin; refine wpList_append_sl rfl _ _ 22 rfl wr.heap.size eInt _ 8 elemInt (.slice (some ⟨wr.heap.size, 0, none⟩) 0 0) 0 [] rfl (own_empty _ _) _ (ds (dgs bs n)) rfl (em.mono (below_new _)) (by intro u hu; obtain ⟨d, _, rfl⟩ := List.mem_map.1 hu; rfl) (by rw [length_ds, hlD]; unfold maxLen; omega) (by rw [length_ds, hlD]; omega) (by simp) ?_; intro v' w' hown' hgrow; rw [length_ds, Nat.zero_add, List.nil_append, hlD] at hown'; obtain ⟨a6, c6, rfl, _⟩ := SlA.outN (Sl.of_own hown').any; rw [hlD] at hown' ⊢; obtain ⟨g, rfl, hg⟩ := own_addr hown' (by omega); obtain ⟨hcu, hfu⟩ := own_at hown' (j := m) (by rw [length_ds, hlD]; omega); rw [ds_getElem _ _ (by rw [hlD]; omega), ← HD0.out] at hcu; have hbg := (below_new (w := wr) (.cells #[] eInt)).grown hgrow (by simp) (fun k hk => Nat.le_of_eq (Option.some.inj hk)); have hEst := below_put (off := m) (u := .int .i64 ((d : Int) + 1)) hbg hg; have IS := I10.mono (hEm.trans (hEst.mono hEm.size)); obtain ⟨f0, f1, f2⟩ := IS.cell)
                have hup := (hown'.stored m (.int .i64 ((d : Int) + 1))).1
                have hset : (ds (dgs bs n)).set m (.int .i64 ((d : Int) + 1)) = ds ((dgs bs n).set m (d + 1)) := by rw [← ds_set]; rfl
                rw [hset] at hup
                have gup := (Sl.of_own hup).any
                have hE10 := hEm.trans (hEst.mono hEm.size)
                have k1' := cellE hEst k1
                have hcu' := (own_at hup (j := m) (by simp [hlD]; omega)).1
                rw [ds_getElem _ _ (by simp [hlD]; omega), List.getElem_set_self] at hcu'
                clear hown' hgrow hbg hcu hfu k1 hset hup
                generalize (World.setCell _ _ _) = W12 at *
                by_cases hd : d + 1 < b
                · have S1 := SIm.out W12 (ext_trans EM hEst)
                  rw [if_pos hd, decide_eq_true hd] at S1
                  refine S1.mono ?_
                  rintro e w13 ⟨rfl, h13⟩
                  have hd1 : decide ((d : Int) + 1 < (b : Int)) = true := decide_eq_true (by omega)
                  have hd2 : decide (d + 1 < b) = true := decide_eq_true hd
                  have hm1 : decide ((M : Int) ≤ (n : Int)) = false := decide_eq_false (by omega)
                  have hm2 : decide (M ≤ n) = false := decide_eq_false (by omega)
                  have kE0 := ext_drew w13
                  go_wp2_with fail
                  refine wp_region_E (Array.replicate 34 true) 34 0 mixed (by rfl) ?_
                  have hg0 := Gr.cell (ext_trans h13 kE0) k1'
                  have hg1 := Gr.cell (ext_trans h13 kE0) hcu'
                  refine wpE_seg' [0, 1, 2, 3, 4, 5, 6, 7, 8, 9, 10, 11, 12, 13, 14, 15, 16] 17 rfl (by kernel_rfl) ?_
                  refine seg_ex ?_
                  iterate 17 (refine ex_cons rfl ?_)
                  refine ex_nil ?_
                  iterate 17 (go_big_quiet_step (rfl))
                  refine seg_nil ?_
                  clear hg0 hg1
                  refine wpE_one 17 (by kernel_rfl) rfl ?_
                  go_wp2_with fail
                  refine (RUm.out _ (ext_trans EM (ext_trans hEst (ext_trans h13 kE0))) hd _ (gup.mono (ext_trans h13 kE0))).mono ?_
                  rintro e k1w ⟨rfl, k1b⟩
                  go_wp2_with fail
                  refine QE_intro k1b ?_
                  refine wpE_seg' [18, 19, 20, 21, 22, 23, 24, 25, 26, 27, 28, 29, 30, 31, 32, 33] 0 rfl (by kernel_rfl) ?_
                  refine seg_ex ?_
                  iterate 16 (refine ex_cons rfl ?_)
                  refine ex_nil ?_
                  iterate 16 (go_big_quiet_step (rfl))
                  refine seg_nil ?_
                  refine wpE_tail [] (by kernel_rfl) ?_
                  refine tail_nil ?_
                  go_wp2_with fail
                  go_roundw
                  case rel => exact ⟨m + 1, by omega, rfl, hE10.trans ((ext_trans h13 (ext_trans kE0 k1b)).mono hE10.size)⟩
                  case measure => simp [intOf]; omega
                · have S1 := SIm.out W12 (ext_trans EM hEst)
                  rw [if_neg hd, decide_eq_false hd] at S1
                  refine S1.mono ?_
                  rintro e w13 ⟨rfl, h13⟩
                  have hd1 : decide ((d : Int) + 1 < (b : Int)) = false := decide_eq_false (by omega)
                  have hd2 : decide (d + 1 < b) = false := decide_eq_false hd
                  have kE0 := ext_drew w13
                  go_wp2_with fail
                  refine wp_region_E (Array.replicate 34 true) 34 0 mixed (by rfl) ?_
                  have hg0 := Gr.cell (ext_trans h13 kE0) k1'
                  have hg1 := Gr.cell (ext_trans h13 kE0) hcu'
                  refine wpE_seg' [0, 1, 2, 3, 4, 5, 6, 7, 8, 9, 10, 11, 12, 13, 14, 15, 16] 17 rfl (by kernel_rfl) ?_
                  refine seg_ex ?_
                  iterate 17 (refine ex_cons rfl ?_)
                  refine ex_nil ?_
                  iterate 17 (go_big_quiet_step (rfl))
                  refine seg_nil ?_
                  clear hg0 hg1
                  refine wpE_one 17 (by kernel_rfl) rfl ?_
                  go_wp2_with fail
                  refine QE_intro (Below.refl _ _) ?_
                  refine wpE_seg' [18, 19, 20, 21, 22, 23, 24, 25, 26, 27, 28, 29, 30, 31, 32, 33] 0 rfl (by kernel_rfl) ?_
                  refine seg_ex ?_
                  iterate 16 (refine ex_cons rfl ?_)
                  refine ex_nil ?_
                  iterate 16 (go_big_quiet_step (rfl))
                  refine seg_nil ?_
                  refine wpE_tail [] (by kernel_rfl) ?_
                  refine tail_nil ?_
                  go_wp2_with fail
                  go_roundw
                  case rel => exact ⟨m + 1, by omega, rfl, hE10.trans ((ext_trans h13 kE0).mono hE10.size)⟩
                  case measure => simp [intOf]; omega
              · obtain rfl : m = l.length := by omega
                go_wp2_with fail
                refine (NX.out _ EM n hnS _ em).mono ?_
                rintro e w12 ⟨r12, rfl, g12, h12⟩
                go_wp2_with fail
                go_roundw
                case rel => exact ⟨n + 1, by omega, rfl, g12, hEr.trans ((h10r.trans ((hEm.trans (h12.mono hEm.size)).mono h10r.size)).mono hEr.size)⟩
                case measure => simp [intOf]; omega
          · obtain rfl : S = n := by omega
            clear g IX RI RU NX
            obtain ⟨f0, f1, f2⟩ := IR.cell
            have EBR := EB.trans (ER.mono EB.size)
            obtain ⟨f0, f1, f2⟩ := IR.cell
            by_cases hin : 0 ≤ i ∧ i < (S : Int)
            · obtain ⟨a, rfl⟩ : ∃ a : Nat, i = a := ⟨i.toNat, by omega⟩
              have haS : a < S := by omega
              have hc1 : decide ((a : Int) < (S : Int)) = true := decide_eq_true (by omega)
              have hc2 : decide (a < S) = true := decide_eq_true haS
              have D1 := Lib.hid (fun W E => DG.out W E (a : Int))
              rw [decide_eq_true hin] at D1
              by_cases hkv : 0 ≤ j ∧ j < (l.length : Nat)
              · obtain ⟨c, rfl⟩ : ∃ c : Nat, j = c := ⟨j.toNat, by omega⟩
                have hcK : c < l.length := by omega
                have hk1 : decide ((c : Int) < ((l.length : Nat) : Int)) = true := decide_eq_true (by omega)
                have hk2 : decide (c < l.length) = true := decide_eq_true hcK
                have S1 := Lib.hid (fun W E => SI.out W E a c haS hcK)
                generalize (dgs bs a)[c]'(by rw [DL.out]; exact hcK) = d at *
                have hcb : c < bs.length := by omega
                generalize bs[c]'hcb = b at *
                generalize prodN (bs.drop (c + 1)) = Q at *
                by_cases hd : d + 1 < b
                · rw [if_pos hd, decide_eq_true hd] at S1
                  clear hin hkv
                  go_wp2_with fail
                  refine (S1.out _ ER).mono ?_
                  rintro e w7 ⟨rfl, h7⟩
                  obtain ⟨f0, f1, f2⟩ := (IR.mono h7).cell
                  go_wp2_with fail
                  refine (D1.out _ (ext_trans ER h7)).mono ?_
                  rintro e w8 ⟨r8, rfl, h8, _, _⟩
                  go_wp2
                  go_ret
                  exact ⟨by first | (simp; done) | (simp; omega), EBR.trans ((ext_trans h7 h8).mono EBR.size)⟩
                · rw [if_neg hd, decide_eq_false hd] at S1
                  clear hin hkv
                  go_wp2_with fail
                  refine (S1.out _ ER).mono ?_
                  rintro e w7 ⟨rfl, h7⟩
                  obtain ⟨f0, f1, f2⟩ := (IR.mono h7).cell
                  go_wp2_with fail
                  refine (D1.out _ (ext_trans ER h7)).mono ?_
                  rintro e w8 ⟨r8, rfl, h8, _, _⟩
                  go_wp2
                  go_ret
                  exact ⟨by first | (simp; done) | (simp; omega), EBR.trans ((ext_trans h7 h8).mono EBR.size)⟩
              · have S1 := Lib.hid (fun W E => SO.out W E (a : Int) j (by omega))
                clear hin hkv
                go_wp2_with fail
                refine (S1.out _ ER).mono ?_
                rintro e w7 ⟨rfl, h7⟩
                obtain ⟨f0, f1, f2⟩ := (IR.mono h7).cell
                go_wp2_with fail
                refine (D1.out _ (ext_trans ER h7)).mono ?_
                rintro e w8 ⟨r8, rfl, h8, _, _⟩
                go_wp2
                go_ret
                exact ⟨by first | (simp; done) | (simp; omega), EBR.trans ((ext_trans h7 h8).mono EBR.size)⟩
            · have D1 := Lib.hid (fun W E => DG.out W E i)
              rw [decide_eq_false hin] at D1
              have S1 := Lib.hid (fun W E => SO.out W E i j (by omega))
              by_cases hi0 : 0 ≤ i
              · have hc0 : decide (0 ≤ i) = true := decide_eq_true hi0
                have hc1 : decide (i < (S : Int)) = false := decide_eq_false (by omega)
                go_wp2_with fail
                refine (S1.out _ ER).mono ?_
                rintro e w7 ⟨rfl, h7⟩
                obtain ⟨f0, f1, f2⟩ := (IR.mono h7).cell
                go_wp2_with fail
                refine (D1.out _ (ext_trans ER h7)).mono ?_
                rintro e w8 ⟨r8, rfl, h8, _, g8⟩
                have g8 := g8 hin
                subst g8
                go_wp2
                go_ret
                exact ⟨by first | (simp; done) | (simp; omega), EBR.trans ((ext_trans h7 h8).mono EBR.size)⟩
              · have hc0 : decide (0 ≤ i) = false := decide_eq_false hi0
                go_wp2_with fail
                refine (S1.out _ ER).mono ?_
                rintro e w7 ⟨rfl, h7⟩
                obtain ⟨f0, f1, f2⟩ := (IR.mono h7).cell
                go_wp2_with fail
                refine (D1.out _ (ext_trans ER h7)).mono ?_
                rintro e w8 ⟨r8, rfl, h8, _, g8⟩
                have g8 := g8 hin
                subst g8
                go_wp2
                go_ret
                exact ⟨by first | (simp; done) | (simp; omega), EBR.trans ((ext_trans h7 h8).mono EBR.size)⟩
end Go.Proofs.Ytcabmibcgedhhaa

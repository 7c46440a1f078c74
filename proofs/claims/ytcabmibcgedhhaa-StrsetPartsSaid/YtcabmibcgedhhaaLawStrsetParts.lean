/-
  The walk of the law StrsetParts. (Written by genStrsetParts.py.)
-/
import Derived.Test.YtcabmibcgedhhaaStrA
import Derived.Test.YtcabmibcgedhhaaStrB
import Derived.Test.YtcabmibcgedhhaaStr8
namespace Go.Proofs.Ytcabmibcgedhhaa
open Go.RowKit Go.Cd

theorem isT_yes {w : World} {v u : Value} {m : List Txt} (h : SetV w v m) (hu : SlA w u (txs m)) (hmax : m.length < 1099511627776) :
    Calls Try.prog 59 #[v, u] w fun e w' => e = .returned (.bool true) ∧ Below w.heap.size w w' :=
  (isT_ok h hu hmax).mono fun _ _ ⟨he, hw⟩ => ⟨by rw [he, decide_eq_true rfl], hw⟩

theorem filter_take_succ {p : Txt → Bool} {l : List Txt} {j : Nat} (hj : j < l.length) : (l.take (j + 1)).filter p = (l.take j).filter p ++ if p l[j] = true then [l[j]] else [] := by
  rw [List.take_succ_eq_append_getElem hj, List.filter_append]
  congr 1
  by_cases h : p l[j] = true <;> simp [h]

set_option maxRecDepth 100000 in
set_option maxHeartbeats 12800000 in
theorem strsetParts_law {w : World} {v : Value} {l : List Txt} (f0 t0 : Txt) (h : SlA w v (txs l)) :
    Calls Try.prog 16 #[v, .string (sv f0), .string (sv t0)] w fun e w' => e = .returned (.bool true) ∧ Below w.heap.size w w' := by
  obtain ⟨a, cap, rfl, _, _⟩ := SlA.outT h
  have AW := Lib.hid (awake7_ok (w := w))
  have FE := fun (W : World) (E : Below w.heap.size w W) => Lib.hid (fewT_ok (h.mono E))
  clear h
  go_enter Try.func16, Try.ntmps16
  go_wp2_with fail
  refine AW.out.mono ?_
  rintro e w1 ⟨rfl, h1⟩
  have FE' := FE _ h1
  clear AW FE
  go_wp2_with fail
  refine FE'.out.mono ?_
  rintro e w2 ⟨r2, L, rfl, o2, hL, h2⟩
  have hE2 := h1.trans (h2.mono h1.size)
  have sL := (Sl.of_own o2).any
  obtain ⟨nL, hnL⟩ : ∃ n, n = L.length := ⟨_, rfl⟩
  obtain ⟨aL, cL, rfl, _, _⟩ := SlA.outTn sL hnL
  have HL := Lib.hid hL
  have SL := Lib.hid sL
  have C1 := Lib.hid (cut05_ok (w := w2) f0 30 (by omega))
  have C2 := Lib.hid (cut05_ok (w := w2) t0 30 (by omega))
  have OF := Lib.hid (of_set sL (by omega))
  clear FE' o2 hL h1 h2 sL hnL
  go_wp2_with fail
  refine C1.out.mono ?_
  rintro e w3 ⟨rfl, rfl⟩
  go_wp2_with fail
  refine C2.out.mono ?_
  rintro e w2 ⟨rfl, rfl⟩
  generalize f0.take 30 = f
  generalize t0.take 30 = t
  clear C1 C2
  go_wp2_with fail
  refine OF.out.mono ?_
  rintro e w4 ⟨r4, S, rfl, s4, hi, hm4, hl4, h4⟩
  have hE4 := hE2.trans (h4.mono hE2.size)
  obtain ⟨aS, nS, cS, rfl, sS, hnS⟩ := s4.out
  have HS4 := Lib.hid s4
  have HNS := Lib.hid hnS
  have HI := Lib.hid hi
  have HM4 := Lib.hid hm4
  have hnS40 : nS ≤ 40 := by have := HL.out; omega
  clear OF s4 sS hi hm4 hnS hl4
  obtain ⟨W5, hW5⟩ : ∃ W5, W5 = w4.alloc (.cells #[.slice aS nS cS] tSet) := ⟨_, rfl⟩
  have c5 : W5.cell? ⟨w4.heap.size, 0, none⟩ = some (.slice aS nS cS) := by subst hW5; unfold World.cell?; rw [heap_alloc_new]; rfl
  have hb5 : Below w4.heap.size w4 W5 := by subst hW5; exact below_new _
  obtain ⟨W6, hW6⟩ : ∃ W6, W6 = W5.alloc (.cells #[.int .i64 1] 3) := ⟨_, rfl⟩
  have hb6 : Below w4.heap.size w4 W6 := by subst hW6; exact ext_trans hb5 (below_new _)
  have c6 : W6.cell? ⟨w4.heap.size, 0, none⟩ = some (.slice aS nS cS) := by subst hW6; exact cellE (below_new _) c5
  have k6 : SlA W6 (.slice (some ⟨w4.heap.size + 1, 0, none⟩) 1 1) (nis [1]) := by subst hW6; have := sla_new W5 #[.int .i64 1] 3; rw [show W5.heap.size = w4.heap.size + 1 by rw [hW5]; simp] at this; exact this
  have hE6 := hE4.trans (hb6.mono hE4.size)
  have SO := Lib.hid (sorted_ok (b := []) (ks := [1]) ((SL.out.mono h4).mono hb6) (sla_none W6) k6 (by have := HL.out; omega) (by simp) (by simp))
  rw [hW5] at hW6
  clear hW5 c5 hb5 k6
  go_wp2_with fail
  rw [← hW6]
  clear hW6
  refine SO.out.mono ?_
  rintro e w7 ⟨r7, M, rfl, s7, hM, _, h7⟩
  have hMS : M = S := inc_ext _ _ hM.1 HI.out (fun x => (mgs_one hM x).trans (HM4.out x).symm)
  subst hMS
  obtain ⟨a7, c7', rfl, _, hx7⟩ := SlA.outTn s7 HNS.out
  have HX7 := Lib.hid hx7
  have hE7 := hE6.trans (h7.mono hE6.size)
  have hE47 := hb6.trans (h7.mono hb6.size)
  have c7 := cellE h7 c6
  clear SO hM s7 hx7 h7 c6 hb6 hE6
  obtain ⟨p1, hp1⟩ : ∃ p : Txt → Bool, p = fun z => !decide (z < f) && decide (z < t) := ⟨_, rfl⟩
  obtain ⟨p2, hp2⟩ : ∃ p : Txt → Bool, p = fun z => f.isPrefixOf z := ⟨_, rfl⟩
  go_wp2_with fail
  go_loopw [8, 9, 26] (fun mv bv iv wr => ∃ j : Nat, j ≤ nS ∧ iv = .int .i64 j ∧ wr.ownsRow w7.heap.size eStr 1 mv ((M.take j).filter p1).length (txs ((M.take j).filter p1)) ∧
      wr.ownsRow w7.heap.size eStr 1 bv ((M.take j).filter p2).length (txs ((M.take j).filter p2)) ∧ Apart mv bv ∧ Below w7.heap.size w7 wr) (fun _ _ iv _ => nS - (intOf iv).toNat)
  case atStart => exact ⟨0, Nat.zero_le _, rfl, World.ownsRow_nil _ _ _ _, World.ownsRow_nil _ _ _ _, apart_nil _ _ _, Below.refl _ _⟩
  case round =>
    obtain ⟨j, hj, rfl, om, ob, hap, hE⟩ := hrel
    have hl1 : ((M.take j).filter p1).length ≤ 40 := Nat.le_trans (List.length_filter_le _ _) (by rw [List.length_take]; omega)
    have hl2 : ((M.take j).filter p2).length ≤ 40 := Nat.le_trans (List.length_filter_le _ _) (by rw [List.length_take]; omega)
    by_cases hjn : j < nS
    · have hjl : j < M.length := by have := HNS.out; omega
      obtain ⟨b, off, rfl, hbs, hc⟩ := HX7.out j hjl
      have hc := (hE.cell (p := ⟨b, off + j, none⟩) hbs).trans hc
      have F1 := Lib.hid (filter_take_succ (p := p1) hjl)
      have F2 := Lib.hid (filter_take_succ (p := p2) hjl)
      generalize (M.take j).filter p1 = m1 at *
      generalize (M.take j).filter p2 = m2 at *
      generalize M[j] = s at *
      have OM := Lib.hid om
      have OB := Lib.hid ob
      have AP := Lib.hid hap
      have hss := size_sv s
      have hsf := size_sv f
      clear om ob hap
      have hmid : s < f ∨ (¬ s < f ∧ s < t) ∨ (¬ s < f ∧ ¬ s < t) := by by_cases h : s < f <;> by_cases h' : s < t <;> simp [h, h']
      have hbeg : s.length < f.length ∨ (f.length ≤ s.length ∧ ¬ s.take f.length = f) ∨ (f.length ≤ s.length ∧ s.take f.length = f) := by by_cases h : s.length < f.length <;> by_cases h' : s.take f.length = f <;> simp [h, h'] <;> omega
      rcases hmid with hA | ⟨hA, hA'⟩ | ⟨hA, hA'⟩
      · rcases hbeg with hB | ⟨hB, hB'⟩ | ⟨hB, hB'⟩
        · have P1 : p1 s = false := by rw [hp1]; simp [hA]
          have q1 := str_less hA
          have P2 : p2 s = false := by rw [hp2]; exact Bool.eq_false_iff.2 (fun h => by have := (pre_take.1 h).1; omega)
          have F1' := Lib.hid (F1.out.trans (by rw [P1]; exact List.append_nil _) : (M.take (j + 1)).filter p1 = m1)
          have F2' := Lib.hid (F2.out.trans (by rw [P2]; exact List.append_nil _) : (M.take (j + 1)).filter p2 = m2)
          clear P1 P2 F1 F2 hp1 hp2 hA 
          go_wp2
          go_roundw
          case rel => exact ⟨j + 1, by omega, rfl, by rw [F1'.out]; exact OM.out, by rw [F2'.out]; exact OB.out, AP.out, hE⟩
          case measure => simp [intOf]; omega
        · have P1 : p1 s = false := by rw [hp1]; simp [hA]
          have q1 := str_less hA
          have P2 : p2 s = false := by rw [hp2]; exact Bool.eq_false_iff.2 (fun h => hB' (pre_take.1 h).2)
          have hEx := sv_take s f.length
          generalize s.take f.length = u at *
          have q3 := str_ne hB'
          have F1' := Lib.hid (F1.out.trans (by rw [P1]; exact List.append_nil _) : (M.take (j + 1)).filter p1 = m1)
          have F2' := Lib.hid (F2.out.trans (by rw [P2]; exact List.append_nil _) : (M.take (j + 1)).filter p2 = m2)
          clear P1 P2 F1 F2 hp1 hp2 hA 
          clear hB'
          go_wp2
          go_roundw
          case rel => exact ⟨j + 1, by omega, rfl, by rw [F1'.out]; exact OM.out, by rw [F2'.out]; exact OB.out, AP.out, hE⟩
          case measure => simp [intOf]; omega
        · have P1 : p1 s = false := by rw [hp1]; simp [hA]
          have q1 := str_less hA
          have P2 : p2 s = true := by rw [hp2]; exact pre_take.2 ⟨hB, hB'⟩
          have hEx := (sv_take s f.length).trans (congrArg sv hB')
          have F1' := Lib.hid (F1.out.trans (by rw [P1]; exact List.append_nil _) : (M.take (j + 1)).filter p1 = m1)
          have F2' := Lib.hid (F2.out.trans (by rw [P2]; rfl) : (M.take (j + 1)).filter p2 = m2 ++ [s])
          clear P1 P2 F1 F2 hp1 hp2 hA 
          clear hB'
          go_wp2_with (at_builtin; first
            | (refine push2 rfl _ _ rfl w7.heap.size _ m2.length m2 rfl OB.out s rfl (by omega) w7 hE (Nat.le_refl _) ?_; intro v9 w9 o9 hE9 g9 n9; have om9 := Lib.hid (AP.out.stays OM.out g9); have ap9 := Lib.hid (AP.out.push OM.out n9); have o9 := Lib.hid o9; clear g9 n9))
          go_roundw
          case rel => exact ⟨j + 1, by omega, rfl, by rw [F1'.out]; exact om9.out, by rw [F2'.out]; simpa using o9.out, ap9.out, hE9⟩
          case measure => simp [intOf]; omega
      · rcases hbeg with hB | ⟨hB, hB'⟩ | ⟨hB, hB'⟩
        · have P1 : p1 s = true := by rw [hp1]; simp [hA, hA']
          have q1 := str_nless hA
          have q2 := str_less hA'
          have P2 : p2 s = false := by rw [hp2]; exact Bool.eq_false_iff.2 (fun h => by have := (pre_take.1 h).1; omega)
          have F1' := Lib.hid (F1.out.trans (by rw [P1]; rfl) : (M.take (j + 1)).filter p1 = m1 ++ [s])
          have F2' := Lib.hid (F2.out.trans (by rw [P2]; exact List.append_nil _) : (M.take (j + 1)).filter p2 = m2)
          clear P1 P2 F1 F2 hp1 hp2 hA hA'
          go_wp2_with (at_builtin; first
            | (refine push2 rfl _ _ rfl w7.heap.size _ m1.length m1 rfl OM.out s rfl (by omega) w7 hE (Nat.le_refl _) ?_; intro v8 w8 o8 hE8 g8 n8; have ob8 := Lib.hid (AP.out.symm.stays OB.out g8); have ap8 := Lib.hid (AP.out.symm.push OB.out n8); have o8 := Lib.hid o8; clear g8 n8))
          go_roundw
          case rel => exact ⟨j + 1, by omega, rfl, by rw [F1'.out]; simpa using o8.out, by rw [F2'.out]; exact ob8.out, ap8.out.symm, hE8⟩
          case measure => simp [intOf]; omega
        · have P1 : p1 s = true := by rw [hp1]; simp [hA, hA']
          have q1 := str_nless hA
          have q2 := str_less hA'
          have P2 : p2 s = false := by rw [hp2]; exact Bool.eq_false_iff.2 (fun h => hB' (pre_take.1 h).2)
          have hEx := sv_take s f.length
          generalize s.take f.length = u at *
          have q3 := str_ne hB'
          have F1' := Lib.hid (F1.out.trans (by rw [P1]; rfl) : (M.take (j + 1)).filter p1 = m1 ++ [s])
          have F2' := Lib.hid (F2.out.trans (by rw [P2]; exact List.append_nil _) : (M.take (j + 1)).filter p2 = m2)
          clear P1 P2 F1 F2 hp1 hp2 hA hA'
          clear hB'
          go_wp2_with (at_builtin; first
            | (refine push2 rfl _ _ rfl w7.heap.size _ m1.length m1 rfl OM.out s rfl (by omega) w7 hE (Nat.le_refl _) ?_; intro v8 w8 o8 hE8 g8 n8; have ob8 := Lib.hid (AP.out.symm.stays OB.out g8); have ap8 := Lib.hid (AP.out.symm.push OB.out n8); have o8 := Lib.hid o8; clear g8 n8))
          go_roundw
          case rel => exact ⟨j + 1, by omega, rfl, by rw [F1'.out]; simpa using o8.out, by rw [F2'.out]; exact ob8.out, ap8.out.symm, hE8⟩
          case measure => simp [intOf]; omega
        · have P1 : p1 s = true := by rw [hp1]; simp [hA, hA']
          have q1 := str_nless hA
          have q2 := str_less hA'
          have P2 : p2 s = true := by rw [hp2]; exact pre_take.2 ⟨hB, hB'⟩
          have hEx := (sv_take s f.length).trans (congrArg sv hB')
          have F1' := Lib.hid (F1.out.trans (by rw [P1]; rfl) : (M.take (j + 1)).filter p1 = m1 ++ [s])
          have F2' := Lib.hid (F2.out.trans (by rw [P2]; rfl) : (M.take (j + 1)).filter p2 = m2 ++ [s])
          clear P1 P2 F1 F2 hp1 hp2 hA hA'
          clear hB'
          go_wp2_with (at_builtin; first
            | (refine push2 rfl _ _ rfl w7.heap.size _ m1.length m1 rfl OM.out s rfl (by omega) w7 hE (Nat.le_refl _) ?_; intro v8 w8 o8 hE8 g8 n8; have ob8 := Lib.hid (AP.out.symm.stays OB.out g8); have ap8 := Lib.hid (AP.out.symm.push OB.out n8); have o8 := Lib.hid o8; clear g8 n8)
            | (refine push2 rfl _ _ rfl w7.heap.size _ m2.length m2 rfl ob8.out s rfl (by omega) w7 hE8 (Nat.le_refl _) ?_; intro v9 w9 o9 hE9 g9 n9; have om9 := Lib.hid (ap8.out.symm.stays o8.out g9); have ap9 := Lib.hid (ap8.out.symm.push o8.out n9); have o9 := Lib.hid o9; clear g9 n9))
          go_roundw
          case rel => exact ⟨j + 1, by omega, rfl, by rw [F1'.out]; simpa using om9.out, by rw [F2'.out]; simpa using o9.out, ap9.out, hE9⟩
          case measure => simp [intOf]; omega
      · rcases hbeg with hB | ⟨hB, hB'⟩ | ⟨hB, hB'⟩
        · have P1 : p1 s = false := by rw [hp1]; simp [hA, hA']
          have q1 := str_nless hA
          have q2 := str_nless hA'
          have P2 : p2 s = false := by rw [hp2]; exact Bool.eq_false_iff.2 (fun h => by have := (pre_take.1 h).1; omega)
          have F1' := Lib.hid (F1.out.trans (by rw [P1]; exact List.append_nil _) : (M.take (j + 1)).filter p1 = m1)
          have F2' := Lib.hid (F2.out.trans (by rw [P2]; exact List.append_nil _) : (M.take (j + 1)).filter p2 = m2)
          clear P1 P2 F1 F2 hp1 hp2 hA hA'
          go_wp2
          go_roundw
          case rel => exact ⟨j + 1, by omega, rfl, by rw [F1'.out]; exact OM.out, by rw [F2'.out]; exact OB.out, AP.out, hE⟩
          case measure => simp [intOf]; omega
        · have P1 : p1 s = false := by rw [hp1]; simp [hA, hA']
          have q1 := str_nless hA
          have q2 := str_nless hA'
          have P2 : p2 s = false := by rw [hp2]; exact Bool.eq_false_iff.2 (fun h => hB' (pre_take.1 h).2)
          have hEx := sv_take s f.length
          generalize s.take f.length = u at *
          have q3 := str_ne hB'
          have F1' := Lib.hid (F1.out.trans (by rw [P1]; exact List.append_nil _) : (M.take (j + 1)).filter p1 = m1)
          have F2' := Lib.hid (F2.out.trans (by rw [P2]; exact List.append_nil _) : (M.take (j + 1)).filter p2 = m2)
          clear P1 P2 F1 F2 hp1 hp2 hA hA'
          clear hB'
          go_wp2
          go_roundw
          case rel => exact ⟨j + 1, by omega, rfl, by rw [F1'.out]; exact OM.out, by rw [F2'.out]; exact OB.out, AP.out, hE⟩
          case measure => simp [intOf]; omega
        · have P1 : p1 s = false := by rw [hp1]; simp [hA, hA']
          have q1 := str_nless hA
          have q2 := str_nless hA'
          have P2 : p2 s = true := by rw [hp2]; exact pre_take.2 ⟨hB, hB'⟩
          have hEx := (sv_take s f.length).trans (congrArg sv hB')
          have F1' := Lib.hid (F1.out.trans (by rw [P1]; exact List.append_nil _) : (M.take (j + 1)).filter p1 = m1)
          have F2' := Lib.hid (F2.out.trans (by rw [P2]; rfl) : (M.take (j + 1)).filter p2 = m2 ++ [s])
          clear P1 P2 F1 F2 hp1 hp2 hA hA'
          clear hB'
          go_wp2_with (at_builtin; first
            | (refine push2 rfl _ _ rfl w7.heap.size _ m2.length m2 rfl OB.out s rfl (by omega) w7 hE (Nat.le_refl _) ?_; intro v9 w9 o9 hE9 g9 n9; have om9 := Lib.hid (AP.out.stays OM.out g9); have ap9 := Lib.hid (AP.out.push OM.out n9); have o9 := Lib.hid o9; clear g9 n9))
          go_roundw
          case rel => exact ⟨j + 1, by omega, rfl, by rw [F1'.out]; exact om9.out, by rw [F2'.out]; simpa using o9.out, ap9.out, hE9⟩
          case measure => simp [intOf]; omega
    · obtain rfl : j = nS := by omega
      have hall : M.take j = M := List.take_of_length_le (by rw [HNS.out]; exact Nat.le_refl _)
      rw [hall] at om ob
      have hMl : M.length < 1099511627776 := by have := HNS.out; omega
      have hf1 : (M.filter p1).length < 1099511627776 := Nat.lt_of_le_of_lt (List.length_filter_le _ _) hMl
      have hf2 : (M.filter p2).length < 1099511627776 := Nat.lt_of_le_of_lt (List.length_filter_le _ _) hMl
      have hwr := hE47.trans (hE.mono hE47.size)
      have hEr := hE7.trans (hE.mono hE7.size)
      have cr := cellE hE c7
      have SM := Lib.hid (Sl.of_own om).any
      have SB := Lib.hid (Sl.of_own ob).any
      have BT := Lib.hid (between_ok (HS4.out.mono hwr) HI.out hMl f t)
      have BG := fun (W : World) (E : Below wr.heap.size wr W) => Lib.hid (begin_ok ((HS4.out.mono hwr).mono E) HI.out hMl f)
      rw [← hp1] at BT
      simp only [← hp2] at BG
      have HSA := Lib.hid hall
      clear hall hMl om ob hap hwr hp1 hp2 hl1 hl2 c7
      go_wp2_with fail
      refine BT.out.mono ?_
      rintro e w8 ⟨r8, rfl, s8, h8⟩
      have I1 := Lib.hid (isT_yes s8 (SM.out.mono h8) hf1)
      have hE8 := hEr.trans (h8.mono hEr.size)
      clear BT s8
      go_wp2_with fail
      refine I1.out.mono ?_
      rintro e w9 ⟨rfl, h9⟩
      have h89 := ext_trans h8 h9
      have hE9 := hE8.trans (h9.mono hE8.size)
      have cr9 := cellE h89 cr
      have BG' := BG _ h89
      clear I1 BG
      go_wp2_with fail
      refine BG'.out.mono ?_
      rintro e w10 ⟨r10, rfl, s10, h10⟩
      have I2 := Lib.hid (isT_yes s10 (SB.out.mono (ext_trans h89 h10)) hf2)
      have hE10 := hE9.trans (h10.mono hE9.size)
      clear BG' s10
      go_wp2_with fail
      refine I2.out.mono ?_
      rintro e w11 ⟨rfl, h11⟩
      go_wp2
      go_ret
      exact ⟨rfl, hE10.trans (h11.mono hE10.size)⟩
end Go.Proofs.Ytcabmibcgedhhaa

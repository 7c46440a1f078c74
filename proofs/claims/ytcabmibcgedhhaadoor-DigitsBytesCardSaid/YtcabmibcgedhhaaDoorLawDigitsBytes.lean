/-
  The walk of the law DigitsBytes.
-/
import Derived.Test.YtcabmibcgedhhaaDoorDgY
import Derived.Test.YtcabmibcgedhhaaDoorDgQ
import Derived.Test.YtcabmibcgedhhaaDoorLawNatCompares
namespace Go.Proofs.YtcabmibcgedhhaaDoor
open Go.RowKit Go.Cd

theorem nb_len4 {n : Nat} (h : n < 256 ^ 4) : nb (len4 n 4) = n := by
  have e : len4 n 4 = [n / 16777216 % 256, n / 65536 % 256, n / 256 % 256, n % 256] := by simp [len4, List.range_succ]
  rw [e]
  simp only [nb, List.foldl_cons, List.foldl_nil]
  omega
theorem bb_head {X : Nat} : ∀ d, (bb X).head? = some d → d ≠ 0 := by
  intro d hd
  unfold bb at hd
  rw [List.head?_reverse] at hd
  exact digs_last (by omega) X d hd
theorem tk_putB {X : Nat} {C : List Nat} (h : (bb X).length < 256 ^ 4) : tk (putB X ++ C) = (0, bb X, C) := by
  have e4 : (putB X ++ C).take 4 = len4 (bb X).length 4 := by
    unfold putB
    rw [List.append_assoc, List.take_append_of_le_length (by simp), List.take_of_length_le (by simp)]
  have d4 : (putB X ++ C).drop 4 = bb X ++ C := by
    unfold putB
    rw [List.append_assoc, List.drop_append_of_le_length (by simp), List.drop_of_length_le (by simp)]; rfl
  have hl : (putB X ++ C).length = 4 + (bb X).length + C.length := by simp [putB]; omega
  unfold tk
  rw [e4, nb_len4 h, if_neg (by omega), if_neg (by omega), if_neg, ← List.drop_drop, d4]
  · rw [List.take_append_of_le_length (Nat.le_refl _), List.take_length, List.drop_append_of_le_length (Nat.le_refl _), List.drop_length]; rfl
  · rintro ⟨h1, h2⟩
    have h3 : (putB X ++ C)[4]? = (bb X)[0]? := by
      have := congrArg (fun l => l[0]?) d4
      simp only [List.getElem?_drop] at this
      rw [show 4 + 0 = 4 from rfl] at this
      rw [this, List.getElem?_append_left h1]
    rw [h3, ← List.head?_eq_getElem?] at h2
    cases hd : (bb X).head? with
    | none => rw [List.head?_eq_none_iff.1 hd] at h1; exact absurd h1 (by simp)
    | some d => rw [hd] at h2; exact bb_head d hd h2

set_option maxRecDepth 100000 in
set_option maxHeartbeats 3200000 in
theorem digitsBytes_ok {w : World} {v : Value} {l : List Nat} (A0 C0 : ByteArray) (h : SlA w v (u32s l)) (hl : ∀ d ∈ l, d < B) :
    Calls Tryd.prog 5 #[v, .string A0, .string C0] w fun e w' => e = .returned (.bool true) ∧ Below w.heap.size w w' := by
  have lx := fewLen l hl
  have F1 := Lib.hid (fun (W : World) (E : Below w.heap.size w W) => few_ok (h.mono E))
  have HL := Lib.hid (take_lt hl)
  have lenl : (l.take 40).length ≤ 40 := by simp; omega
  clear h hl
  generalize l.take 40 = l' at *
  have hbnd := Nat.pow_le_pow_right (n := B) (by decide) lenl
  by_cases hA0 : 50 < A0.size
  · have dA : decide ((50 : Int) < (A0.size : Int)) = true := decide_eq_true (by omega)
    by_cases hC0 : 50 < C0.size
    · have dC : decide ((50 : Int) < (C0.size : Int)) = true := decide_eq_true (by omega)
      go_enter Tryd.func5, Tryd.ntmps5
      go_wp2_with fail
      refine (awake03_ok _).mono ?_
      rintro e w1 ⟨rfl, h1⟩
      go_wp2_with fail
      refine (F1.out _ h1).mono ?_
      rintro e w2 ⟨r2, rfl, o2, h2⟩
      obtain ⟨a2, c2', rfl, _, hx2⟩ := Sl.outU (Sl.of_own o2)
      clear F1
      go_wp2_with fail
      have hA : (A0.extract 0 50).size ≤ 50 := by simp; omega
      generalize A0.extract 0 50 = A at *
      have hC : (C0.extract 0 50).size ≤ 50 := by simp; omega
      generalize C0.extract 0 50 = C at *
      clear hA0 hC0 dA dC
      refine (limbs_ok (Sl.of_own o2) HL.out (by omega)).mono ?_
      rintro e w3 ⟨r3, rfl, x3, h3⟩
      obtain ⟨a3, n3, cap3, rfl, x3⟩ := x3.out
      have hb0 := below_new (w := w3) (.cells #[.slice a3 n3 cap3] tNat)
      have c3 : (w3.alloc (.cells #[.slice a3 n3 cap3] tNat)).cell? ⟨w3.heap.size, 0, none⟩ = some (.slice a3 n3 cap3) := by unfold World.cell?; rw [heap_alloc_new]; rfl
      have y3 := x3.mono hb0
      have EW := ext_trans h3 hb0
      have h2E := ext_trans h1 h2
      have E0 := ext_trans h2E EW
      obtain ⟨k3, hk3⟩ : ∃ k3, k3 = w3.heap.size := ⟨_, rfl⟩
      clear x3 hb0 h3 o2 h2E
      go_wp2_with fail
      obtain ⟨W0, hW0⟩ : ∃ W0, W0 = w3.alloc (.cells #[.slice a3 n3 cap3] tNat) := ⟨_, rfl⟩
      rw [← hW0, ← hk3] at c3
      rw [← hW0] at y3 EW E0 ⊢
      rw [← hk3]
      clear hW0 hk3
      have HX := Lib.hid hx2
      have HBN := Lib.hid hbnd
      clear hx2 h1 h2 hbnd
      go_loopw [8, 9] (fun bv i wr => ∃ p : Nat, p ≤ l'.length ∧ i = .int .i64 ((p : Int) - 1) ∧ wr.ownsRow W0.heap.size eU8 1 bv (bb (val B (l'.drop p))).length (bys (bb (val B (l'.drop p)))) ∧ Below W0.heap.size W0 wr)
        (fun _ i _ => (intOf i + 1).toNat)
      case atStart =>
        refine ⟨l'.length, Nat.le_refl _, rfl, ?_, Below.refl _ _⟩
        rw [List.drop_length, show val B [] = 0 from rfl, show bb 0 = [] from by simp [bb, digs_zero]]
        exact World.ownsRow_nil _ _ _ _
      case round =>
        obtain ⟨p, hp, rfl, ho, hE⟩ := hrel
        by_cases hp0 : 0 < p
        · obtain ⟨q, rfl⟩ : ∃ q, p = q + 1 := ⟨p - 1, by omega⟩
          have e1 : ((q + 1 : Nat) : Int) - 1 = q := by omega
          rw [e1]
          have hq : q < l'.length := by omega
          obtain ⟨b, off, rfl, hbl, hcell⟩ := HX.out q hq
          have hcell := (hE.cell (p := ⟨b, off + q, none⟩) (Nat.lt_of_lt_of_le hbl EW.size)).trans ((EW.cell (p := ⟨b, off + q, none⟩) hbl).trans hcell)
          have hblW := Nat.lt_of_lt_of_le hbl EW.size
          have hdB := HL.out _ (List.getElem_mem hq)
          have HV := Lib.hid (val_drop_step l' q hq)
          have hVB := val_drop_lt HL.out (q + 1)
          generalize l'[q] = d at *
          obtain ⟨V, hV⟩ : ∃ V, V = val B (l'.drop (q + 1)) := ⟨_, rfl⟩
          rw [← hV] at HV hVB ho
          have hVl := hVB
          clear hV
          obtain ⟨av, cv, rfl, _⟩ := SlA.outB (Sl.of_own ho).any
          have HO := Lib.hid ho
          have HEE := Lib.hid hE
          clear ho hE e1 hbl
          go_wp2_with fail
          have hcell0 := (HEE.out.cell (p := ⟨b, off + q, none⟩) hblW).symm.trans hcell
          go_loopw [8, 10] (fun bv kk wr' => ∃ j : Nat, j ≤ 4 ∧ kk = .int .i64 (3 - (j : Int)) ∧ wr'.ownsRow W0.heap.size eU8 1 bv (bb (V * 256 ^ j + d / 256 ^ (4 - j))).length (bys (bb (V * 256 ^ j + d / 256 ^ (4 - j)))) ∧ Below W0.heap.size W0 wr')
            (fun _ kk _ => (intOf kk + 1).toNat)
          case atStart =>
            refine ⟨0, by omega, rfl, ?_, HEE.out⟩
            have : d / 256 ^ 4 = 0 := Nat.div_eq_of_lt hdB
            rw [Nat.pow_zero, Nat.mul_one, show 4 - 0 = 4 from rfl, this, Nat.add_zero]
            exact HO.out
          case round =>
            clear hcell
            obtain ⟨j, hj, rfl, ho2, hE2⟩ := hrel
            by_cases hj4 : j < 4
            · obtain ⟨k, hk⟩ : ∃ k : Nat, (3 : Int) - (j : Int) = (k : Int) := ⟨3 - j, by omega⟩
              rw [hk]
              obtain ⟨av2, cv2, rfl, _⟩ := SlA.outB (Sl.of_own ho2).any
              have hcell2 := (hE2.cell (p := ⟨b, off + q, none⟩) hblW).trans hcell0
              obtain ⟨hM1, hdj⟩ := byte_step (V := V) (d := d) (j := j) (k := k) hdB (by omega)
              have hLN := len_part hVB (by omega : j ≤ 4) hdj
              have HM1 := Lib.hid hM1
              clear hM1 hdj
              generalize V * 256 ^ j + d / 256 ^ (4 - j) = M at *
              obtain ⟨E, hE⟩ : ∃ E, E = d / 2 ^ (8 * k) := ⟨_, rfl⟩
              rw [← hE] at HM1
              have hEi : (d : Int) / 2 ^ (8 * k) = (E : Int) := by rw [hE, Int.natCast_ediv, Int.natCast_pow]; rfl
              have hEB : E < 4294967296 := by rw [hE]; exact Nat.lt_of_le_of_lt (Nat.div_le_self _ _) hdB
              obtain ⟨c, hc0⟩ : ∃ c, c = E % 256 := ⟨_, rfl⟩
              rw [← hc0] at HM1
              have hci : (E : Int) % 256 = (c : Int) := by omega
              have hc256 : c < 256 := by omega
              obtain ⟨N, hN0⟩ : ∃ N, N = (bb M).length := ⟨_, rfl⟩
              rw [← hN0] at ho2 hLN ⊢
              have HN := Lib.hid hN0
              have hMN : N = 0 ↔ M = 0 := by rw [hN0]; exact bb_nil
              have hN1000 : N < 1000 := by omega
              clear hE hc0 hN0 hLN
              by_cases hc1 : c = 0
              · subst hc1
                by_cases hM0 : M = 0
                · have hNz : N = 0 := hMN.2 hM0
                  subst hNz
                  go_wp2
                  go_roundw
                  case rel =>
                    refine ⟨j + 1, by omega, congrArg (Value.int .i64) (by omega), ?_, hE2⟩
                    rw [HM1.out, hM0]
                    rw [hM0] at ho2 HN
                    rw [show 0 * 256 + 0 = 0 from rfl, ← HN.out]
                    exact ho2
                  case measure => simp [intOf]
                · have hNp : 0 < N := Nat.pos_of_ne_zero fun h => hM0 (hMN.1 h)
                  have hNd : decide ((0 : Int) < (N : Int)) = true := decide_eq_true (by omega)
                  have hNd2 : decide (0 < N) = true := decide_eq_true hNp
                  go_wp2_with (at_builtin; refine wpList_pushG rfl _ _ 39 rfl W0.heap.size eU8 _ 1 elemU8 _ N _ rfl ho2 _ rfl rfl (by omega) (by unfold maxLen; omega) W0 hE2 (Nat.le_refl _) ?_; intro v' w' hown' hb' _ _)
                  go_roundw
                  case rel =>
                    refine ⟨j + 1, by omega, congrArg (Value.int .i64) (by omega), ?_, hb'⟩
                    have hst := bb_step M 0 (by omega)
                    rw [if_neg (by omega)] at hst
                    rw [HM1.out, hst, List.length_append, bys_append, ← HN.out]
                    exact hown'
                  case measure => simp [intOf]
              · have hcb : ((c : Int) == 0) = false := beq_eq_false_iff_ne.2 (by omega)
                have hcb2 : (c == 0) = false := beq_eq_false_iff_ne.2 hc1
                go_wp2_with (at_builtin; refine wpList_pushG rfl _ _ 39 rfl W0.heap.size eU8 _ 1 elemU8 _ N _ rfl ho2 _ rfl rfl (by omega) (by unfold maxLen; omega) W0 hE2 (Nat.le_refl _) ?_; intro v' w' hown' hb' _ _)
                go_roundw
                case rel =>
                  refine ⟨j + 1, by omega, congrArg (Value.int .i64) (by omega), ?_, hb'⟩
                  have hst := bb_step M c (by omega)
                  rw [if_neg (by omega)] at hst
                  rw [HM1.out, hst, List.length_append, bys_append, ← HN.out]
                  exact hown'
                case measure => simp [intOf]
            · obtain rfl : j = 4 := by omega
              rw [show 256 ^ 4 = 4294967296 from rfl, Nat.sub_self, Nat.pow_zero, Nat.div_one, ← HV.out] at ho2
              go_wp2
              go_roundw
              case rel => exact ⟨q, by omega, rfl, ho2, hE2⟩
              case measure => simp [intOf]
        · obtain rfl : p = 0 := by omega
          rw [List.drop_zero] at ho
          obtain ⟨av, cv, rfl, _⟩ := SlA.outB (Sl.of_own ho).any
          have y4 := y3.mono hE
          have c4 := cellE hE c3
          have E4 := E0.trans (hE.mono E0.size)
          have hXb := (len_digs_le two_le_B).1 lx
          have hbl := len_bb hXb
          generalize val B l' = X at *
          obtain ⟨capA, W4, hcv, hsA, hb4⟩ := str_conv wr A
          have c5 := cellE hb4 c4
          have PU := Lib.hid (put_ok (w := W4) hsA (by rw [length_bts]; omega) (y4.mono hb4) (by omega))
          have RB := Lib.hid (fun (W : World) (E : Below wr.heap.size wr W) => refBytes_ok ((Sl.of_own ho).any.mono E) (bb_lt X) (by omega))
          have HH := Lib.hid ho
          have HY := Lib.hid (y4.mono hb4)
          have E5 := E4.trans (hb4.mono E4.size)
          clear ho y3 y4 hE c3 hsA E4 c4
          go_wp2_with fail
          refine PU.out.mono ?_
          rintro e w5 ⟨r5, rfl, o5, h5⟩
          have c6 := cellE h5 c5
          obtain ⟨a5, cv5, rfl, _⟩ := SlA.outB (Sl.of_own o5).any
          have hcv5 := conv_str (Sl.of_own o5).any (fun d hd => by
            rcases List.mem_append.1 hd with h | h
            · exact bts_lt A d h
            · exact putB_lt X d h)
          have E6 := E5.trans (h5.mono E5.size)
          have h45 := ext_trans hb4 h5
          have HY2 := Lib.hid (HY.out.mono h5)
          have hla : (bts A ++ putB X).length = A.size + (4 + (bb X).length) := by simp [putB]
          have hSs : (str (bts A ++ putB X)).size = A.size + (4 + (bb X).length) := by rw [size_str, hla]
          rw [hla] at hcv5 ⊢
          have HSX := Lib.hid (str_app2 (bts A) (putB X))
          rw [str_bts] at HSX
          have hPs : (str (putB X)).size = 4 + (bb X).length := by rw [size_str]; simp [putB]
          have HCV := Lib.hid hcv5
          clear o5 PU HY c5 hla E5 hcv hb4
          go_wp2_with fail
          refine (RB.out _ h45).mono ?_
          rintro e w6 ⟨he, h6⟩
          have he : e = .returned (.string (str (putB X))) := he
          subst he
          have c7 := cellE h6 c6
          have HY3 := Lib.hid (HY2.out.mono h6)
          have E7 := E6.trans (h6.mono E6.size)
          have hcat := HSX.out
          have hlim : ¬ 9223372036854775807 < A.size + (4 + (bb X).length) := by omega
          clear hcv5 HCV RB h45 h6 HY2 E6 c6 h5
          go_wp2_with fail
          have hlt : ∀ d ∈ putB X ++ bts C, d < 256 := fun d hd => by
            rcases List.mem_append.1 hd with h | h
            · exact putB_lt X d h
            · exact bts_lt C d h
          have hlA : (bts A ++ putB X).length = A.size + (4 + (bb X).length) := by simp [putB]
          have hex : (str (bts A ++ putB X)).extract A.size (A.size + (4 + (bb X).length)) ++ C = str (putB X ++ bts C) := by
            rw [drop_str (fun d hd => by
              rcases List.mem_append.1 hd with h | h
              · exact bts_lt A d h
              · exact putB_lt X d h) A.size _ hlA.symm, ← str_app2, str_bts]
            congr 2
            rw [List.drop_append_of_le_length (by rw [length_bts]; exact Nat.le_refl _), List.drop_of_length_le (by rw [length_bts]; exact Nat.le_refl _)]; rfl
          rw [hex]
          have hsz : (str (putB X ++ bts C)).size < 1000000 := by
            rw [size_str, List.length_append, length_bts]; simp [putB]; omega
          have TK := Lib.hid (digTake_ok (w := w6) (str (putB X ++ bts C)) hsz)
          rw [bts_str hlt, tk_putB (by omega)] at TK
          simp only [str_bts, nb_bb] at TK
          clear hlt hlA hex hsz hcat hlim hSs HSX hPs
          refine TK.out.mono ?_
          rintro e w8 ⟨r8, rfl, x8, h8⟩
          obtain ⟨a8, n8, cap8, rfl, x8⟩ := x8.out
          have hb8 := below_new (w := w8) (.cells #[.slice a8 n8 cap8] tNat)
          have c8 : (w8.alloc (.cells #[.slice a8 n8 cap8] tNat)).cell? ⟨w8.heap.size, 0, none⟩ = some (.slice a8 n8 cap8) := by unfold World.cell?; rw [heap_alloc_new]; rfl
          have h9 := ext_trans h8 hb8
          have c9 := cellE h9 c7
          have SM := Lib.hid (same_ok (HY3.out.mono h9) (x8.mono hb8) (by omega))
          rw [decide_eq_true rfl] at SM
          have E9 := E7.trans (h9.mono E7.size)
          clear TK x8 h8 hb8 c7 HY3 E7 h9
          go_wp2_with fail
          refine SM.out.mono ?_
          rintro e w10 ⟨rfl, h10⟩
          go_wp2
          go_ret
          exact ⟨by simp, E9.trans (h10.mono E9.size)⟩
    · have dC : decide ((50 : Int) < (C0.size : Int)) = false := decide_eq_false (by omega)
      go_enter Tryd.func5, Tryd.ntmps5
      go_wp2_with fail
      refine (awake03_ok _).mono ?_
      rintro e w1 ⟨rfl, h1⟩
      go_wp2_with fail
      refine (F1.out _ h1).mono ?_
      rintro e w2 ⟨r2, rfl, o2, h2⟩
      obtain ⟨a2, c2', rfl, _, hx2⟩ := Sl.outU (Sl.of_own o2)
      clear F1
      go_wp2_with fail
      have hA : (A0.extract 0 50).size ≤ 50 := by simp; omega
      generalize A0.extract 0 50 = A at *
      have hC : C0.size ≤ 50 := by omega
      generalize C0 = C at *
      clear hA0 hC0 dA dC
      refine (limbs_ok (Sl.of_own o2) HL.out (by omega)).mono ?_
      rintro e w3 ⟨r3, rfl, x3, h3⟩
      obtain ⟨a3, n3, cap3, rfl, x3⟩ := x3.out
      have hb0 := below_new (w := w3) (.cells #[.slice a3 n3 cap3] tNat)
      have c3 : (w3.alloc (.cells #[.slice a3 n3 cap3] tNat)).cell? ⟨w3.heap.size, 0, none⟩ = some (.slice a3 n3 cap3) := by unfold World.cell?; rw [heap_alloc_new]; rfl
      have y3 := x3.mono hb0
      have EW := ext_trans h3 hb0
      have h2E := ext_trans h1 h2
      have E0 := ext_trans h2E EW
      obtain ⟨k3, hk3⟩ : ∃ k3, k3 = w3.heap.size := ⟨_, rfl⟩
      clear x3 hb0 h3 o2 h2E
      go_wp2_with fail
      obtain ⟨W0, hW0⟩ : ∃ W0, W0 = w3.alloc (.cells #[.slice a3 n3 cap3] tNat) := ⟨_, rfl⟩
      rw [← hW0, ← hk3] at c3
      rw [← hW0] at y3 EW E0 ⊢
      rw [← hk3]
      clear hW0 hk3
      have HX := Lib.hid hx2
      have HBN := Lib.hid hbnd
      clear hx2 h1 h2 hbnd
      go_loopw [8, 9] (fun bv i wr => ∃ p : Nat, p ≤ l'.length ∧ i = .int .i64 ((p : Int) - 1) ∧ wr.ownsRow W0.heap.size eU8 1 bv (bb (val B (l'.drop p))).length (bys (bb (val B (l'.drop p)))) ∧ Below W0.heap.size W0 wr)
        (fun _ i _ => (intOf i + 1).toNat)
      case atStart =>
        refine ⟨l'.length, Nat.le_refl _, rfl, ?_, Below.refl _ _⟩
        rw [List.drop_length, show val B [] = 0 from rfl, show bb 0 = [] from by simp [bb, digs_zero]]
        exact World.ownsRow_nil _ _ _ _
      case round =>
        obtain ⟨p, hp, rfl, ho, hE⟩ := hrel
        by_cases hp0 : 0 < p
        · obtain ⟨q, rfl⟩ : ∃ q, p = q + 1 := ⟨p - 1, by omega⟩
          have e1 : ((q + 1 : Nat) : Int) - 1 = q := by omega
          rw [e1]
          have hq : q < l'.length := by omega
          obtain ⟨b, off, rfl, hbl, hcell⟩ := HX.out q hq
          have hcell := (hE.cell (p := ⟨b, off + q, none⟩) (Nat.lt_of_lt_of_le hbl EW.size)).trans ((EW.cell (p := ⟨b, off + q, none⟩) hbl).trans hcell)
          have hblW := Nat.lt_of_lt_of_le hbl EW.size
          have hdB := HL.out _ (List.getElem_mem hq)
          have HV := Lib.hid (val_drop_step l' q hq)
          have hVB := val_drop_lt HL.out (q + 1)
          generalize l'[q] = d at *
          obtain ⟨V, hV⟩ : ∃ V, V = val B (l'.drop (q + 1)) := ⟨_, rfl⟩
          rw [← hV] at HV hVB ho
          have hVl := hVB
          clear hV
          obtain ⟨av, cv, rfl, _⟩ := SlA.outB (Sl.of_own ho).any
          have HO := Lib.hid ho
          have HEE := Lib.hid hE
          clear ho hE e1 hbl
          go_wp2_with fail
          have hcell0 := (HEE.out.cell (p := ⟨b, off + q, none⟩) hblW).symm.trans hcell
          go_loopw [8, 10] (fun bv kk wr' => ∃ j : Nat, j ≤ 4 ∧ kk = .int .i64 (3 - (j : Int)) ∧ wr'.ownsRow W0.heap.size eU8 1 bv (bb (V * 256 ^ j + d / 256 ^ (4 - j))).length (bys (bb (V * 256 ^ j + d / 256 ^ (4 - j)))) ∧ Below W0.heap.size W0 wr')
            (fun _ kk _ => (intOf kk + 1).toNat)
          case atStart =>
            refine ⟨0, by omega, rfl, ?_, HEE.out⟩
            have : d / 256 ^ 4 = 0 := Nat.div_eq_of_lt hdB
            rw [Nat.pow_zero, Nat.mul_one, show 4 - 0 = 4 from rfl, this, Nat.add_zero]
            exact HO.out
          case round =>
            clear hcell
            obtain ⟨j, hj, rfl, ho2, hE2⟩ := hrel
            by_cases hj4 : j < 4
            · obtain ⟨k, hk⟩ : ∃ k : Nat, (3 : Int) - (j : Int) = (k : Int) := ⟨3 - j, by omega⟩
              rw [hk]
              obtain ⟨av2, cv2, rfl, _⟩ := SlA.outB (Sl.of_own ho2).any
              have hcell2 := (hE2.cell (p := ⟨b, off + q, none⟩) hblW).trans hcell0
              obtain ⟨hM1, hdj⟩ := byte_step (V := V) (d := d) (j := j) (k := k) hdB (by omega)
              have hLN := len_part hVB (by omega : j ≤ 4) hdj
              have HM1 := Lib.hid hM1
              clear hM1 hdj
              generalize V * 256 ^ j + d / 256 ^ (4 - j) = M at *
              obtain ⟨E, hE⟩ : ∃ E, E = d / 2 ^ (8 * k) := ⟨_, rfl⟩
              rw [← hE] at HM1
              have hEi : (d : Int) / 2 ^ (8 * k) = (E : Int) := by rw [hE, Int.natCast_ediv, Int.natCast_pow]; rfl
              have hEB : E < 4294967296 := by rw [hE]; exact Nat.lt_of_le_of_lt (Nat.div_le_self _ _) hdB
              obtain ⟨c, hc0⟩ : ∃ c, c = E % 256 := ⟨_, rfl⟩
              rw [← hc0] at HM1
              have hci : (E : Int) % 256 = (c : Int) := by omega
              have hc256 : c < 256 := by omega
              obtain ⟨N, hN0⟩ : ∃ N, N = (bb M).length := ⟨_, rfl⟩
              rw [← hN0] at ho2 hLN ⊢
              have HN := Lib.hid hN0
              have hMN : N = 0 ↔ M = 0 := by rw [hN0]; exact bb_nil
              have hN1000 : N < 1000 := by omega
              clear hE hc0 hN0 hLN
              by_cases hc1 : c = 0
              · subst hc1
                by_cases hM0 : M = 0
                · have hNz : N = 0 := hMN.2 hM0
                  subst hNz
                  go_wp2
                  go_roundw
                  case rel =>
                    refine ⟨j + 1, by omega, congrArg (Value.int .i64) (by omega), ?_, hE2⟩
                    rw [HM1.out, hM0]
                    rw [hM0] at ho2 HN
                    rw [show 0 * 256 + 0 = 0 from rfl, ← HN.out]
                    exact ho2
                  case measure => simp [intOf]
                · have hNp : 0 < N := Nat.pos_of_ne_zero fun h => hM0 (hMN.1 h)
                  have hNd : decide ((0 : Int) < (N : Int)) = true := decide_eq_true (by omega)
                  have hNd2 : decide (0 < N) = true := decide_eq_true hNp
                  go_wp2_with (at_builtin; refine wpList_pushG rfl _ _ 39 rfl W0.heap.size eU8 _ 1 elemU8 _ N _ rfl ho2 _ rfl rfl (by omega) (by unfold maxLen; omega) W0 hE2 (Nat.le_refl _) ?_; intro v' w' hown' hb' _ _)
                  go_roundw
                  case rel =>
                    refine ⟨j + 1, by omega, congrArg (Value.int .i64) (by omega), ?_, hb'⟩
                    have hst := bb_step M 0 (by omega)
                    rw [if_neg (by omega)] at hst
                    rw [HM1.out, hst, List.length_append, bys_append, ← HN.out]
                    exact hown'
                  case measure => simp [intOf]
              · have hcb : ((c : Int) == 0) = false := beq_eq_false_iff_ne.2 (by omega)
                have hcb2 : (c == 0) = false := beq_eq_false_iff_ne.2 hc1
                go_wp2_with (at_builtin; refine wpList_pushG rfl _ _ 39 rfl W0.heap.size eU8 _ 1 elemU8 _ N _ rfl ho2 _ rfl rfl (by omega) (by unfold maxLen; omega) W0 hE2 (Nat.le_refl _) ?_; intro v' w' hown' hb' _ _)
                go_roundw
                case rel =>
                  refine ⟨j + 1, by omega, congrArg (Value.int .i64) (by omega), ?_, hb'⟩
                  have hst := bb_step M c (by omega)
                  rw [if_neg (by omega)] at hst
                  rw [HM1.out, hst, List.length_append, bys_append, ← HN.out]
                  exact hown'
                case measure => simp [intOf]
            · obtain rfl : j = 4 := by omega
              rw [show 256 ^ 4 = 4294967296 from rfl, Nat.sub_self, Nat.pow_zero, Nat.div_one, ← HV.out] at ho2
              go_wp2
              go_roundw
              case rel => exact ⟨q, by omega, rfl, ho2, hE2⟩
              case measure => simp [intOf]
        · obtain rfl : p = 0 := by omega
          rw [List.drop_zero] at ho
          obtain ⟨av, cv, rfl, _⟩ := SlA.outB (Sl.of_own ho).any
          have y4 := y3.mono hE
          have c4 := cellE hE c3
          have E4 := E0.trans (hE.mono E0.size)
          have hXb := (len_digs_le two_le_B).1 lx
          have hbl := len_bb hXb
          generalize val B l' = X at *
          obtain ⟨capA, W4, hcv, hsA, hb4⟩ := str_conv wr A
          have c5 := cellE hb4 c4
          have PU := Lib.hid (put_ok (w := W4) hsA (by rw [length_bts]; omega) (y4.mono hb4) (by omega))
          have RB := Lib.hid (fun (W : World) (E : Below wr.heap.size wr W) => refBytes_ok ((Sl.of_own ho).any.mono E) (bb_lt X) (by omega))
          have HH := Lib.hid ho
          have HY := Lib.hid (y4.mono hb4)
          have E5 := E4.trans (hb4.mono E4.size)
          clear ho y3 y4 hE c3 hsA E4 c4
          go_wp2_with fail
          refine PU.out.mono ?_
          rintro e w5 ⟨r5, rfl, o5, h5⟩
          have c6 := cellE h5 c5
          obtain ⟨a5, cv5, rfl, _⟩ := SlA.outB (Sl.of_own o5).any
          have hcv5 := conv_str (Sl.of_own o5).any (fun d hd => by
            rcases List.mem_append.1 hd with h | h
            · exact bts_lt A d h
            · exact putB_lt X d h)
          have E6 := E5.trans (h5.mono E5.size)
          have h45 := ext_trans hb4 h5
          have HY2 := Lib.hid (HY.out.mono h5)
          have hla : (bts A ++ putB X).length = A.size + (4 + (bb X).length) := by simp [putB]
          have hSs : (str (bts A ++ putB X)).size = A.size + (4 + (bb X).length) := by rw [size_str, hla]
          rw [hla] at hcv5 ⊢
          have HSX := Lib.hid (str_app2 (bts A) (putB X))
          rw [str_bts] at HSX
          have hPs : (str (putB X)).size = 4 + (bb X).length := by rw [size_str]; simp [putB]
          have HCV := Lib.hid hcv5
          clear o5 PU HY c5 hla E5 hcv hb4
          go_wp2_with fail
          refine (RB.out _ h45).mono ?_
          rintro e w6 ⟨he, h6⟩
          have he : e = .returned (.string (str (putB X))) := he
          subst he
          have c7 := cellE h6 c6
          have HY3 := Lib.hid (HY2.out.mono h6)
          have E7 := E6.trans (h6.mono E6.size)
          have hcat := HSX.out
          have hlim : ¬ 9223372036854775807 < A.size + (4 + (bb X).length) := by omega
          clear hcv5 HCV RB h45 h6 HY2 E6 c6 h5
          go_wp2_with fail
          have hlt : ∀ d ∈ putB X ++ bts C, d < 256 := fun d hd => by
            rcases List.mem_append.1 hd with h | h
            · exact putB_lt X d h
            · exact bts_lt C d h
          have hlA : (bts A ++ putB X).length = A.size + (4 + (bb X).length) := by simp [putB]
          have hex : (str (bts A ++ putB X)).extract A.size (A.size + (4 + (bb X).length)) ++ C = str (putB X ++ bts C) := by
            rw [drop_str (fun d hd => by
              rcases List.mem_append.1 hd with h | h
              · exact bts_lt A d h
              · exact putB_lt X d h) A.size _ hlA.symm, ← str_app2, str_bts]
            congr 2
            rw [List.drop_append_of_le_length (by rw [length_bts]; exact Nat.le_refl _), List.drop_of_length_le (by rw [length_bts]; exact Nat.le_refl _)]; rfl
          rw [hex]
          have hsz : (str (putB X ++ bts C)).size < 1000000 := by
            rw [size_str, List.length_append, length_bts]; simp [putB]; omega
          have TK := Lib.hid (digTake_ok (w := w6) (str (putB X ++ bts C)) hsz)
          rw [bts_str hlt, tk_putB (by omega)] at TK
          simp only [str_bts, nb_bb] at TK
          clear hlt hlA hex hsz hcat hlim hSs HSX hPs
          refine TK.out.mono ?_
          rintro e w8 ⟨r8, rfl, x8, h8⟩
          obtain ⟨a8, n8, cap8, rfl, x8⟩ := x8.out
          have hb8 := below_new (w := w8) (.cells #[.slice a8 n8 cap8] tNat)
          have c8 : (w8.alloc (.cells #[.slice a8 n8 cap8] tNat)).cell? ⟨w8.heap.size, 0, none⟩ = some (.slice a8 n8 cap8) := by unfold World.cell?; rw [heap_alloc_new]; rfl
          have h9 := ext_trans h8 hb8
          have c9 := cellE h9 c7
          have SM := Lib.hid (same_ok (HY3.out.mono h9) (x8.mono hb8) (by omega))
          rw [decide_eq_true rfl] at SM
          have E9 := E7.trans (h9.mono E7.size)
          clear TK x8 h8 hb8 c7 HY3 E7 h9
          go_wp2_with fail
          refine SM.out.mono ?_
          rintro e w10 ⟨rfl, h10⟩
          go_wp2
          go_ret
          exact ⟨by simp, E9.trans (h10.mono E9.size)⟩
  · have dA : decide ((50 : Int) < (A0.size : Int)) = false := decide_eq_false (by omega)
    by_cases hC0 : 50 < C0.size
    · have dC : decide ((50 : Int) < (C0.size : Int)) = true := decide_eq_true (by omega)
      go_enter Tryd.func5, Tryd.ntmps5
      go_wp2_with fail
      refine (awake03_ok _).mono ?_
      rintro e w1 ⟨rfl, h1⟩
      go_wp2_with fail
      refine (F1.out _ h1).mono ?_
      rintro e w2 ⟨r2, rfl, o2, h2⟩
      obtain ⟨a2, c2', rfl, _, hx2⟩ := Sl.outU (Sl.of_own o2)
      clear F1
      go_wp2_with fail
      have hA : A0.size ≤ 50 := by omega
      generalize A0 = A at *
      have hC : (C0.extract 0 50).size ≤ 50 := by simp; omega
      generalize C0.extract 0 50 = C at *
      clear hA0 hC0 dA dC
      refine (limbs_ok (Sl.of_own o2) HL.out (by omega)).mono ?_
      rintro e w3 ⟨r3, rfl, x3, h3⟩
      obtain ⟨a3, n3, cap3, rfl, x3⟩ := x3.out
      have hb0 := below_new (w := w3) (.cells #[.slice a3 n3 cap3] tNat)
      have c3 : (w3.alloc (.cells #[.slice a3 n3 cap3] tNat)).cell? ⟨w3.heap.size, 0, none⟩ = some (.slice a3 n3 cap3) := by unfold World.cell?; rw [heap_alloc_new]; rfl
      have y3 := x3.mono hb0
      have EW := ext_trans h3 hb0
      have h2E := ext_trans h1 h2
      have E0 := ext_trans h2E EW
      obtain ⟨k3, hk3⟩ : ∃ k3, k3 = w3.heap.size := ⟨_, rfl⟩
      clear x3 hb0 h3 o2 h2E
      go_wp2_with fail
      obtain ⟨W0, hW0⟩ : ∃ W0, W0 = w3.alloc (.cells #[.slice a3 n3 cap3] tNat) := ⟨_, rfl⟩
      rw [← hW0, ← hk3] at c3
      rw [← hW0] at y3 EW E0 ⊢
      rw [← hk3]
      clear hW0 hk3
      have HX := Lib.hid hx2
      have HBN := Lib.hid hbnd
      clear hx2 h1 h2 hbnd
      go_loopw [8, 9] (fun bv i wr => ∃ p : Nat, p ≤ l'.length ∧ i = .int .i64 ((p : Int) - 1) ∧ wr.ownsRow W0.heap.size eU8 1 bv (bb (val B (l'.drop p))).length (bys (bb (val B (l'.drop p)))) ∧ Below W0.heap.size W0 wr)
        (fun _ i _ => (intOf i + 1).toNat)
      case atStart =>
        refine ⟨l'.length, Nat.le_refl _, rfl, ?_, Below.refl _ _⟩
        rw [List.drop_length, show val B [] = 0 from rfl, show bb 0 = [] from by simp [bb, digs_zero]]
        exact World.ownsRow_nil _ _ _ _
      case round =>
        obtain ⟨p, hp, rfl, ho, hE⟩ := hrel
        by_cases hp0 : 0 < p
        · obtain ⟨q, rfl⟩ : ∃ q, p = q + 1 := ⟨p - 1, by omega⟩
          have e1 : ((q + 1 : Nat) : Int) - 1 = q := by omega
          rw [e1]
          have hq : q < l'.length := by omega
          obtain ⟨b, off, rfl, hbl, hcell⟩ := HX.out q hq
          have hcell := (hE.cell (p := ⟨b, off + q, none⟩) (Nat.lt_of_lt_of_le hbl EW.size)).trans ((EW.cell (p := ⟨b, off + q, none⟩) hbl).trans hcell)
          have hblW := Nat.lt_of_lt_of_le hbl EW.size
          have hdB := HL.out _ (List.getElem_mem hq)
          have HV := Lib.hid (val_drop_step l' q hq)
          have hVB := val_drop_lt HL.out (q + 1)
          generalize l'[q] = d at *
          obtain ⟨V, hV⟩ : ∃ V, V = val B (l'.drop (q + 1)) := ⟨_, rfl⟩
          rw [← hV] at HV hVB ho
          have hVl := hVB
          clear hV
          obtain ⟨av, cv, rfl, _⟩ := SlA.outB (Sl.of_own ho).any
          have HO := Lib.hid ho
          have HEE := Lib.hid hE
          clear ho hE e1 hbl
          go_wp2_with fail
          have hcell0 := (HEE.out.cell (p := ⟨b, off + q, none⟩) hblW).symm.trans hcell
          go_loopw [8, 10] (fun bv kk wr' => ∃ j : Nat, j ≤ 4 ∧ kk = .int .i64 (3 - (j : Int)) ∧ wr'.ownsRow W0.heap.size eU8 1 bv (bb (V * 256 ^ j + d / 256 ^ (4 - j))).length (bys (bb (V * 256 ^ j + d / 256 ^ (4 - j)))) ∧ Below W0.heap.size W0 wr')
            (fun _ kk _ => (intOf kk + 1).toNat)
          case atStart =>
            refine ⟨0, by omega, rfl, ?_, HEE.out⟩
            have : d / 256 ^ 4 = 0 := Nat.div_eq_of_lt hdB
            rw [Nat.pow_zero, Nat.mul_one, show 4 - 0 = 4 from rfl, this, Nat.add_zero]
            exact HO.out
          case round =>
            clear hcell
            obtain ⟨j, hj, rfl, ho2, hE2⟩ := hrel
            by_cases hj4 : j < 4
            · obtain ⟨k, hk⟩ : ∃ k : Nat, (3 : Int) - (j : Int) = (k : Int) := ⟨3 - j, by omega⟩
              rw [hk]
              obtain ⟨av2, cv2, rfl, _⟩ := SlA.outB (Sl.of_own ho2).any
              have hcell2 := (hE2.cell (p := ⟨b, off + q, none⟩) hblW).trans hcell0
              obtain ⟨hM1, hdj⟩ := byte_step (V := V) (d := d) (j := j) (k := k) hdB (by omega)
              have hLN := len_part hVB (by omega : j ≤ 4) hdj
              have HM1 := Lib.hid hM1
              clear hM1 hdj
              generalize V * 256 ^ j + d / 256 ^ (4 - j) = M at *
              obtain ⟨E, hE⟩ : ∃ E, E = d / 2 ^ (8 * k) := ⟨_, rfl⟩
              rw [← hE] at HM1
              have hEi : (d : Int) / 2 ^ (8 * k) = (E : Int) := by rw [hE, Int.natCast_ediv, Int.natCast_pow]; rfl
              have hEB : E < 4294967296 := by rw [hE]; exact Nat.lt_of_le_of_lt (Nat.div_le_self _ _) hdB
              obtain ⟨c, hc0⟩ : ∃ c, c = E % 256 := ⟨_, rfl⟩
              rw [← hc0] at HM1
              have hci : (E : Int) % 256 = (c : Int) := by omega
              have hc256 : c < 256 := by omega
              obtain ⟨N, hN0⟩ : ∃ N, N = (bb M).length := ⟨_, rfl⟩
              rw [← hN0] at ho2 hLN ⊢
              have HN := Lib.hid hN0
              have hMN : N = 0 ↔ M = 0 := by rw [hN0]; exact bb_nil
              have hN1000 : N < 1000 := by omega
              clear hE hc0 hN0 hLN
              by_cases hc1 : c = 0
              · subst hc1
                by_cases hM0 : M = 0
                · have hNz : N = 0 := hMN.2 hM0
                  subst hNz
                  go_wp2
                  go_roundw
                  case rel =>
                    refine ⟨j + 1, by omega, congrArg (Value.int .i64) (by omega), ?_, hE2⟩
                    rw [HM1.out, hM0]
                    rw [hM0] at ho2 HN
                    rw [show 0 * 256 + 0 = 0 from rfl, ← HN.out]
                    exact ho2
                  case measure => simp [intOf]
                · have hNp : 0 < N := Nat.pos_of_ne_zero fun h => hM0 (hMN.1 h)
                  have hNd : decide ((0 : Int) < (N : Int)) = true := decide_eq_true (by omega)
                  have hNd2 : decide (0 < N) = true := decide_eq_true hNp
                  go_wp2_with (at_builtin; refine wpList_pushG rfl _ _ 39 rfl W0.heap.size eU8 _ 1 elemU8 _ N _ rfl ho2 _ rfl rfl (by omega) (by unfold maxLen; omega) W0 hE2 (Nat.le_refl _) ?_; intro v' w' hown' hb' _ _)
                  go_roundw
                  case rel =>
                    refine ⟨j + 1, by omega, congrArg (Value.int .i64) (by omega), ?_, hb'⟩
                    have hst := bb_step M 0 (by omega)
                    rw [if_neg (by omega)] at hst
                    rw [HM1.out, hst, List.length_append, bys_append, ← HN.out]
                    exact hown'
                  case measure => simp [intOf]
              · have hcb : ((c : Int) == 0) = false := beq_eq_false_iff_ne.2 (by omega)
                have hcb2 : (c == 0) = false := beq_eq_false_iff_ne.2 hc1
                go_wp2_with (at_builtin; refine wpList_pushG rfl _ _ 39 rfl W0.heap.size eU8 _ 1 elemU8 _ N _ rfl ho2 _ rfl rfl (by omega) (by unfold maxLen; omega) W0 hE2 (Nat.le_refl _) ?_; intro v' w' hown' hb' _ _)
                go_roundw
                case rel =>
                  refine ⟨j + 1, by omega, congrArg (Value.int .i64) (by omega), ?_, hb'⟩
                  have hst := bb_step M c (by omega)
                  rw [if_neg (by omega)] at hst
                  rw [HM1.out, hst, List.length_append, bys_append, ← HN.out]
                  exact hown'
                case measure => simp [intOf]
            · obtain rfl : j = 4 := by omega
              rw [show 256 ^ 4 = 4294967296 from rfl, Nat.sub_self, Nat.pow_zero, Nat.div_one, ← HV.out] at ho2
              go_wp2
              go_roundw
              case rel => exact ⟨q, by omega, rfl, ho2, hE2⟩
              case measure => simp [intOf]
        · obtain rfl : p = 0 := by omega
          rw [List.drop_zero] at ho
          obtain ⟨av, cv, rfl, _⟩ := SlA.outB (Sl.of_own ho).any
          have y4 := y3.mono hE
          have c4 := cellE hE c3
          have E4 := E0.trans (hE.mono E0.size)
          have hXb := (len_digs_le two_le_B).1 lx
          have hbl := len_bb hXb
          generalize val B l' = X at *
          obtain ⟨capA, W4, hcv, hsA, hb4⟩ := str_conv wr A
          have c5 := cellE hb4 c4
          have PU := Lib.hid (put_ok (w := W4) hsA (by rw [length_bts]; omega) (y4.mono hb4) (by omega))
          have RB := Lib.hid (fun (W : World) (E : Below wr.heap.size wr W) => refBytes_ok ((Sl.of_own ho).any.mono E) (bb_lt X) (by omega))
          have HH := Lib.hid ho
          have HY := Lib.hid (y4.mono hb4)
          have E5 := E4.trans (hb4.mono E4.size)
          clear ho y3 y4 hE c3 hsA E4 c4
          go_wp2_with fail
          refine PU.out.mono ?_
          rintro e w5 ⟨r5, rfl, o5, h5⟩
          have c6 := cellE h5 c5
          obtain ⟨a5, cv5, rfl, _⟩ := SlA.outB (Sl.of_own o5).any
          have hcv5 := conv_str (Sl.of_own o5).any (fun d hd => by
            rcases List.mem_append.1 hd with h | h
            · exact bts_lt A d h
            · exact putB_lt X d h)
          have E6 := E5.trans (h5.mono E5.size)
          have h45 := ext_trans hb4 h5
          have HY2 := Lib.hid (HY.out.mono h5)
          have hla : (bts A ++ putB X).length = A.size + (4 + (bb X).length) := by simp [putB]
          have hSs : (str (bts A ++ putB X)).size = A.size + (4 + (bb X).length) := by rw [size_str, hla]
          rw [hla] at hcv5 ⊢
          have HSX := Lib.hid (str_app2 (bts A) (putB X))
          rw [str_bts] at HSX
          have hPs : (str (putB X)).size = 4 + (bb X).length := by rw [size_str]; simp [putB]
          have HCV := Lib.hid hcv5
          clear o5 PU HY c5 hla E5 hcv hb4
          go_wp2_with fail
          refine (RB.out _ h45).mono ?_
          rintro e w6 ⟨he, h6⟩
          have he : e = .returned (.string (str (putB X))) := he
          subst he
          have c7 := cellE h6 c6
          have HY3 := Lib.hid (HY2.out.mono h6)
          have E7 := E6.trans (h6.mono E6.size)
          have hcat := HSX.out
          have hlim : ¬ 9223372036854775807 < A.size + (4 + (bb X).length) := by omega
          clear hcv5 HCV RB h45 h6 HY2 E6 c6 h5
          go_wp2_with fail
          have hlt : ∀ d ∈ putB X ++ bts C, d < 256 := fun d hd => by
            rcases List.mem_append.1 hd with h | h
            · exact putB_lt X d h
            · exact bts_lt C d h
          have hlA : (bts A ++ putB X).length = A.size + (4 + (bb X).length) := by simp [putB]
          have hex : (str (bts A ++ putB X)).extract A.size (A.size + (4 + (bb X).length)) ++ C = str (putB X ++ bts C) := by
            rw [drop_str (fun d hd => by
              rcases List.mem_append.1 hd with h | h
              · exact bts_lt A d h
              · exact putB_lt X d h) A.size _ hlA.symm, ← str_app2, str_bts]
            congr 2
            rw [List.drop_append_of_le_length (by rw [length_bts]; exact Nat.le_refl _), List.drop_of_length_le (by rw [length_bts]; exact Nat.le_refl _)]; rfl
          rw [hex]
          have hsz : (str (putB X ++ bts C)).size < 1000000 := by
            rw [size_str, List.length_append, length_bts]; simp [putB]; omega
          have TK := Lib.hid (digTake_ok (w := w6) (str (putB X ++ bts C)) hsz)
          rw [bts_str hlt, tk_putB (by omega)] at TK
          simp only [str_bts, nb_bb] at TK
          clear hlt hlA hex hsz hcat hlim hSs HSX hPs
          refine TK.out.mono ?_
          rintro e w8 ⟨r8, rfl, x8, h8⟩
          obtain ⟨a8, n8, cap8, rfl, x8⟩ := x8.out
          have hb8 := below_new (w := w8) (.cells #[.slice a8 n8 cap8] tNat)
          have c8 : (w8.alloc (.cells #[.slice a8 n8 cap8] tNat)).cell? ⟨w8.heap.size, 0, none⟩ = some (.slice a8 n8 cap8) := by unfold World.cell?; rw [heap_alloc_new]; rfl
          have h9 := ext_trans h8 hb8
          have c9 := cellE h9 c7
          have SM := Lib.hid (same_ok (HY3.out.mono h9) (x8.mono hb8) (by omega))
          rw [decide_eq_true rfl] at SM
          have E9 := E7.trans (h9.mono E7.size)
          clear TK x8 h8 hb8 c7 HY3 E7 h9
          go_wp2_with fail
          refine SM.out.mono ?_
          rintro e w10 ⟨rfl, h10⟩
          go_wp2
          go_ret
          exact ⟨by simp, E9.trans (h10.mono E9.size)⟩
    · have dC : decide ((50 : Int) < (C0.size : Int)) = false := decide_eq_false (by omega)
      go_enter Tryd.func5, Tryd.ntmps5
      go_wp2_with fail
      refine (awake03_ok _).mono ?_
      rintro e w1 ⟨rfl, h1⟩
      go_wp2_with fail
      refine (F1.out _ h1).mono ?_
      rintro e w2 ⟨r2, rfl, o2, h2⟩
      obtain ⟨a2, c2', rfl, _, hx2⟩ := Sl.outU (Sl.of_own o2)
      clear F1
      go_wp2_with fail
      have hA : A0.size ≤ 50 := by omega
      generalize A0 = A at *
      have hC : C0.size ≤ 50 := by omega
      generalize C0 = C at *
      clear hA0 hC0 dA dC
      refine (limbs_ok (Sl.of_own o2) HL.out (by omega)).mono ?_
      rintro e w3 ⟨r3, rfl, x3, h3⟩
      obtain ⟨a3, n3, cap3, rfl, x3⟩ := x3.out
      have hb0 := below_new (w := w3) (.cells #[.slice a3 n3 cap3] tNat)
      have c3 : (w3.alloc (.cells #[.slice a3 n3 cap3] tNat)).cell? ⟨w3.heap.size, 0, none⟩ = some (.slice a3 n3 cap3) := by unfold World.cell?; rw [heap_alloc_new]; rfl
      have y3 := x3.mono hb0
      have EW := ext_trans h3 hb0
      have h2E := ext_trans h1 h2
      have E0 := ext_trans h2E EW
      obtain ⟨k3, hk3⟩ : ∃ k3, k3 = w3.heap.size := ⟨_, rfl⟩
      clear x3 hb0 h3 o2 h2E
      go_wp2_with fail
      obtain ⟨W0, hW0⟩ : ∃ W0, W0 = w3.alloc (.cells #[.slice a3 n3 cap3] tNat) := ⟨_, rfl⟩
      rw [← hW0, ← hk3] at c3
      rw [← hW0] at y3 EW E0 ⊢
      rw [← hk3]
      clear hW0 hk3
      have HX := Lib.hid hx2
      have HBN := Lib.hid hbnd
      clear hx2 h1 h2 hbnd
      go_loopw [8, 9] (fun bv i wr => ∃ p : Nat, p ≤ l'.length ∧ i = .int .i64 ((p : Int) - 1) ∧ wr.ownsRow W0.heap.size eU8 1 bv (bb (val B (l'.drop p))).length (bys (bb (val B (l'.drop p)))) ∧ Below W0.heap.size W0 wr)
        (fun _ i _ => (intOf i + 1).toNat)
      case atStart =>
        refine ⟨l'.length, Nat.le_refl _, rfl, ?_, Below.refl _ _⟩
        rw [List.drop_length, show val B [] = 0 from rfl, show bb 0 = [] from by simp [bb, digs_zero]]
        exact World.ownsRow_nil _ _ _ _
      case round =>
        obtain ⟨p, hp, rfl, ho, hE⟩ := hrel
        by_cases hp0 : 0 < p
        · obtain ⟨q, rfl⟩ : ∃ q, p = q + 1 := ⟨p - 1, by omega⟩
          have e1 : ((q + 1 : Nat) : Int) - 1 = q := by omega
          rw [e1]
          have hq : q < l'.length := by omega
          obtain ⟨b, off, rfl, hbl, hcell⟩ := HX.out q hq
          have hcell := (hE.cell (p := ⟨b, off + q, none⟩) (Nat.lt_of_lt_of_le hbl EW.size)).trans ((EW.cell (p := ⟨b, off + q, none⟩) hbl).trans hcell)
          have hblW := Nat.lt_of_lt_of_le hbl EW.size
          have hdB := HL.out _ (List.getElem_mem hq)
          have HV := Lib.hid (val_drop_step l' q hq)
          have hVB := val_drop_lt HL.out (q + 1)
          generalize l'[q] = d at *
          obtain ⟨V, hV⟩ : ∃ V, V = val B (l'.drop (q + 1)) := ⟨_, rfl⟩
          rw [← hV] at HV hVB ho
          have hVl := hVB
          clear hV
          obtain ⟨av, cv, rfl, _⟩ := SlA.outB (Sl.of_own ho).any
          have HO := Lib.hid ho
          have HEE := Lib.hid hE
          clear ho hE e1 hbl
          go_wp2_with fail
          have hcell0 := (HEE.out.cell (p := ⟨b, off + q, none⟩) hblW).symm.trans hcell
          go_loopw [8, 10] (fun bv kk wr' => ∃ j : Nat, j ≤ 4 ∧ kk = .int .i64 (3 - (j : Int)) ∧ wr'.ownsRow W0.heap.size eU8 1 bv (bb (V * 256 ^ j + d / 256 ^ (4 - j))).length (bys (bb (V * 256 ^ j + d / 256 ^ (4 - j)))) ∧ Below W0.heap.size W0 wr')
            (fun _ kk _ => (intOf kk + 1).toNat)
          case atStart =>
            refine ⟨0, by omega, rfl, ?_, HEE.out⟩
            have : d / 256 ^ 4 = 0 := Nat.div_eq_of_lt hdB
            rw [Nat.pow_zero, Nat.mul_one, show 4 - 0 = 4 from rfl, this, Nat.add_zero]
            exact HO.out
          case round =>
            clear hcell
            obtain ⟨j, hj, rfl, ho2, hE2⟩ := hrel
            by_cases hj4 : j < 4
            · obtain ⟨k, hk⟩ : ∃ k : Nat, (3 : Int) - (j : Int) = (k : Int) := ⟨3 - j, by omega⟩
              rw [hk]
              obtain ⟨av2, cv2, rfl, _⟩ := SlA.outB (Sl.of_own ho2).any
              have hcell2 := (hE2.cell (p := ⟨b, off + q, none⟩) hblW).trans hcell0
              obtain ⟨hM1, hdj⟩ := byte_step (V := V) (d := d) (j := j) (k := k) hdB (by omega)
              have hLN := len_part hVB (by omega : j ≤ 4) hdj
              have HM1 := Lib.hid hM1
              clear hM1 hdj
              generalize V * 256 ^ j + d / 256 ^ (4 - j) = M at *
              obtain ⟨E, hE⟩ : ∃ E, E = d / 2 ^ (8 * k) := ⟨_, rfl⟩
              rw [← hE] at HM1
              have hEi : (d : Int) / 2 ^ (8 * k) = (E : Int) := by rw [hE, Int.natCast_ediv, Int.natCast_pow]; rfl
              have hEB : E < 4294967296 := by rw [hE]; exact Nat.lt_of_le_of_lt (Nat.div_le_self _ _) hdB
              obtain ⟨c, hc0⟩ : ∃ c, c = E % 256 := ⟨_, rfl⟩
              rw [← hc0] at HM1
              have hci : (E : Int) % 256 = (c : Int) := by omega
              have hc256 : c < 256 := by omega
              obtain ⟨N, hN0⟩ : ∃ N, N = (bb M).length := ⟨_, rfl⟩
              rw [← hN0] at ho2 hLN ⊢
              have HN := Lib.hid hN0
              have hMN : N = 0 ↔ M = 0 := by rw [hN0]; exact bb_nil
              have hN1000 : N < 1000 := by omega
              clear hE hc0 hN0 hLN
              by_cases hc1 : c = 0
              · subst hc1
                by_cases hM0 : M = 0
                · have hNz : N = 0 := hMN.2 hM0
                  subst hNz
                  go_wp2
                  go_roundw
                  case rel =>
                    refine ⟨j + 1, by omega, congrArg (Value.int .i64) (by omega), ?_, hE2⟩
                    rw [HM1.out, hM0]
                    rw [hM0] at ho2 HN
                    rw [show 0 * 256 + 0 = 0 from rfl, ← HN.out]
                    exact ho2
                  case measure => simp [intOf]
                · have hNp : 0 < N := Nat.pos_of_ne_zero fun h => hM0 (hMN.1 h)
                  have hNd : decide ((0 : Int) < (N : Int)) = true := decide_eq_true (by omega)
                  have hNd2 : decide (0 < N) = true := decide_eq_true hNp
                  go_wp2_with (at_builtin; refine wpList_pushG rfl _ _ 39 rfl W0.heap.size eU8 _ 1 elemU8 _ N _ rfl ho2 _ rfl rfl (by omega) (by unfold maxLen; omega) W0 hE2 (Nat.le_refl _) ?_; intro v' w' hown' hb' _ _)
                  go_roundw
                  case rel =>
                    refine ⟨j + 1, by omega, congrArg (Value.int .i64) (by omega), ?_, hb'⟩
                    have hst := bb_step M 0 (by omega)
                    rw [if_neg (by omega)] at hst
                    rw [HM1.out, hst, List.length_append, bys_append, ← HN.out]
                    exact hown'
                  case measure => simp [intOf]
              · have hcb : ((c : Int) == 0) = false := beq_eq_false_iff_ne.2 (by omega)
                have hcb2 : (c == 0) = false := beq_eq_false_iff_ne.2 hc1
                go_wp2_with (at_builtin; refine wpList_pushG rfl _ _ 39 rfl W0.heap.size eU8 _ 1 elemU8 _ N _ rfl ho2 _ rfl rfl (by omega) (by unfold maxLen; omega) W0 hE2 (Nat.le_refl _) ?_; intro v' w' hown' hb' _ _)
                go_roundw
                case rel =>
                  refine ⟨j + 1, by omega, congrArg (Value.int .i64) (by omega), ?_, hb'⟩
                  have hst := bb_step M c (by omega)
                  rw [if_neg (by omega)] at hst
                  rw [HM1.out, hst, List.length_append, bys_append, ← HN.out]
                  exact hown'
                case measure => simp [intOf]
            · obtain rfl : j = 4 := by omega
              rw [show 256 ^ 4 = 4294967296 from rfl, Nat.sub_self, Nat.pow_zero, Nat.div_one, ← HV.out] at ho2
              go_wp2
              go_roundw
              case rel => exact ⟨q, by omega, rfl, ho2, hE2⟩
              case measure => simp [intOf]
        · obtain rfl : p = 0 := by omega
          rw [List.drop_zero] at ho
          obtain ⟨av, cv, rfl, _⟩ := SlA.outB (Sl.of_own ho).any
          have y4 := y3.mono hE
          have c4 := cellE hE c3
          have E4 := E0.trans (hE.mono E0.size)
          have hXb := (len_digs_le two_le_B).1 lx
          have hbl := len_bb hXb
          generalize val B l' = X at *
          obtain ⟨capA, W4, hcv, hsA, hb4⟩ := str_conv wr A
          have c5 := cellE hb4 c4
          have PU := Lib.hid (put_ok (w := W4) hsA (by rw [length_bts]; omega) (y4.mono hb4) (by omega))
          have RB := Lib.hid (fun (W : World) (E : Below wr.heap.size wr W) => refBytes_ok ((Sl.of_own ho).any.mono E) (bb_lt X) (by omega))
          have HH := Lib.hid ho
          have HY := Lib.hid (y4.mono hb4)
          have E5 := E4.trans (hb4.mono E4.size)
          clear ho y3 y4 hE c3 hsA E4 c4
          go_wp2_with fail
          refine PU.out.mono ?_
          rintro e w5 ⟨r5, rfl, o5, h5⟩
          have c6 := cellE h5 c5
          obtain ⟨a5, cv5, rfl, _⟩ := SlA.outB (Sl.of_own o5).any
          have hcv5 := conv_str (Sl.of_own o5).any (fun d hd => by
            rcases List.mem_append.1 hd with h | h
            · exact bts_lt A d h
            · exact putB_lt X d h)
          have E6 := E5.trans (h5.mono E5.size)
          have h45 := ext_trans hb4 h5
          have HY2 := Lib.hid (HY.out.mono h5)
          have hla : (bts A ++ putB X).length = A.size + (4 + (bb X).length) := by simp [putB]
          have hSs : (str (bts A ++ putB X)).size = A.size + (4 + (bb X).length) := by rw [size_str, hla]
          rw [hla] at hcv5 ⊢
          have HSX := Lib.hid (str_app2 (bts A) (putB X))
          rw [str_bts] at HSX
          have hPs : (str (putB X)).size = 4 + (bb X).length := by rw [size_str]; simp [putB]
          have HCV := Lib.hid hcv5
          clear o5 PU HY c5 hla E5 hcv hb4
          go_wp2_with fail
          refine (RB.out _ h45).mono ?_
          rintro e w6 ⟨he, h6⟩
          have he : e = .returned (.string (str (putB X))) := he
          subst he
          have c7 := cellE h6 c6
          have HY3 := Lib.hid (HY2.out.mono h6)
          have E7 := E6.trans (h6.mono E6.size)
          have hcat := HSX.out
          have hlim : ¬ 9223372036854775807 < A.size + (4 + (bb X).length) := by omega
          clear hcv5 HCV RB h45 h6 HY2 E6 c6 h5
          go_wp2_with fail
          have hlt : ∀ d ∈ putB X ++ bts C, d < 256 := fun d hd => by
            rcases List.mem_append.1 hd with h | h
            · exact putB_lt X d h
            · exact bts_lt C d h
          have hlA : (bts A ++ putB X).length = A.size + (4 + (bb X).length) := by simp [putB]
          have hex : (str (bts A ++ putB X)).extract A.size (A.size + (4 + (bb X).length)) ++ C = str (putB X ++ bts C) := by
            rw [drop_str (fun d hd => by
              rcases List.mem_append.1 hd with h | h
              · exact bts_lt A d h
              · exact putB_lt X d h) A.size _ hlA.symm, ← str_app2, str_bts]
            congr 2
            rw [List.drop_append_of_le_length (by rw [length_bts]; exact Nat.le_refl _), List.drop_of_length_le (by rw [length_bts]; exact Nat.le_refl _)]; rfl
          rw [hex]
          have hsz : (str (putB X ++ bts C)).size < 1000000 := by
            rw [size_str, List.length_append, length_bts]; simp [putB]; omega
          have TK := Lib.hid (digTake_ok (w := w6) (str (putB X ++ bts C)) hsz)
          rw [bts_str hlt, tk_putB (by omega)] at TK
          simp only [str_bts, nb_bb] at TK
          clear hlt hlA hex hsz hcat hlim hSs HSX hPs
          refine TK.out.mono ?_
          rintro e w8 ⟨r8, rfl, x8, h8⟩
          obtain ⟨a8, n8, cap8, rfl, x8⟩ := x8.out
          have hb8 := below_new (w := w8) (.cells #[.slice a8 n8 cap8] tNat)
          have c8 : (w8.alloc (.cells #[.slice a8 n8 cap8] tNat)).cell? ⟨w8.heap.size, 0, none⟩ = some (.slice a8 n8 cap8) := by unfold World.cell?; rw [heap_alloc_new]; rfl
          have h9 := ext_trans h8 hb8
          have c9 := cellE h9 c7
          have SM := Lib.hid (same_ok (HY3.out.mono h9) (x8.mono hb8) (by omega))
          rw [decide_eq_true rfl] at SM
          have E9 := E7.trans (h9.mono E7.size)
          clear TK x8 h8 hb8 c7 HY3 E7 h9
          go_wp2_with fail
          refine SM.out.mono ?_
          rintro e w10 ⟨rfl, h10⟩
          go_wp2
          go_ret
          exact ⟨by simp, E9.trans (h10.mono E9.size)⟩
end Go.Proofs.YtcabmibcgedhhaaDoor

/-
  The walk of the law DigitsTakes.
-/
import Derived.Test.YtcabmibcgedhhaaDoorDgR
import Derived.Test.YtcabmibcgedhhaaDoorRef4
namespace Go.Proofs.YtcabmibcgedhhaaDoor
open Go.RowKit Go.Cd

theorem str_append (a b : List Nat) : (str a ++ str b) = str (a ++ b) := by
  apply ByteArray.ext
  rw [ByteArray.data_append]
  simp [str]

theorem size_str (l : List Nat) : (str l).size = l.length := by simp [str, ByteArray.size]

theorem bb_nb {l : List Nat} (h : ∀ d ∈ l, d < 256) (h0 : ∀ d, l.head? = some d → d ≠ 0) : bb (nb l) = l := by
  unfold bb
  rw [nb_val _ _ rfl, digs_val (by omega) l.reverse (fun d hd => h d (List.mem_reverse.1 hd)) (fun d hd => h0 d (by rwa [List.getLast?_reverse] at hd)), List.reverse_reverse]

theorem len4_nb {L : List Nat} (h : 4 ≤ L.length) (hb : ∀ d ∈ L, d < 256) : len4 (nb (L.take 4)) 4 = L.take 4 := by
  match L, h, hb with
  | a :: b :: c :: d :: _, _, hb =>
    have ha := hb a (by simp)
    have hb' := hb b (by simp)
    have hc := hb c (by simp)
    have hd := hb d (by simp)
    simp [nb, len4, List.range_succ]
    omega

theorem tk_put {L : List Nat} (h : (tk L).1 = 0) (hb : ∀ d ∈ L, d < 256) : putB (nb (tk L).2.1) ++ (tk L).2.2 = L := by
  unfold tk at h ⊢
  by_cases h1 : L.length < 4
  · rw [if_pos h1] at h; cases h
  · rw [if_neg h1] at h ⊢
    by_cases h2 : L.length - 4 < nb (L.take 4)
    · rw [if_pos h2] at h; cases h
    · rw [if_neg h2] at h ⊢
      by_cases h3 : 0 < nb (L.take 4) ∧ L[4]?.getD 0 = 0
      · rw [if_pos h3] at h; cases h
      · rw [if_neg h3] at h ⊢
        have h4 := len4_nb (by omega) hb
        obtain ⟨N, hN⟩ : ∃ N, N = nb (L.take 4) := ⟨_, rfl⟩
        rw [← hN] at h2 h3 h4 ⊢
        have hl : ((L.drop 4).take N).length = N := by simp; omega
        have hbb : bb (nb ((L.drop 4).take N)) = (L.drop 4).take N := by
          refine bb_nb (fun d hd => hb d (List.mem_of_mem_drop (List.mem_of_mem_take hd))) fun d hd h0 => h3 ?_
          by_cases hN0 : N = 0
          · rw [hN0] at hd; simp at hd
          · refine ⟨by omega, ?_⟩
            rw [List.head?_take, if_neg hN0, List.head?_drop] at hd
            rw [hd, h0]; rfl
        unfold putB
        rw [hbb, hl, h4, List.append_assoc]
        show L.take 4 ++ ((L.drop 4).take N ++ L.drop (4 + N)) = L
        rw [← List.drop_drop, List.take_append_drop N (L.drop 4)]
        exact List.take_append_drop 4 L
theorem tk_err {L : List Nat} (h : (tk L).1 ≠ 0) : (tk L).2.1 = [] := by
  unfold tk at h ⊢
  split
  · rfl
  · split
    · rfl
    · split
      · rfl
      · simp_all
theorem tk_sub (L : List Nat) : (tk L).2.1 = [] ∨ (tk L).2.1 = (L.drop 4).take (nb (L.take 4)) := by
  unfold tk
  split
  · exact .inl rfl
  · split
    · exact .inl rfl
    · split
      · exact .inl rfl
      · exact .inr rfl
theorem tk_small (L : List Nat) : (tk L).2.1.length ≤ L.length := by
  rcases tk_sub L with h | h
  · rw [h]; simp
  · rw [h]; simp; omega
theorem tk_lt {L : List Nat} (hb : ∀ d ∈ L, d < 256) : ∀ d ∈ (tk L).2.1, d < 256 := by
  rcases tk_sub L with h | h
  · rw [h]; simp
  · rw [h]; exact fun d hd => hb d (List.mem_of_mem_drop (List.mem_of_mem_take hd))

set_option maxRecDepth 100000 in
set_option maxHeartbeats 3200000 in
theorem digitsTakes_ok {w : World} (s : ByteArray) : Calls Tryd.prog 4 #[.string s] w fun e w' => e = .returned (.bool true) ∧ Below w.heap.size w w' := by
  by_cases hs : 300 < s.size
  · have hd : decide ((300 : Int) < (s.size : Int)) = true := decide_eq_true (by omega)
    go_enter Tryd.func4, Tryd.ntmps4
    go_wp2_with fail
    refine (awake03_ok _).mono ?_
    rintro e w1 ⟨rfl, h1⟩
    go_wp2_with fail
    have hS : (s.extract 0 300).size < 1000000 := by simp; omega
    generalize s.extract 0 300 = S at *
    refine (digTake_ok S hS).mono ?_
    rintro e w2 ⟨r2, rfl, n2, h2⟩
    obtain ⟨a, n, cap, rfl, n2⟩ := n2.out
    have hb := below_new (w := w2) (.cells #[.slice a n cap] tNat)
    have E2 := (ext_trans h1 (ext_trans h2 hb))
    have c2 : (w2.alloc (.cells #[.slice a n cap] tNat)).cell? ⟨w2.heap.size, 0, none⟩ = some (.slice a n cap) := by unfold World.cell?; rw [heap_alloc_new]; rfl
    have n2 := n2.mono hb
    go_wp2_with fail
    refine (refTake_ok S hS).mono ?_
    rintro e w3 ⟨rfl, h3⟩
    have c3 := cellE h3 c2
    have n3 := n2.mono h3
    have E3 := ext_trans E2 h3
    clear c2 n2 hb h2 h3 E2 h1
    by_cases hf : (tk (bts S)).1 = 0
    · have hput := tk_put hf (bts_lt S)
      have hb1 := tk_small (bts S)
      rw [length_bts] at hb1
      have hb2 := tk_lt (bts_lt S)
      rw [hf]
      generalize (tk (bts S)).2.1 = by1 at *
      generalize (tk (bts S)).2.2 = re at *
      have hl1 := nb_lenB hb2
      have hl2 := nb_len10 hb2
      have RN := Lib.hid (fun (W : World) => refNum_ok (w := W) (str by1) (by rw [← length_bts, bts_str hb2]; omega))
      rw [bts_str hb2] at RN
      have IS := Lib.hid (fun (W : World) (E : Below w3.heap.size w3 W) (u : Value) (g : DecV W u (nb by1)) => is_ok (n3.mono E) g (by omega) (by omega))
      have PT := Lib.hid (fun (W : World) (E : Below w3.heap.size w3 W) => put_ok (v := .slice none 0 0) (l := []) ⟨none, 0, rfl, Nat.le_refl _, .inl ⟨rfl, fun _ => rfl⟩⟩ (by decide) (n3.mono E) (by omega))
      rw [decide_eq_true rfl] at IS
      rw [List.nil_append] at PT
      go_wp2_with fail
      refine wp_region_E (Array.replicate 14 true) 14 0 mixed (by rfl) ?_
      have kE0 := ext_drew w3
      have hg0 := Gr.cell kE0 c3
      refine wpE_seg' [0, 1] 12 rfl (by kernel_rfl) ?_
      refine seg_ex ?_
      iterate 2 (refine ex_cons rfl ?_)
      refine ex_nil ?_
      iterate 2 (go_big_quiet_step (rfl))
      refine seg_nil ?_
      clear hg0
      refine wpE_one 2 (by kernel_rfl) rfl ?_
      go_wp2_with fail
      refine (RN.out _).mono ?_
      rintro e k1w ⟨u1, rfl, d1, k1b⟩
      go_wp2_with fail
      refine QE_intro k1b ?_
      have k1E := ext_trans kE0 k1b
      refine wpE_one 3 (by kernel_rfl) rfl ?_
      go_wp2_with fail
      refine (IS.out _ k1E _ d1).mono ?_
      rintro e k2w ⟨rfl, k2b⟩
      go_wp2_with fail
      refine QE_intro k2b ?_
      have k2E := ext_trans k1E k2b
      have hg0 := Gr.cell k2E c3
      refine wpE_seg' [4, 5, 8, 10] 6 rfl (by kernel_rfl) ?_
      refine seg_ex ?_
      iterate 4 (refine ex_cons rfl ?_)
      refine ex_nil ?_
      iterate 4 (go_big_quiet_step (rfl))
      refine seg_nil ?_
      clear hg0
      refine wpE_one 6 (by kernel_rfl) rfl ?_
      go_wp2_with fail
      refine (PT.out _ k2E).mono ?_
      rintro e k3w ⟨u3, rfl, o3, k3b⟩
      go_wp2_with fail
      refine QE_intro k3b ?_
      have k3E := ext_trans k2E k3b
      have L3 := (Sl.of_own o3).any
      obtain ⟨a3, c3', rfl, _⟩ := SlA.outB L3
      have hcv := fun g : Gr k3w => conv_str (L3.mono g.ext) (putB_lt (nb by1))
      have hsum : ¬ 9223372036854775807 < (str (putB (nb by1))).size + (str re).size := by
        have := congrArg List.length hput
        rw [List.length_append, length_bts] at this
        rw [size_str, size_str]
        omega
      have hfin : ((str (putB (nb by1)) ++ str re).toList == S.toList) = true := by
        rw [beq_iff_eq, str_append, hput, str_bts]
      refine wpE_seg' [7, 9, 11, 12, 13] 0 rfl (by kernel_rfl) ?_
      refine seg_ex ?_
      iterate 5 (refine ex_cons rfl ?_)
      refine ex_nil ?_
      iterate 5 (go_big_quiet_step (rfl))
      refine seg_nil ?_
      refine wpE_tail [] (by kernel_rfl) ?_
      refine tail_nil ?_
      go_wp2
      go_ret
      exact ⟨by simp, ext_trans E3 k3E⟩
    · have hb1 : (tk (bts S)).2.1 = [] := tk_err hf
      have hd : (((tk (bts S)).1 : Int) == 0) = false := beq_eq_false_iff_ne.2 (by omega)
      have ZR := Lib.hid (zero_ok n3)
      rw [hb1, show nb [] = 0 from rfl] at ZR
      generalize (tk (bts S)).1 = er at *
      generalize (tk (bts S)).2.2 = re at *
      go_wp2_with fail
      refine ZR.out.mono ?_
      rintro e w4 ⟨rfl, h4⟩
      go_wp2
      go_ret
      exact ⟨by simp, ext_trans E3 h4⟩
  · have hd : decide ((300 : Int) < (s.size : Int)) = false := decide_eq_false (by omega)
    go_enter Tryd.func4, Tryd.ntmps4
    go_wp2_with fail
    refine (awake03_ok _).mono ?_
    rintro e w1 ⟨rfl, h1⟩
    go_wp2_with fail
    have hS : s.size < 1000000 := by omega
    clear hs hd
    generalize s = S at *
    refine (digTake_ok S hS).mono ?_
    rintro e w2 ⟨r2, rfl, n2, h2⟩
    obtain ⟨a, n, cap, rfl, n2⟩ := n2.out
    have hb := below_new (w := w2) (.cells #[.slice a n cap] tNat)
    have E2 := (ext_trans h1 (ext_trans h2 hb))
    have c2 : (w2.alloc (.cells #[.slice a n cap] tNat)).cell? ⟨w2.heap.size, 0, none⟩ = some (.slice a n cap) := by unfold World.cell?; rw [heap_alloc_new]; rfl
    have n2 := n2.mono hb
    go_wp2_with fail
    refine (refTake_ok S hS).mono ?_
    rintro e w3 ⟨rfl, h3⟩
    have c3 := cellE h3 c2
    have n3 := n2.mono h3
    have E3 := ext_trans E2 h3
    clear c2 n2 hb h2 h3 E2 h1
    by_cases hf : (tk (bts S)).1 = 0
    · have hput := tk_put hf (bts_lt S)
      have hb1 := tk_small (bts S)
      rw [length_bts] at hb1
      have hb2 := tk_lt (bts_lt S)
      rw [hf]
      generalize (tk (bts S)).2.1 = by1 at *
      generalize (tk (bts S)).2.2 = re at *
      have hl1 := nb_lenB hb2
      have hl2 := nb_len10 hb2
      have RN := Lib.hid (fun (W : World) => refNum_ok (w := W) (str by1) (by rw [← length_bts, bts_str hb2]; omega))
      rw [bts_str hb2] at RN
      have IS := Lib.hid (fun (W : World) (E : Below w3.heap.size w3 W) (u : Value) (g : DecV W u (nb by1)) => is_ok (n3.mono E) g (by omega) (by omega))
      have PT := Lib.hid (fun (W : World) (E : Below w3.heap.size w3 W) => put_ok (v := .slice none 0 0) (l := []) ⟨none, 0, rfl, Nat.le_refl _, .inl ⟨rfl, fun _ => rfl⟩⟩ (by decide) (n3.mono E) (by omega))
      rw [decide_eq_true rfl] at IS
      rw [List.nil_append] at PT
      go_wp2_with fail
      refine wp_region_E (Array.replicate 14 true) 14 0 mixed (by rfl) ?_
      have kE0 := ext_drew w3
      have hg0 := Gr.cell kE0 c3
      refine wpE_seg' [0, 1] 12 rfl (by kernel_rfl) ?_
      refine seg_ex ?_
      iterate 2 (refine ex_cons rfl ?_)
      refine ex_nil ?_
      iterate 2 (go_big_quiet_step (rfl))
      refine seg_nil ?_
      clear hg0
      refine wpE_one 2 (by kernel_rfl) rfl ?_
      go_wp2_with fail
      refine (RN.out _).mono ?_
      rintro e k1w ⟨u1, rfl, d1, k1b⟩
      go_wp2_with fail
      refine QE_intro k1b ?_
      have k1E := ext_trans kE0 k1b
      refine wpE_one 3 (by kernel_rfl) rfl ?_
      go_wp2_with fail
      refine (IS.out _ k1E _ d1).mono ?_
      rintro e k2w ⟨rfl, k2b⟩
      go_wp2_with fail
      refine QE_intro k2b ?_
      have k2E := ext_trans k1E k2b
      have hg0 := Gr.cell k2E c3
      refine wpE_seg' [4, 5, 8, 10] 6 rfl (by kernel_rfl) ?_
      refine seg_ex ?_
      iterate 4 (refine ex_cons rfl ?_)
      refine ex_nil ?_
      iterate 4 (go_big_quiet_step (rfl))
      refine seg_nil ?_
      clear hg0
      refine wpE_one 6 (by kernel_rfl) rfl ?_
      go_wp2_with fail
      refine (PT.out _ k2E).mono ?_
      rintro e k3w ⟨u3, rfl, o3, k3b⟩
      go_wp2_with fail
      refine QE_intro k3b ?_
      have k3E := ext_trans k2E k3b
      have L3 := (Sl.of_own o3).any
      obtain ⟨a3, c3', rfl, _⟩ := SlA.outB L3
      have hcv := fun g : Gr k3w => conv_str (L3.mono g.ext) (putB_lt (nb by1))
      have hsum : ¬ 9223372036854775807 < (str (putB (nb by1))).size + (str re).size := by
        have := congrArg List.length hput
        rw [List.length_append, length_bts] at this
        rw [size_str, size_str]
        omega
      have hfin : ((str (putB (nb by1)) ++ str re).toList == S.toList) = true := by
        rw [beq_iff_eq, str_append, hput, str_bts]
      refine wpE_seg' [7, 9, 11, 12, 13] 0 rfl (by kernel_rfl) ?_
      refine seg_ex ?_
      iterate 5 (refine ex_cons rfl ?_)
      refine ex_nil ?_
      iterate 5 (go_big_quiet_step (rfl))
      refine seg_nil ?_
      refine wpE_tail [] (by kernel_rfl) ?_
      refine tail_nil ?_
      go_wp2
      go_ret
      exact ⟨by simp, ext_trans E3 k3E⟩
    · have hb1 : (tk (bts S)).2.1 = [] := tk_err hf
      have hd : (((tk (bts S)).1 : Int) == 0) = false := beq_eq_false_iff_ne.2 (by omega)
      have ZR := Lib.hid (zero_ok n3)
      rw [hb1, show nb [] = 0 from rfl] at ZR
      generalize (tk (bts S)).1 = er at *
      generalize (tk (bts S)).2.2 = re at *
      go_wp2_with fail
      refine ZR.out.mono ?_
      rintro e w4 ⟨rfl, h4⟩
      go_wp2
      go_ret
      exact ⟨by simp, ext_trans E3 h4⟩
end Go.Proofs.YtcabmibcgedhhaaDoor

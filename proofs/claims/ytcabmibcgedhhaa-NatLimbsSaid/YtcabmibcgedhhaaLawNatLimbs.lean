/-
  The walk of the law NatLimbs.
-/
import Derived.Test.YtcabmibcgedhhaaNat9
import Derived.Test.YtcabmibcgedhhaaLawNatCompares
namespace Go.Proofs.Ytcabmibcgedhhaa
open Go.RowKit Go.Cd

set_option maxRecDepth 100000 in
set_option maxHeartbeats 1600000 in
theorem natLimbs_law {w : World} {v : Value} {l : List Nat} (h : SlA w v (u32s l)) (hl : ∀ d ∈ l, d < B) (q : Int) :
    Calls Try.prog 9 #[v, .int .i64 q] w fun e w' => e = .returned (.bool true) ∧ Below w.heap.size w w' := by
  have hl' := take_lt hl
  have F1 := Lib.hid (fun (W : World) (E : Below w.heap.size w W) => few_ok (h.mono E))
  have HL := Lib.hid hl'
  have lenl : (l.take 40).length ≤ 40 := by simp; omega
  generalize l.take 40 = l' at *
  clear h hl hl'
  go_enter Try.func9, Try.ntmps9
  go_wp2_with fail
  refine (awake01_ok _).mono ?_
  rintro e w1 ⟨rfl, h1⟩
  go_wp2_with fail
  refine (F1.out _ h1).mono ?_
  rintro e w2 ⟨r2, rfl, n2, h2⟩
  have L2 := Sl.of_own n2
  have E2 := ext_trans h1 h2
  have hsz1 : w1.heap.size ≤ w2.heap.size ∧ w.heap.size ≤ w1.heap.size := ⟨h2.size, h1.size⟩
  clear F1 h1
  obtain ⟨k, hk, hk2⟩ : ∃ k : Nat, max 0 (min q 4200) = (k : Int) ∧ k ≤ 4200 := ⟨(max 0 (min q 4200)).toNat, by omega, by omega⟩
  go_wp2_with (first
    | (at_builtin; refine wpList_append_sl rfl _ _ 40 rfl w2.heap.size eU32 _ 4 elemU32 (.slice (some ⟨w2.heap.size, 0, none⟩) 0 0) 0 [] rfl (own_empty _ _) _ (u32s l') rfl (L2.any.mono (below_new _)) (oneCell_u32s l') (by rw [length_u32s]; unfold maxLen; omega) (by rw [length_u32s]; omega) (by simp) ?_; intro v3 w3 hown3 hgrow3)
    | (at_builtin; refine wpList_append_zeros rfl _ _ 40 3 rfl .i64 .i64 Try.underlying3 w2.heap.size eU32 _ 4 elemU32 rfl v3 (0 + (u32s l').length) ([] ++ u32s l') rfl hown3 k rfl (by rw [length_u32s]; unfold maxLen; omega) (by rw [length_u32s]; omega) (by have := hgrow3.size; simp at this; omega) ?_; intro v4 w4 hown4 hgrow4))
  have e4 : ([] ++ u32s l' ++ List.replicate k (Value.int IntKind.u32 0)) = u32s (l' ++ List.replicate k 0) := by simp [u32s]
  rw [e4] at hown4
  have hB3 : Below w2.heap.size w2 w3 := (below_new _).grown hgrow3 (by simp) (fun k hk => Nat.le_of_eq (Option.some.inj hk))
  have hB4 : Below w2.heap.size w2 w4 := hB3.grown hgrow4 hB3.size (fun j hj => (hown3.lt j hj).1)
  have hpd : ∀ d ∈ l' ++ List.replicate k 0, d < B := by
    intro d hd
    rcases List.mem_append.1 hd with h | h
    · exact HL.out d h
    · rw [(List.mem_replicate.1 h).2]; decide
  have hlp : (l' ++ List.replicate k 0).length < 1099511627776 := by simp; omega
  have hvp : val B (l' ++ List.replicate k 0) = val B l' := by rw [val_append, val_zeros, Nat.mul_zero, Nat.add_zero]
  have HP := Lib.hid hpd
  have HLP := Lib.hid hlp
  have HVP := Lib.hid hvp
  have lX := val_len_lt two_le_B HL.out
  have hsz : w2.heap.size ≤ w4.heap.size := hB4.size
  clear hpd hlp hvp hgrow3 hgrow4 hown3 hB3 e4 hk h2
  refine (limbs_fresh (L2.mono hB4) HL.out (by omega)).mono ?_
  rintro e w5 ⟨r5, rfl, N5, h5⟩
  go_wp2_with fail
  refine (limbs_fresh ((Sl.of_own hown4).mono h5) HP.out HLP.out).mono ?_
  rintro e w6 ⟨r6, rfl, N6, h6⟩
  rw [HVP.out] at N6
  have N5 := N5.mono h6
  have hsz2 : w4.heap.size ≤ w5.heap.size := h5.size
  have hsz3 : w5.heap.size ≤ w6.heap.size := h6.size
  have E6 := ext_trans hB4 (ext_trans h5 h6)
  have E6w := ext_trans E2 E6
  have O2 := own_ext n2 E6
  generalize val B l' = X at *
  obtain ⟨a, n, cap, rfl, M5, f5⟩ := N5
  obtain ⟨a2, q2, cap2, rfl, M6, f6⟩ := N6
  have hb := below2 (w := w6) (.cells #[.slice a n cap] 42) (.cells #[.slice a2 q2 cap2] 42)
  have hc := ext_trans E6w hb
  have c1 : ((w6.alloc (.cells #[.slice a n cap] 42)).alloc (.cells #[.slice a2 q2 cap2] 42)).cell? ⟨w6.heap.size, 0, none⟩ = some (.slice a n cap) := by go_simp
  have c2 : ((w6.alloc (.cells #[.slice a n cap] 42)).alloc (.cells #[.slice a2 q2 cap2] 42)).cell? ⟨w6.heap.size + 1, 0, none⟩ = some (.slice a2 q2 cap2) := by go_simp
  have P5 : NatF w4.heap.size ((w6.alloc (.cells #[.slice a n cap] 42)).alloc (.cells #[.slice a2 q2 cap2] 42)) (.agg #[.slice a n cap]) X := NatF.mono ⟨_, _, _, rfl, M5, f5⟩ hb
  have P6 : NatF w4.heap.size ((w6.alloc (.cells #[.slice a n cap] 42)).alloc (.cells #[.slice a2 q2 cap2] 42)) (.agg #[.slice a2 q2 cap2]) X := NatF.mono ⟨_, _, _, rfl, M6, fun p hp => Nat.le_trans hsz2 (f6 p hp)⟩ hb
  have O3 := own_ext O2 hb
  have T0 := ext_refl ((w6.alloc (.cells #[.slice a n cap] 42)).alloc (.cells #[.slice a2 q2 cap2] 42))
  have S1 := Lib.hid (fun (W : World) (E : Below _ _ W) => same_ok (P5.val.mono E) (P6.val.mono E) (by omega))
  rw [show decide (X = X) = true from decide_eq_true rfl] at S1
  have B1 := Lib.hid (fun (W : World) (E : Below _ _ W) => bits_ok (P5.val.mono E) (by omega))
  have B2 := Lib.hid (fun (W : World) (E : Below _ _ W) => bits_ok (P6.val.mono E) (by omega))
  have SC := Lib.hid (fun (W : World) (g : NatF w4.heap.size W (.agg #[.slice a n cap]) X) (h : NatF w4.heap.size W (.agg #[.slice a2 q2 cap2]) X) => same_ok g.val h.val (by omega))
  rw [show decide (X = X) = true from decide_eq_true rfl] at SC
  have CC := Lib.hid (fun (W : World) (g : NatF w4.heap.size W (.agg #[.slice a n cap]) X) (h : NatF w4.heap.size W (.agg #[.slice a2 q2 cap2]) X) => compare_ok g.val h.val (by omega) (by omega))
  rw [show cmpN X X = 0 from by unfold cmpN; simp] at CC
  generalize (digs 2 X).length = D at *
  have hsz4 : w4.heap.size ≤ w6.heap.size := by omega
  clear M5 M6 f5 f6 O2 hb h5 h6 hown4 L2 hB4 E6 E6w HP HLP HVP lX E2 hsz2 hsz3
  go_wp2_with fail
  refine wp_region_E (Array.replicate 11 true) 11 0 mixed (by rfl) ?_
  have kE0 := ext_trans T0 (ext_drew _)
  have hg0 := Gr.cell kE0 c1
  have hg1 := Gr.cell kE0 c2
  refine wpE_seg' [0, 1] 9 rfl (by kernel_rfl) ?_
  iterate 2 (refine seg_cons rfl ?_; go_big_quiet_step (rfl))
  refine seg_nil ?_
  clear hg0 hg1
  refine wpE_one 2 (by kernel_rfl) rfl ?_
  go_wp2_with fail
  refine (S1.out _ kE0).mono ?_
  rintro e k1w ⟨rfl, k1b⟩
  go_wp2_with fail
  refine QE_intro k1b ?_
  have k1E := ext_trans kE0 k1b
  have hg0 := Gr.cell k1E c1
  have hg1 := Gr.cell k1E c2
  refine wpE_seg' [3, 4, 5, 7] 4 rfl (by kernel_rfl) ?_
  iterate 4 (refine seg_cons rfl ?_; go_big_quiet_step (rfl))
  refine seg_nil ?_
  clear hg0 hg1
  refine wpE_one 6 (by kernel_rfl) rfl ?_
  go_wp2_with fail
  refine (B1.out _ k1E).mono ?_
  rintro e k2w ⟨rfl, k2b⟩
  go_wp2_with fail
  refine QE_intro k2b ?_
  have k2E := ext_trans k1E k2b
  refine wpE_one 8 (by kernel_rfl) rfl ?_
  go_wp2_with fail
  refine (B2.out _ k2E).mono ?_
  rintro e k3w ⟨rfl, k3b⟩
  go_wp2_with fail
  refine QE_intro k3b ?_
  have k3E := ext_trans k2E k3b
  have hg0 := Gr.cell k3E c1
  have hg1 := Gr.cell k3E c2
  refine wpE_seg' [9, 10] 0 rfl (by kernel_rfl) ?_
  iterate 2 (refine seg_cons rfl ?_; go_big_quiet_step (rfl))
  refine seg_nil ?_
  clear hg0 hg1
  refine wpE_tail [] (by kernel_rfl) ?_
  refine tail_nil ?_
  have d1 := cellE k3E c1
  have d2 := cellE k3E c2
  have O4 := own_ext O3 k3E
  have P5 := P5.mono k3E
  have P6 := P6.mono k3E
  have hcE := ext_trans hc k3E
  clear c1 c2 O3 k3E hc B1 B2 S1 T0
  rcases n2.2 with ⟨rfl, h0⟩ | ⟨g, cap3, cur, rfl, hg, hh, _⟩
  · obtain rfl : l' = [] := List.length_eq_zero_iff.1 h0
    clear n2 O4
    go_wp2_with fail
    go_loopw [38] (fun i wr => i = .int .i64 0 ∧ wr = k3w)
      (fun _ _ => 0)
    case atStart => exact ⟨rfl, rfl⟩
    case round =>
      obtain ⟨rfl, rfl⟩ := hrel
      go_wp2_with fail
      refine (SC.out _ P5 P6).mono ?_
      rintro e y1 ⟨rfl, b1⟩
      have d1 := cellE b1 d1
      have d2 := cellE b1 d2
      have P5 := P5.mono b1
      have P6 := P6.mono b1
      go_wp2_with fail
      refine (CC.out _ P5 P6).mono ?_
      rintro e y2 ⟨rfl, b2⟩
      go_wp2_with fail
      go_ret
      exact ⟨rfl, ext_trans hcE (ext_trans b1 b2)⟩
  · have hgl := block_lt hh
    have hys : ∃ ys : List Value, k3w.ownsRow w1.heap.size eU32 1 (.slice (some ⟨g, 0, none⟩) l'.length cap3) l'.length ys ∧ ∀ y ∈ ys, ∃ z : Int, y = .int .u32 z :=
      ⟨_, O4, fun y hy => by simp only [u32s, List.mem_map] at hy; obtain ⟨d, _, rfl⟩ := hy; exact ⟨_, rfl⟩⟩
    clear n2 O4 hh
    generalize l'.length = L at *
    clear HL
    go_wp2_with fail
    go_loopw [38] (fun i wr => ∃ j : Nat, j ≤ L ∧ i = .int .i64 j ∧ (∃ ys : List Value, wr.ownsRow w1.heap.size eU32 1 (.slice (some ⟨g, 0, none⟩) L cap3) L ys ∧ ∀ y ∈ ys, ∃ z : Int, y = .int .u32 z) ∧
        NatF w4.heap.size wr (.agg #[.slice a n cap]) X ∧ NatF w4.heap.size wr (.agg #[.slice a2 q2 cap2]) X ∧ wr.cell? ⟨w6.heap.size, 0, none⟩ = some (.slice a n cap) ∧ wr.cell? ⟨w6.heap.size + 1, 0, none⟩ = some (.slice a2 q2 cap2) ∧ Below w.heap.size w wr)
      (fun i _ => L - (intOf i).toNat)
    case atStart => exact ⟨0, Nat.zero_le _, rfl, hys, P5, P6, d1, d2, hcE⟩
    case round =>
      obtain ⟨j, hj, rfl, ⟨ys, hO, hZ⟩, P5, P6, d1, d2, hcE⟩ := hrel
      by_cases hjL : j < L
      · have hyl : ys.length = L := by have := hO.1; omega
        obtain ⟨hcell, hfz⟩ := own_at hO (j := j) (by omega)
        obtain ⟨z, hz⟩ := hZ ys[j] (List.getElem_mem _)
        rw [hz] at hcell
        have HS := Lib.hid (fun (u : Value) => (hO.stored j u).1)
        have HZ := Lib.hid hZ
        have hlt := hO.lt g rfl
        have d1' : ∀ u, (wr.setCell ⟨g, j, none⟩ u).cell? ⟨w6.heap.size, 0, none⟩ = some (.slice a n cap) := fun u => (World.cell?_of_block (Below.heap_setCell _ _ _ _ (by simp only; omega))).trans d1
        have d2' : ∀ u, (wr.setCell ⟨g, j, none⟩ u).cell? ⟨w6.heap.size + 1, 0, none⟩ = some (.slice a2 q2 cap2) := fun u => (World.cell?_of_block (Below.heap_setCell _ _ _ _ (by simp only; omega))).trans d2
        have D1 := Lib.hid d1'
        have D2 := Lib.hid d2'
        clear hz hZ hys d1' d2'
        go_wp2
        go_roundw
        case rel =>
          refine ⟨j + 1, by omega, rfl, ⟨_, HS.out _, fun y hy => ?_⟩, P5.put (by omega), P6.put (by omega), D1.out _, D2.out _, below_put hcE (by omega)⟩
          rcases List.mem_or_eq_of_mem_set hy with h | rfl
          · exact HZ.out y h
          · exact ⟨_, rfl⟩
        case measure => simp [intOf]; omega
      · have hjj : j = L := by omega
        subst hjj
        clear hO hZ hys
        go_wp2_with fail
        refine (SC.out _ P5 P6).mono ?_
        rintro e y1 ⟨rfl, b1⟩
        have d1 := cellE b1 d1
        have d2 := cellE b1 d2
        have P5 := P5.mono b1
        have P6 := P6.mono b1
        go_wp2_with fail
        refine (CC.out _ P5 P6).mono ?_
        rintro e y2 ⟨rfl, b2⟩
        go_wp2_with fail
        go_ret
        exact ⟨rfl, hcE.trans ((ext_trans b1 b2).mono hcE.size)⟩
end Go.Proofs.Ytcabmibcgedhhaa

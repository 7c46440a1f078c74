/-
  The walk of radix.New where no base is less than 1.
-/
import Derived.Test.YtcabmibcgedhhaaRad3
namespace Go.Proofs.Ytcabmibcgedhhaa
open Go.RowKit Go.Cd Go.Shelf

attribute [local go_sem] Oper.semAt_some

theorem any_ds (bs : List Nat) (h : ∀ b ∈ bs, 1 ≤ b) : ((bs.map fun b : Nat => (b : Int)).any fun b => decide (b < 1)) = false := by
  rw [List.any_eq_false]
  intro b hb
  obtain ⟨c, hc, rfl⟩ := List.mem_map.1 hb
  have := h c hc
  simp; omega

theorem i64s_ds (bs : List Nat) : i64s (bs.map fun b : Nat => (b : Int)) = ds bs := by simp [i64s, ds]

set_option maxRecDepth 100000 in
set_option maxHeartbeats 3200000 in
theorem new_walk {w : World} {v : Value} {bs : List Nat} (h : SlA w v (ds bs)) (hmax : bs.length < 1099511627776) (hpos : ∀ b ∈ bs, 1 ≤ b) (hbig : ∀ b ∈ bs, b < 9223372036854775808) :
    Calls Try.prog 20 #[v] w fun e w' => ∃ (r : Value) (e0 : Nat), e = .returned (.tuple #[r, .int .i64 e0]) ∧ Below w.heap.size w w' ∧ ((prodN bs ≤ 1073741824 ∧ e0 = 0 ∧ RadixV w' r bs) ∨ (1073741824 < prodN bs ∧ e0 = 4 ∧ r = .agg #[.slice none 0 0, .slice none 0 0, .int .i64 0])) := by
  rw [← i64s_ds] at h
  have hb := below2 (w := w) (.cells #[.slice none 0 0, .slice none 0 0, .int .i64 0] tRadix) (.cells #[.int .i64 0] 26)
  have CF := Lib.hid (containsFunc_ok (h.mono hb) (by simpa using hmax))
  have z2 : ((w.alloc (.cells #[.slice none 0 0, .slice none 0 0, .int .i64 0] tRadix)).alloc (.cells #[.int .i64 0] 26)).heap[w.heap.size]? = some (.cells #[.slice none 0 0, .slice none 0 0, .int .i64 0] tRadix) := ((below_new _).block _ (by simp)).trans (heap_alloc_new' _ _ _ rfl)
  have z3 : ((w.alloc (.cells #[.slice none 0 0, .slice none 0 0, .int .i64 0] tRadix)).alloc (.cells #[.int .i64 0] 26)).heap[w.heap.size + 1]? = some (.cells #[.int .i64 0] 26) := heap_alloc_new' _ _ _ (by simp)
  rw [any_ds bs hpos] at CF
  have CL := Lib.hid (fun (W : World) (E : Below _ ((w.alloc (.cells #[.slice none 0 0, .slice none 0 0, .int .i64 0] tRadix)).alloc (.cells #[.int .i64 0] 26)) W) => cloneI_ok ((h.mono hb).mono E) (by simpa using hmax))
  rw [i64s_ds, List.length_map] at CL
  obtain ⟨x1, cp1, rfl, hcp1, _⟩ := SlA.outI h
  rw [List.length_map] at *
  have HPOS := Lib.hid hpos
  have HBIG := Lib.hid hbig
  clear h hpos hbig
  refine calls_of_marks Try.func20 rfl ?_
  simp only [Try.ntmps20, List.size_toArray, List.length_cons, List.length_nil, Nat.reduceAdd, Nat.reduceSub, Array.replicate_succ, Array.replicate_zero, List.push_toArray, List.append_toArray, List.nil_append, List.cons_append]
  go_wp2_with fail
  refine CF.out.mono ?_
  rintro e w2 ⟨rfl, hb2⟩
  have y2 : Is3 w2 w.heap.size (.slice none 0 0) (.slice none 0 0) (.int .i64 0) tRadix := ⟨(hb2.block _ (by simp <;> omega)).trans z2⟩
  have y3 := (hb2.block _ (by simp)).trans z3
  have T0 := ext_refl w2
  have CL2 := Lib.hid (fun (W : World) (E : Below w2.heap.size w2 W) => CL.out W (ext_trans hb2 E))
  have hB2 := hb.trans (hb2.mono hb.size)
  have hs2 : w.heap.size + 2 ≤ w2.heap.size := by have := hb2.size; simp at this; omega
  clear CF CL hb2 hb z2 z3
  go_wp2_with fail
  refine wp_region_E #[true, true, true, true, true, true, true, false] 7 1 mixed (by rfl) ?_
  have kE0 := ext_trans T0 (ext_drew _)
  refine wpE_seg' [0, 2, 3] 4 rfl (by kernel_rfl) ?_
  iterate 3 (refine seg_cons rfl ?_; go_big_quiet_step (rfl))
  refine seg_nil ?_
  refine wpE_mk [6] (fun _ v W => ∃ k, v = .pointer (some ⟨k, 0, none⟩) ∧ W.heap[k]? = some (.cells #[.slice none 0 0, .slice none 0 0, .int .i64 0] tRadix)) blkOf 3 rfl (by kernel_rfl) (fun _ _ _ _ hb h => blk_mono hb h) ?_ ?_
  · intro i hi o ho
    simp only [List.mem_cons, List.not_mem_nil, or_false] at hi
    subst hi
    cases ho
    exact mk_alloc rfl rfl (fun W => by go_simp)
  refine wpH_two 1 4 (by kernel_rfl) rfl rfl ?_ ?_
  · intro k1v k1c
    have k1D := ext_trans kE0 k1c
    go_wp2_with fail
    refine (CL2.out _ k1D).mono ?_
    rintro e k1w ⟨s1, rfl, o1, k1b⟩
    obtain ⟨a1, c1, rfl, _, _⟩ := SlA.out (Sl.of_own o1).any
    rw [length_ds] at *
    go_wp2_with fail
    refine QE_intro k1b ?_
    have k1E := ext_trans k1D k1b
    refine wpH_one 4 (by kernel_rfl) rfl ?_
    intro k2v k2c
    go_wp2_with (at_make; refine wpList_make_sl _ rfl _ _ 22 rfl k2v.heap.size eInt _ 8 elemInt rfl .i64 .i64 _ _ bs.length rfl rfl (by omega) (by omega) (by omega) (by unfold maxLen; omega) (by simp) ?_; intro k2w o2 hg2)
    refine QE_intro (grown_ext hg2) ?_
    have k2b := grown_ext hg2
    have k2E := ext_trans (ext_trans k1E k2c) k2b
    have hne : (Value.slice a1 bs.length c1).ownBlock ≠ some k2v.heap.size := fun e => by
      have := (o1.lt _ e).2
      have := k2c.size
      omega
    have o1 := own_ext o1 (ext_trans k2c k2b)
    obtain ⟨g, hg⟩ : ∃ g, g = k2v.heap.size := ⟨_, rfl⟩
    rw [← hg] at o2 hne ⊢
    have hgs : w2.heap.size ≤ g := by have := (ext_trans k1E k2c).size; omega
    clear hg hg2 k1D k1E k1b k1c k2c k2b kE0
    refine wpH_seg' [5] 0 rfl (by kernel_rfl) ?_
    refine seg_cons rfl ?_; go_big_quiet_step (rfl)
    refine seg_nil ?_
    refine wpH_tail [7] (by kernel_rfl) ?_
    intro W Wb vs hR hD
    have WE := ext_trans k2E Wb
    obtain ⟨⟨X, hv, hh⟩, hN, hbk⟩ := hR 6 (by simp)
    rw [hv] at hN hbk
    simp only [blkOf] at hN hbk
    rw [putS_one (d := some 4) rfl, hv]
    have o1 := own_ext o1 Wb
    have o2 := own_ext o2 Wb
    have IX : Is3 W X (.slice none 0 0) (.slice none 0 0) (.int .i64 0) tRadix := ⟨hh⟩
    have hgX : g ≠ X := fun e => by
      have := o2.2
      rcases this with ⟨h, _⟩ | ⟨g', _, cur, h, _, h2, _⟩
      · cases h
      · cases h
        rw [e, hh] at h2
        cases h2
    have h1X : (Value.slice a1 bs.length c1).ownBlock ≠ some X := fun e => by
      rcases o1.2 with ⟨h, _⟩ | ⟨g', _, cur, h, _, h2, _⟩
      · rw [h] at e; cases e
      · rw [h] at e
        cases e
        rw [hh] at h2
        cases h2
    obtain ⟨⟨g1, g2⟩, g3, g4⟩ := IX.writes
    have g5 := fun u => (g3 u).1
    have g6 := fun u => (g3 u).2
    have g7 := fun u u' => (g4 u u').1
    have g8 := fun u u' => (g4 u u').2
    have gx0 := Is3.set0 IX (.slice a1 bs.length c1)
    have gx1 := gx0.set1 (.slice (some ⟨g, 0, none⟩) bs.length bs.length)
    have FX := gx1.set2 (.int .i64 1)
    have hW0 : ∀ (W : World) (k o : Nat) (u : Value), W.grownBy (W.setCell ⟨k, o, none⟩ u) (some k) := fun W k o u => ⟨rfl, rfl, rfl, by simp, fun j _ hj => heap_setCell_other W ⟨k, o, none⟩ j u (fun e => hj (by simp [e]))⟩
    have o1 := ((o1.kept (hW0 _ X 0 (.slice a1 bs.length c1)) (.inr h1X)).kept (hW0 _ X 1 (.slice (some ⟨g, 0, none⟩) bs.length bs.length)) (.inr h1X)).kept (hW0 _ X 2 (.int .i64 1)) (.inr h1X)
    have hgX' : (Value.slice (some ⟨g, 0, none⟩) bs.length bs.length).ownBlock ≠ some X := fun e => hgX (by simpa [Value.ownBlock] using e)
    have o2 := ((o2.kept (hW0 _ X 0 (.slice a1 bs.length c1)) (.inr hgX')).kept (hW0 _ X 1 (.slice (some ⟨g, 0, none⟩) bs.length bs.length)) (.inr hgX')).kept (hW0 _ X 2 (.int .i64 1)) (.inr hgX')
    have hN' : w2.heap.size ≤ X := hN
    have hX2 : w.heap.size + 2 ≤ X := by omega
    have F2 := (((y2.mono WE).put (j := X) (o := 0) (by omega) (.slice a1 bs.length c1)).put (j := X) (o := 1) (by omega) (.slice (some ⟨g, 0, none⟩) bs.length bs.length)).put (j := X) (o := 2) (by omega) (.int .i64 1)
    have F3 : (((W.setCell ⟨X, 0, none⟩ (.slice a1 bs.length c1)).setCell ⟨X, 1, none⟩ (.slice (some ⟨g, 0, none⟩) bs.length bs.length)).setCell ⟨X, 2, none⟩ (.int .i64 1)).heap[w.heap.size + 1]? = some (.cells #[.int .i64 0] 26) := by
      rw [Below.heap_setCell _ _ _ _ (by simp only; omega), Below.heap_setCell _ _ _ _ (by simp only; omega), Below.heap_setCell _ _ _ _ (by simp only; omega)]
      exact (WE.block _ (block_lt y3)).trans y3
    have EB : Below w.heap.size w (((W.setCell ⟨X, 0, none⟩ (.slice a1 bs.length c1)).setCell ⟨X, 1, none⟩ (.slice (some ⟨g, 0, none⟩) bs.length bs.length)).setCell ⟨X, 2, none⟩ (.int .i64 1)) :=
      below_put (below_put (below_put (hB2.trans (WE.mono hB2.size)) (by omega)) (by omega)) (by omega)
    refine tail_l (os := [_]) rfl ?_
    clear WE Wb hR hD hv hh hN hbk k2E IX gx0 gx1 g3 g4
    go_wp2_with fail
    clear g1 g2 g5 g6 g7 g8
    refine qp_nil ?_
    obtain ⟨W0, hW⟩ : ∃ W0, ((W.setCell ⟨X, 0, none⟩ (.slice a1 bs.length c1)).setCell ⟨X, 1, none⟩ (.slice (some ⟨g, 0, none⟩) bs.length bs.length)).setCell ⟨X, 2, none⟩ (.int .i64 1) = W0 := ⟨_, rfl⟩
    rw [hW] at FX o1 o2 F2 F3 EB ⊢
    have hWW := Lib.hid hW
    clear hW
    obtain ⟨e0, e1, e2⟩ := FX.cell
    go_wp2_with fail
    refine (backwardI_ok _ W0 ⟨_, _, _, rfl⟩).mono ?_
    rintro e w5 ⟨rfl, rfl⟩
    go_wp2_with fail
    have HNE := Lib.hid hne
    have WL := Lib.hid (show W0.heap.size ≤ (W0.alloc (.cells #[.slice a1 bs.length c1] 22)).heap.size by simp)
    have hX0 : X < W0.heap.size := block_lt FX.at_
    have hg0 : g < W0.heap.size := (o2.lt g rfl).2
    have e2 : List.replicate bs.length (Value.int .i64 0) = ds (stN bs.length []).1 := by simp [ds, stN]
    rw [e2] at o2
    obtain ⟨bb, hbl, hbo, hIA⟩ : ∃ bb, bb ≤ W0.heap.size ∧ (0 < bs.length → (Value.slice a1 bs.length c1).ownBlock = some bb) ∧ IntsAt bb (W0.alloc (.cells #[.slice a1 bs.length c1] 22)) (.slice a1 bs.length c1) bs.length (fun j => ((elB bs j).1.2 : Int)) := by
      rcases (Sl.of_own o1).any.cases with ⟨hn, a, cap, hv, _⟩ | ⟨b, off, cap, hv, hc, hp, hb, hx⟩
      · have hl : bs = [] := by simpa [ds] using hn
        subst hl
        exact ⟨0, Nat.zero_le _, fun h => absurd h (by simp), .inl ⟨rfl, _, _, rfl⟩⟩
      · rw [length_ds] at hv
        cases hv
        refine ⟨b, Nat.le_of_lt hb, fun _ => rfl, .inr ⟨off, _, rfl, by simp; omega, fun j hj => ?_⟩⟩
        rw [(below_new _).cell (p := ⟨b, off + j, none⟩) hb, hx j (by rw [length_ds]; exact hj), ds_getElem _ _ hj]
        show _ = some (Value.int .i64 (((elB bs j).1.2 : Nat) : Int))
        rw [elB_at HPOS.out HBIG.out hj]
    refine (wpIn_wide (n := 5)).1 ?_
    refine wpIn_rangeFunc_ownG (F := Fence.wide) rfl (by omega) (gf := 100) (lb := #[.pointer (some ⟨W0.heap.size, 0, none⟩)]) rfl trivial (enters_of Try.func100 (by kernel_rfl) rfl)
      (backI_stops Fence.wide 4 trivial rfl (by omega) W0.heap.size bb (.slice a1 bs.length c1) bs.length hmax (elB bs) (fun x => #[.int .i64 (x.1.1 : Int), .int .i64 (x.1.2 : Int)]) (fun j => ((elB bs j).1.2 : Int))
        (fun j hj => by rw [elB_at HPOS.out HBIG.out hj]) (W0.alloc (.cells #[.slice a1 bs.length c1] 22)) (by simp) (by go_simp) hIA)
      (fun h k => h.trans k) (fun W l o o' hl ho hc _ => by
        have hl' : W0.heap.size + 1 ≤ l := by simpa using hl
        exact ⟨World.putObj_heap_other (by omega), World.putObj_heap_other (by omega)⟩) (Below.refl _ _) (fun _ => rfl)
      (fun pre W => (((1 ≤ (stN bs.length pre).2 ∧ (stN bs.length pre).2 ≤ 1073741824) ∧ Is3 W X (.slice a1 bs.length c1) (.slice (some ⟨g, 0, none⟩) bs.length bs.length) (.int .i64 ((stN bs.length pre).2 : Nat)) tRadix ∧ W.ownsRow 0 eInt 1 (.slice (some ⟨g, 0, none⟩) bs.length bs.length) bs.length (ds (stN bs.length pre).1) ∧
        W.ownsRow 0 eInt 1 (.slice a1 bs.length c1) bs.length (ds bs) ∧ Is3 W w.heap.size (.slice none 0 0) (.slice none 0 0) (.int .i64 0) tRadix ∧ W.heap[w.heap.size + 1]? = some (.cells #[.int .i64 0] 26)) ∧ Below w.heap.size w W))
      (fun c pre W => (c = .ret ∧ (∃ (ini : List (BX bs.length)) (last : BX bs.length), pre = ini ++ [last] ∧ 1073741824 / (stN bs.length ini).2 < last.1.2) ∧ Is3 W w.heap.size (.slice none 0 0) (.slice none 0 0) (.int .i64 0) tRadix ∧ W.heap[w.heap.size + 1]? = some (.cells #[.int .i64 4] 26)) ∧ Below w.heap.size w W)
      (OwnFrom.and (Own.from (fun s A B row hs hg hr => ⟨hs.1, ⟨keepC hg hr hs.2.1.at_⟩, ownC hg hr hs.2.2.1, ownC hg hr hs.2.2.2.1, ⟨keepC hg hr hs.2.2.2.2.1.at_⟩, keepC hg hr hs.2.2.2.2.2⟩) _) (ownFrom_below (Nat.le_refl _) (by have := EB.size; simp; omega)))
      (fun c => OwnFrom.and (Own.from (fun s A B row hs hg hr => ⟨hs.1, hs.2.1, ⟨keepC hg hr hs.2.2.1.at_⟩, keepC hg hr hs.2.2.2⟩) _) (ownFrom_below (Nat.le_refl _) (by have := EB.size; simp; omega)))
      ⟨⟨⟨Nat.le_refl _, by show (1 : Nat) ≤ 1073741824; decide⟩, FX.mono (below_new _), own_base (own_ext o2 (below_new _)) (Nat.zero_le _), own_base (own_ext o1 (below_new _)) (Nat.zero_le _), F2.mono (below_new _), ((below_new _).block _ (block_lt F3)).trans F3⟩, EB.alloc EB.size _⟩
      (fun x => { tmps := #[.slice x1 bs.length cp1, undef, .pointer (some ⟨w.heap.size, 0, none⟩), .pointer (some ⟨w.heap.size + 1, 0, none⟩), .pointer (some ⟨X, 0, none⟩), .int .i64 (x.1.1 : Int), .int .i64 (x.1.2 : Int), .slice x1 bs.length cp1, .bool false, undef, .slice x1 bs.length cp1,
        .slice a1 bs.length c1, .slice x1 bs.length cp1, .int .i64 (bs.length : Int), .slice (some ⟨g, 0, none⟩) bs.length bs.length, .agg #[.slice a1 bs.length c1, .slice (some ⟨g, 0, none⟩) bs.length bs.length, .int .i64 1], .pointer (some ⟨X, 0, none⟩), .slice a1 bs.length c1,
        .func (.func 100) #[] #[.pointer (some ⟨W0.heap.size, 0, none⟩)], .int .i64 (x.1.1 : Int), .int .i64 (x.1.2 : Int), undef, undef, undef, undef, undef, undef, undef, undef, undef, undef, undef, undef, undef, undef, undef, undef, undef, undef], defers := [] }) ?assign ?body ?done ?stop
    case assign =>
      intro l x W K hK
      gi_wp2
      exact hK
    case body =>
      rintro l pre ⟨⟨i, b⟩, hi, hb1, hb2⟩ Wr ⟨⟨⟨hs1, hs2⟩, JX, q2, q1, G2, G3⟩, hB⟩ hlt
      have hin : i < bs.length := by rcases hi with h | h; exact h; omega
      have hsn := stN_snoc pre ⟨(i, b), hi, hb1, hb2⟩
      have hsl := stN_len pre
      obtain ⟨row, s, hst⟩ : ∃ row s, stN bs.length pre = (row, s) := ⟨_, _, rfl⟩
      rw [hst] at hsn hsl hs1 hs2 JX q2
      simp only at hsn hsl hs1 hs2 JX q2 hb1 hb2 hi
      have HST := Lib.hid hst
      have HSN := Lib.hid hsn
      clear hst hsn
      obtain ⟨u0, u1, u2⟩ := JX.cell
      obtain ⟨hcell, hfr⟩ := own_at q2 (j := i) (by simp; omega)
      rw [ds_getElem _ _ (by omega)] at hcell
      have hgX2 : X ≠ g := fun e => hgX e.symm
      obtain ⟨q3, hgr⟩ := q2.stored i (.int .i64 (s : Int))
      have e3 : (ds row).set i (.int .i64 (s : Int)) = ds (row.set i s) := by simp [ds, List.map_set]
      rw [e3] at q3
      have hne2 := HNE.out
      have q4 := q1.kept hgr (.inr hne2)
      have KX := JX.put (j := g) (o := i) hgX2 (.int .i64 (s : Int))
      have hg2 : w.heap.size + 2 ≤ g := by omega
      have K2 := G2.put (j := g) (o := i) (by omega) (.int .i64 (s : Int))
      have K3 : (Wr.setCell ⟨g, i, none⟩ (.int .i64 (s : Int))).heap[w.heap.size + 1]? = some (.cells #[.int .i64 0] 26) := by rw [Below.heap_setCell _ _ _ _ (by simp only; omega)]; exact G3
      have hB3 := below_put (off := i) (u := .int .i64 (s : Int)) (b := g) hB (by omega)
      obtain ⟨v0, v1, v2⟩ := KX.cell
      have v3 := KX.frozen 2
      have hsz : s ≠ 0 := by omega
      have hkeep1 : KeepsFrom W0.heap.size Wr (Wr.setCell ⟨g, i, none⟩ (.int .i64 (s : Int))) := (KeepsOthers.setCell _ _ _).from _
      by_cases hbig : 1073741824 / s < b
      · have hbd : decide ((1073741824 : Int) / (s : Int) < (b : Int)) = true := decide_eq_true (by have := Int.ofNat_lt.2 hbig; rw [Int.natCast_ediv] at this; exact this)
        have hbi : (1073741824 : Int) / (s : Int) < (b : Int) := of_decide_eq_true hbd
        obtain ⟨⟨g1, g2⟩, g3, g4⟩ := K2.writes
        have g5 := fun u => (g3 u).1
        have g6 := fun u => (g3 u).2
        have g7 := fun u u' => (g4 u u').1
        have g8 := fun u u' => (g4 u u').2
        have J2 := ((K2.set0 (.slice none 0 0)).set1 (.slice none 0 0)).set2 (.int .i64 0)
        have J3 : (((((Wr.setCell ⟨g, i, none⟩ (.int .i64 (s : Int))).setCell ⟨w.heap.size, 0, none⟩ (.slice none 0 0)).setCell ⟨w.heap.size, 1, none⟩ (.slice none 0 0)).setCell ⟨w.heap.size, 2, none⟩ (.int .i64 0))).heap[w.heap.size + 1]? = some (.cells #[.int .i64 0] 26) := by
          rw [Below.heap_setCell _ _ _ _ (by simp), Below.heap_setCell _ _ _ _ (by simp), Below.heap_setCell _ _ _ _ (by simp)]; exact K3
        obtain ⟨g9, g10⟩ := cell_blk J3
        have J2' := J2.put (j := w.heap.size + 1) (o := 0) (by omega) (.int .i64 4)
        have J3' := heap_set1 (u := .int .i64 4) J3
        have hBf := below_put (off := 0) (u := .int .i64 4) (b := w.heap.size + 1) (below_put (off := 2) (u := .int .i64 0) (b := w.heap.size) (below_put (off := 1) (u := .slice none 0 0) (b := w.heap.size) (below_put (off := 0) (u := .slice none 0 0) (b := w.heap.size) hB3 (Nat.le_refl _)) (Nat.le_refl _)) (Nat.le_refl _)) (by omega)
        have hkf := ((((KeepsOthers.setCell Wr ⟨g, i, none⟩ (.int .i64 (s : Int))).trans (KeepsOthers.setCell _ ⟨w.heap.size, 0, none⟩ (.slice none 0 0))).trans (KeepsOthers.setCell _ ⟨w.heap.size, 1, none⟩ (.slice none 0 0))).trans (KeepsOthers.setCell _ ⟨w.heap.size, 2, none⟩ (.int .i64 0))).trans (KeepsOthers.setCell _ ⟨w.heap.size + 1, 0, none⟩ (.int .i64 4))
        clear g3 g4 J2 J3 K2 K3 G2 G3 hB hB3 q1 q2 q3 q4 KX JX hgr
        gi_wp2
        exact ⟨hkf.from _, ⟨rfl, ⟨pre, ⟨(i, b), hi, hb1, hb2⟩, rfl, by rw [HST.out]; exact hbig⟩, J2', J3'⟩, hBf⟩
      · have hbd : decide ((1073741824 : Int) / (s : Int) < (b : Int)) = false := decide_eq_false (by have := Int.ofNat_le.2 (Nat.le_of_not_lt hbig); rw [Int.natCast_ediv] at this; exact Int.not_lt.2 this)
        have hsb : s * b ≤ 1073741824 := by
          have h1 := Nat.le_of_not_lt hbig
          have h2 := Nat.mul_le_mul_left s h1
          have h3 := Nat.mul_div_le 1073741824 s
          omega
        have hsb1 : 1 ≤ s * b := Nat.mul_le_mul hs1 hb1
        have hww : wrap64 ((s : Int) * (b : Int)) = ((s * b : Nat) : Int) := by rw [← Int.natCast_mul]; unfold wrap64; omega
        have L2 := KX.set2 (.int .i64 ((s * b : Nat) : Int))
        have hgX3 : (Value.slice (some ⟨g, 0, none⟩) bs.length bs.length).ownBlock ≠ some X := fun e => hgX (by simpa [Value.ownBlock] using e)
        have q5 := q3.kept (hW0 _ X 2 (.int .i64 ((s * b : Nat) : Int))) (.inr hgX3)
        have q6 := q4.kept (hW0 _ X 2 (.int .i64 ((s * b : Nat) : Int))) (.inr h1X)
        have L3 := K2.put (j := X) (o := 2) (by omega) (.int .i64 ((s * b : Nat) : Int))
        have L4 : ((Wr.setCell ⟨g, i, none⟩ (.int .i64 (s : Int))).setCell ⟨X, 2, none⟩ (.int .i64 ((s * b : Nat) : Int))).heap[w.heap.size + 1]? = some (.cells #[.int .i64 0] 26) := by rw [Below.heap_setCell _ _ _ _ (by simp only; omega)]; exact K3
        have hB4 := below_put (off := 2) (u := .int .i64 ((s * b : Nat) : Int)) (b := X) hB3 (by omega)
        have hkf := (KeepsOthers.setCell Wr ⟨g, i, none⟩ (.int .i64 (s : Int))).trans (KeepsOthers.setCell _ ⟨X, 2, none⟩ (.int .i64 ((s * b : Nat) : Int)))
        have hbo' := hbo (by omega)
        have hbg : bb ≠ g ∧ bb ≠ X := by
          rw [hbo'] at hne2 h1X
          exact ⟨fun e => hne2 (by rw [e]), fun e => h1X (by rw [e])⟩
        have hkp : Keep2 W0.heap.size bb Wr ((Wr.setCell ⟨g, i, none⟩ (.int .i64 (s : Int))).setCell ⟨X, 2, none⟩ (.int .i64 ((s * b : Nat) : Int))) := by
          constructor
          · rw [Below.heap_setCell _ _ _ _ (by simp only; omega), Below.heap_setCell _ _ _ _ (by simp only; omega)]
          · rw [Below.heap_setCell _ _ _ _ (by simp only; exact hbg.2), Below.heap_setCell _ _ _ _ (by simp only; exact hbg.1)]
        have HW := Lib.hid hww
        obtain ⟨m, hm⟩ : ∃ m, m = s * b := ⟨_, rfl⟩
        rw [← hm] at hww hsb hsb1 L2 L3 L4 q5 q6 hB4 hkf hkp
        have HM := Lib.hid hm
        clear hm K2 K3 G2 G3 hB hB3 q1 q2 q3 q4 KX JX hgr
        gi_wp2
        refine ⟨hkf.from _, hkp, ?_⟩
        dsimp only
        rw [HSN.out]
        exact ⟨⟨⟨by rw [← HM.out]; exact hsb1, by rw [← HM.out]; exact hsb⟩, by rw [← HM.out]; exact L2, q5, q6, L3, L4⟩, hB4⟩
    case done =>
      rintro D ys Wd hD rfl ⟨⟨⟨hs1, hs2⟩, JX, q2, q1, G2, G3⟩, hB⟩ hK
      rw [stN_bw HPOS.out HBIG.out _ (Nat.le_refl _), Nat.sub_self, List.drop_zero] at hs2 JX q2
      simp only [List.replicate_zero, List.nil_append] at q2 hs2 JX
      obtain ⟨P, hP⟩ : ∃ P, P = prodN bs := ⟨_, rfl⟩
      rw [← hP] at hs2 JX
      have HP := Lib.hid hP
      clear hP
      have hD1 : W0.heap.size + 1 ≤ D := by simpa using hD
      obtain ⟨u0, u1, u2⟩ := JX.cell
      obtain ⟨⟨g1, g2⟩, g3, g4⟩ := G2.writes
      have g5 := fun u => (g3 u).1
      have g6 := fun u => (g3 u).2
      have g7 := fun u u' => (g4 u u').1
      have g8 := fun u u' => (g4 u u').2
      have J2 := ((G2.set0 (.slice a1 bs.length c1)).set1 (.slice (some ⟨g, 0, none⟩) bs.length bs.length)).set2 (.int .i64 (P : Int))
      have J3 : ((((Wd.setCell ⟨w.heap.size, 0, none⟩ (.slice a1 bs.length c1)).setCell ⟨w.heap.size, 1, none⟩ (.slice (some ⟨g, 0, none⟩) bs.length bs.length)).setCell ⟨w.heap.size, 2, none⟩ (.int .i64 (P : Int)))).heap[w.heap.size + 1]? = some (.cells #[.int .i64 0] 26) := by
        rw [Below.heap_setCell _ _ _ _ (by simp), Below.heap_setCell _ _ _ _ (by simp), Below.heap_setCell _ _ _ _ (by simp)]; exact G3
      obtain ⟨g9, g10⟩ := cell_blk J3
      have J2' := J2.put (j := w.heap.size + 1) (o := 0) (by omega) (.int .i64 0)
      have J3' := heap_set1 (u := .int .i64 0) J3
      have n1 := own_ne q1 G2.at_ (by decide)
      have n2 := own_ne q1 G3 (by decide)
      have n3 := own_ne q2 G2.at_ (by decide)
      have n4 := own_ne q2 G3 (by decide)
      have q3 := (((q1.kept (hW0 _ w.heap.size 0 (.slice a1 bs.length c1)) (.inr n1)).kept (hW0 _ w.heap.size 1 (.slice (some ⟨g, 0, none⟩) bs.length bs.length)) (.inr n1)).kept (hW0 _ w.heap.size 2 (.int .i64 (P : Int))) (.inr n1)).kept (hW0 _ (w.heap.size + 1) 0 (.int .i64 0)) (.inr n2)
      have q4 := (((q2.kept (hW0 _ w.heap.size 0 (.slice a1 bs.length c1)) (.inr n3)).kept (hW0 _ w.heap.size 1 (.slice (some ⟨g, 0, none⟩) bs.length bs.length)) (.inr n3)).kept (hW0 _ w.heap.size 2 (.int .i64 (P : Int))) (.inr n3)).kept (hW0 _ (w.heap.size + 1) 0 (.int .i64 0)) (.inr n4)
      have hBf := below_put (off := 0) (u := .int .i64 0) (b := w.heap.size + 1) (below_put (off := 2) (u := .int .i64 (P : Int)) (b := w.heap.size) (below_put (off := 1) (u := .slice (some ⟨g, 0, none⟩) bs.length bs.length) (b := w.heap.size) (below_put (off := 0) (u := .slice a1 bs.length c1) (b := w.heap.size) hB (Nat.le_refl _)) (Nat.le_refl _)) (Nat.le_refl _)) (by omega)
      have hKf : (((((Wd.setCell ⟨w.heap.size, 0, none⟩ (.slice a1 bs.length c1)).setCell ⟨w.heap.size, 1, none⟩ (.slice (some ⟨g, 0, none⟩) bs.length bs.length)).setCell ⟨w.heap.size, 2, none⟩ (.int .i64 (P : Int)))).setCell ⟨w.heap.size + 1, 0, none⟩ (.int .i64 0)).heap[D]? = some (.deferred (some [])) := by
        have := EB.size
        rw [Below.heap_setCell _ _ _ _ (by simp only; omega), Below.heap_setCell _ _ _ _ (by simp only; omega), Below.heap_setCell _ _ _ _ (by simp only; omega), Below.heap_setCell _ _ _ _ (by simp only; omega)]; exact hK
      obtain ⟨Wf, hWf⟩ : ∃ Wf, ((((Wd.setCell ⟨w.heap.size, 0, none⟩ (.slice a1 bs.length c1)).setCell ⟨w.heap.size, 1, none⟩ (.slice (some ⟨g, 0, none⟩) bs.length bs.length)).setCell ⟨w.heap.size, 2, none⟩ (.int .i64 (P : Int)))).setCell ⟨w.heap.size + 1, 0, none⟩ (.int .i64 0) = Wf := ⟨_, rfl⟩
      rw [hWf] at J2' J3' q3 q4 hBf hKf
      have HWf := Lib.hid hWf
      have hgp : Wf.grownBy (Wf.putObj D (.deferred none)) (some D) := grownBy_putObj' Wf D (.deferred none)
      have hrr : ∀ r, some D = some r → ∃ o : Obj, Wf.heap[r]? = some o ∧ o.isCells = false := fun r e => by cases e; exact ⟨_, hKf, rfl⟩
      have M2 : Is3 (Wf.putObj D (.deferred none)) w.heap.size (.slice a1 bs.length c1) (.slice (some ⟨g, 0, none⟩) bs.length bs.length) (.int .i64 (P : Int)) tRadix := ⟨keepC hgp hrr J2'.at_⟩
      have M3 := (cell_blk (keepC hgp hrr J3')).1
      obtain ⟨m0, m1, m2⟩ := M2.cell
      have q5 := ownC hgp hrr q3
      have q6 := ownC hgp hrr q4
      have hBz := hBf.trans (belowK_b (w := w) (Nat.le_refl _) Wf D _ (.deferred none) (by have := EB.size; omega) hKf rfl rfl)
      clear g3 g4 J2 J3 q1 q2 q3 q4 G2 G3 hB hBf n1 n2 n3 n4 hWf J2' J3' JX M2 hK hgp hrr
      go_wp2
      rw [HWf.out]
      refine ⟨by simp, .inl ⟨_, _, rfl, run_takeDeferred hKf, ?_⟩⟩
      exact ⟨.tuple #[.agg #[.slice a1 bs.length c1, .slice (some ⟨g, 0, none⟩) bs.length bs.length, .int .i64 (P : Int)], .int .i64 0], by simp [results, Try.results20, go_sem, m0, m1, m2, M3], _, 0, rfl, hBz,
        .inl ⟨by rw [← HP.out]; exact hs2, rfl, _, _, by rw [← HP.out], (Sl.of_own q5).any, (Sl.of_own q6).any⟩⟩
    case stop =>
      rintro D c pre Wd hD ⟨k, hk, rfl⟩ ⟨⟨rfl, ⟨ini, last, e1, e2⟩, G2, G3⟩, hB⟩ hK
      have hbb := big_of_stop HPOS.out HBIG.out hk e1 e2
      have hD1 : W0.heap.size + 1 ≤ D := by simpa using hD
      have hgp : Wd.grownBy (Wd.putObj D (.deferred none)) (some D) := grownBy_putObj' Wd D (.deferred none)
      have hrr : ∀ r, some D = some r → ∃ o : Obj, Wd.heap[r]? = some o ∧ o.isCells = false := fun r e => by cases e; exact ⟨_, hK, rfl⟩
      have M2 : Is3 (Wd.putObj D (.deferred none)) w.heap.size (.slice none 0 0) (.slice none 0 0) (.int .i64 0) tRadix := ⟨keepC hgp hrr G2.at_⟩
      have M3 := (cell_blk (keepC hgp hrr G3)).1
      obtain ⟨m0, m1, m2⟩ := M2.cell
      have hBz := hB.trans (belowK_b (w := w) (Nat.le_refl _) Wd D _ (.deferred none) (by have := EB.size; omega) hK rfl rfl)
      have HBB := Lib.hid hbb
      clear hbb e1 e2 G2 G3 hgp hrr M2 hB
      gi_wp2
      refine ⟨by simp, .inl ⟨_, _, rfl, run_takeDeferred hK, ?_⟩⟩
      exact ⟨.tuple #[.agg #[.slice none 0 0, .slice none 0 0, .int .i64 0], .int .i64 4], by simp [results, Try.results20, go_sem, m0, m1, m2, M3], _, 4, rfl, hBz, .inr ⟨HBB.out, rfl, rfl⟩⟩
  · intro k2v k2c
    go_wp2_with (at_make; refine wpList_make_sl _ rfl _ _ 22 rfl k2v.heap.size eInt _ 8 elemInt rfl .i64 .i64 _ _ bs.length rfl rfl (by omega) (by omega) (by omega) (by unfold maxLen; omega) (by simp) ?_; intro k1v o2 hg2)
    refine QE_intro (grown_ext hg2) ?_
    have k1E := ext_trans (ext_trans kE0 k2c) (grown_ext hg2)
    refine wpH_one 1 (by kernel_rfl) rfl ?_
    intro k3v k3c
    have k3D := ext_trans k1E k3c
    go_wp2_with fail
    refine (CL2.out _ k3D).mono ?_
    rintro e k2w ⟨s1, rfl, o1, k2b⟩
    obtain ⟨a1, c1, rfl, _, _⟩ := SlA.out (Sl.of_own o1).any
    rw [length_ds] at *
    go_wp2_with fail
    refine QE_intro k2b ?_
    have k2E := ext_trans k3D k2b
    have hgl := (o2.lt k2v.heap.size rfl).2
    have hne : (Value.slice a1 bs.length c1).ownBlock ≠ some k2v.heap.size := fun e => by
      have := (o1.lt _ e).1
      have := k3c.size
      omega
    have o2 := own_ext o2 (ext_trans k3c k2b)
    obtain ⟨g, hg⟩ : ∃ g, g = k2v.heap.size := ⟨_, rfl⟩
    rw [← hg] at o2 hne ⊢
    have hgs : w2.heap.size ≤ g := by have := (ext_trans kE0 k2c).size; omega
    clear hg hg2 hgl k1E k3D k2b k2c k3c kE0
    refine wpH_seg' [5] 0 rfl (by kernel_rfl) ?_
    refine seg_cons rfl ?_; go_big_quiet_step (rfl)
    refine seg_nil ?_
    refine wpH_tail [7] (by kernel_rfl) ?_
    intro W Wb vs hR hD
    have WE := ext_trans k2E Wb
    obtain ⟨⟨X, hv, hh⟩, hN, hbk⟩ := hR 6 (by simp)
    rw [hv] at hN hbk
    simp only [blkOf] at hN hbk
    rw [putS_one (d := some 4) rfl, hv]
    have o1 := own_ext o1 Wb
    have o2 := own_ext o2 Wb
    have IX : Is3 W X (.slice none 0 0) (.slice none 0 0) (.int .i64 0) tRadix := ⟨hh⟩
    have hgX : g ≠ X := fun e => by
      have := o2.2
      rcases this with ⟨h, _⟩ | ⟨g', _, cur, h, _, h2, _⟩
      · cases h
      · cases h
        rw [e, hh] at h2
        cases h2
    have h1X : (Value.slice a1 bs.length c1).ownBlock ≠ some X := fun e => by
      rcases o1.2 with ⟨h, _⟩ | ⟨g', _, cur, h, _, h2, _⟩
      · rw [h] at e; cases e
      · rw [h] at e
        cases e
        rw [hh] at h2
        cases h2
    obtain ⟨⟨g1, g2⟩, g3, g4⟩ := IX.writes
    have g5 := fun u => (g3 u).1
    have g6 := fun u => (g3 u).2
    have g7 := fun u u' => (g4 u u').1
    have g8 := fun u u' => (g4 u u').2
    have gx0 := Is3.set0 IX (.slice a1 bs.length c1)
    have gx1 := gx0.set1 (.slice (some ⟨g, 0, none⟩) bs.length bs.length)
    have FX := gx1.set2 (.int .i64 1)
    have hW0 : ∀ (W : World) (k o : Nat) (u : Value), W.grownBy (W.setCell ⟨k, o, none⟩ u) (some k) := fun W k o u => ⟨rfl, rfl, rfl, by simp, fun j _ hj => heap_setCell_other W ⟨k, o, none⟩ j u (fun e => hj (by simp [e]))⟩
    have o1 := ((o1.kept (hW0 _ X 0 (.slice a1 bs.length c1)) (.inr h1X)).kept (hW0 _ X 1 (.slice (some ⟨g, 0, none⟩) bs.length bs.length)) (.inr h1X)).kept (hW0 _ X 2 (.int .i64 1)) (.inr h1X)
    have hgX' : (Value.slice (some ⟨g, 0, none⟩) bs.length bs.length).ownBlock ≠ some X := fun e => hgX (by simpa [Value.ownBlock] using e)
    have o2 := ((o2.kept (hW0 _ X 0 (.slice a1 bs.length c1)) (.inr hgX')).kept (hW0 _ X 1 (.slice (some ⟨g, 0, none⟩) bs.length bs.length)) (.inr hgX')).kept (hW0 _ X 2 (.int .i64 1)) (.inr hgX')
    have hN' : w2.heap.size ≤ X := hN
    have hX2 : w.heap.size + 2 ≤ X := by omega
    have F2 := (((y2.mono WE).put (j := X) (o := 0) (by omega) (.slice a1 bs.length c1)).put (j := X) (o := 1) (by omega) (.slice (some ⟨g, 0, none⟩) bs.length bs.length)).put (j := X) (o := 2) (by omega) (.int .i64 1)
    have F3 : (((W.setCell ⟨X, 0, none⟩ (.slice a1 bs.length c1)).setCell ⟨X, 1, none⟩ (.slice (some ⟨g, 0, none⟩) bs.length bs.length)).setCell ⟨X, 2, none⟩ (.int .i64 1)).heap[w.heap.size + 1]? = some (.cells #[.int .i64 0] 26) := by
      rw [Below.heap_setCell _ _ _ _ (by simp only; omega), Below.heap_setCell _ _ _ _ (by simp only; omega), Below.heap_setCell _ _ _ _ (by simp only; omega)]
      exact (WE.block _ (block_lt y3)).trans y3
    have EB : Below w.heap.size w (((W.setCell ⟨X, 0, none⟩ (.slice a1 bs.length c1)).setCell ⟨X, 1, none⟩ (.slice (some ⟨g, 0, none⟩) bs.length bs.length)).setCell ⟨X, 2, none⟩ (.int .i64 1)) :=
      below_put (below_put (below_put (hB2.trans (WE.mono hB2.size)) (by omega)) (by omega)) (by omega)
    refine tail_l (os := [_]) rfl ?_
    clear WE Wb hR hD hv hh hN hbk k2E IX gx0 gx1 g3 g4
    go_wp2_with fail
    clear g1 g2 g5 g6 g7 g8
    refine qp_nil ?_
    obtain ⟨W0, hW⟩ : ∃ W0, ((W.setCell ⟨X, 0, none⟩ (.slice a1 bs.length c1)).setCell ⟨X, 1, none⟩ (.slice (some ⟨g, 0, none⟩) bs.length bs.length)).setCell ⟨X, 2, none⟩ (.int .i64 1) = W0 := ⟨_, rfl⟩
    rw [hW] at FX o1 o2 F2 F3 EB ⊢
    have hWW := Lib.hid hW
    clear hW
    obtain ⟨e0, e1, e2⟩ := FX.cell
    go_wp2_with fail
    refine (backwardI_ok _ W0 ⟨_, _, _, rfl⟩).mono ?_
    rintro e w5 ⟨rfl, rfl⟩
    go_wp2_with fail
    have HNE := Lib.hid hne
    have WL := Lib.hid (show W0.heap.size ≤ (W0.alloc (.cells #[.slice a1 bs.length c1] 22)).heap.size by simp)
    have hX0 : X < W0.heap.size := block_lt FX.at_
    have hg0 : g < W0.heap.size := (o2.lt g rfl).2
    have e2 : List.replicate bs.length (Value.int .i64 0) = ds (stN bs.length []).1 := by simp [ds, stN]
    rw [e2] at o2
    obtain ⟨bb, hbl, hbo, hIA⟩ : ∃ bb, bb ≤ W0.heap.size ∧ (0 < bs.length → (Value.slice a1 bs.length c1).ownBlock = some bb) ∧ IntsAt bb (W0.alloc (.cells #[.slice a1 bs.length c1] 22)) (.slice a1 bs.length c1) bs.length (fun j => ((elB bs j).1.2 : Int)) := by
      rcases (Sl.of_own o1).any.cases with ⟨hn, a, cap, hv, _⟩ | ⟨b, off, cap, hv, hc, hp, hb, hx⟩
      · have hl : bs = [] := by simpa [ds] using hn
        subst hl
        exact ⟨0, Nat.zero_le _, fun h => absurd h (by simp), .inl ⟨rfl, _, _, rfl⟩⟩
      · rw [length_ds] at hv
        cases hv
        refine ⟨b, Nat.le_of_lt hb, fun _ => rfl, .inr ⟨off, _, rfl, by simp; omega, fun j hj => ?_⟩⟩
        rw [(below_new _).cell (p := ⟨b, off + j, none⟩) hb, hx j (by rw [length_ds]; exact hj), ds_getElem _ _ hj]
        show _ = some (Value.int .i64 (((elB bs j).1.2 : Nat) : Int))
        rw [elB_at HPOS.out HBIG.out hj]
    refine (wpIn_wide (n := 5)).1 ?_
    refine wpIn_rangeFunc_ownG (F := Fence.wide) rfl (by omega) (gf := 100) (lb := #[.pointer (some ⟨W0.heap.size, 0, none⟩)]) rfl trivial (enters_of Try.func100 (by kernel_rfl) rfl)
      (backI_stops Fence.wide 4 trivial rfl (by omega) W0.heap.size bb (.slice a1 bs.length c1) bs.length hmax (elB bs) (fun x => #[.int .i64 (x.1.1 : Int), .int .i64 (x.1.2 : Int)]) (fun j => ((elB bs j).1.2 : Int))
        (fun j hj => by rw [elB_at HPOS.out HBIG.out hj]) (W0.alloc (.cells #[.slice a1 bs.length c1] 22)) (by simp) (by go_simp) hIA)
      (fun h k => h.trans k) (fun W l o o' hl ho hc _ => by
        have hl' : W0.heap.size + 1 ≤ l := by simpa using hl
        exact ⟨World.putObj_heap_other (by omega), World.putObj_heap_other (by omega)⟩) (Below.refl _ _) (fun _ => rfl)
      (fun pre W => (((1 ≤ (stN bs.length pre).2 ∧ (stN bs.length pre).2 ≤ 1073741824) ∧ Is3 W X (.slice a1 bs.length c1) (.slice (some ⟨g, 0, none⟩) bs.length bs.length) (.int .i64 ((stN bs.length pre).2 : Nat)) tRadix ∧ W.ownsRow 0 eInt 1 (.slice (some ⟨g, 0, none⟩) bs.length bs.length) bs.length (ds (stN bs.length pre).1) ∧
        W.ownsRow 0 eInt 1 (.slice a1 bs.length c1) bs.length (ds bs) ∧ Is3 W w.heap.size (.slice none 0 0) (.slice none 0 0) (.int .i64 0) tRadix ∧ W.heap[w.heap.size + 1]? = some (.cells #[.int .i64 0] 26)) ∧ Below w.heap.size w W))
      (fun c pre W => (c = .ret ∧ (∃ (ini : List (BX bs.length)) (last : BX bs.length), pre = ini ++ [last] ∧ 1073741824 / (stN bs.length ini).2 < last.1.2) ∧ Is3 W w.heap.size (.slice none 0 0) (.slice none 0 0) (.int .i64 0) tRadix ∧ W.heap[w.heap.size + 1]? = some (.cells #[.int .i64 4] 26)) ∧ Below w.heap.size w W)
      (OwnFrom.and (Own.from (fun s A B row hs hg hr => ⟨hs.1, ⟨keepC hg hr hs.2.1.at_⟩, ownC hg hr hs.2.2.1, ownC hg hr hs.2.2.2.1, ⟨keepC hg hr hs.2.2.2.2.1.at_⟩, keepC hg hr hs.2.2.2.2.2⟩) _) (ownFrom_below (Nat.le_refl _) (by have := EB.size; simp; omega)))
      (fun c => OwnFrom.and (Own.from (fun s A B row hs hg hr => ⟨hs.1, hs.2.1, ⟨keepC hg hr hs.2.2.1.at_⟩, keepC hg hr hs.2.2.2⟩) _) (ownFrom_below (Nat.le_refl _) (by have := EB.size; simp; omega)))
      ⟨⟨⟨Nat.le_refl _, by show (1 : Nat) ≤ 1073741824; decide⟩, FX.mono (below_new _), own_base (own_ext o2 (below_new _)) (Nat.zero_le _), own_base (own_ext o1 (below_new _)) (Nat.zero_le _), F2.mono (below_new _), ((below_new _).block _ (block_lt F3)).trans F3⟩, EB.alloc EB.size _⟩
      (fun x => { tmps := #[.slice x1 bs.length cp1, undef, .pointer (some ⟨w.heap.size, 0, none⟩), .pointer (some ⟨w.heap.size + 1, 0, none⟩), .pointer (some ⟨X, 0, none⟩), .int .i64 (x.1.1 : Int), .int .i64 (x.1.2 : Int), .slice x1 bs.length cp1, .bool false, undef, .slice x1 bs.length cp1,
        .slice a1 bs.length c1, .slice x1 bs.length cp1, .int .i64 (bs.length : Int), .slice (some ⟨g, 0, none⟩) bs.length bs.length, .agg #[.slice a1 bs.length c1, .slice (some ⟨g, 0, none⟩) bs.length bs.length, .int .i64 1], .pointer (some ⟨X, 0, none⟩), .slice a1 bs.length c1,
        .func (.func 100) #[] #[.pointer (some ⟨W0.heap.size, 0, none⟩)], .int .i64 (x.1.1 : Int), .int .i64 (x.1.2 : Int), undef, undef, undef, undef, undef, undef, undef, undef, undef, undef, undef, undef, undef, undef, undef, undef, undef, undef], defers := [] }) ?assign ?body ?done ?stop
    case assign =>
      intro l x W K hK
      gi_wp2
      exact hK
    case body =>
      rintro l pre ⟨⟨i, b⟩, hi, hb1, hb2⟩ Wr ⟨⟨⟨hs1, hs2⟩, JX, q2, q1, G2, G3⟩, hB⟩ hlt
      have hin : i < bs.length := by rcases hi with h | h; exact h; omega
      have hsn := stN_snoc pre ⟨(i, b), hi, hb1, hb2⟩
      have hsl := stN_len pre
      obtain ⟨row, s, hst⟩ : ∃ row s, stN bs.length pre = (row, s) := ⟨_, _, rfl⟩
      rw [hst] at hsn hsl hs1 hs2 JX q2
      simp only at hsn hsl hs1 hs2 JX q2 hb1 hb2 hi
      have HST := Lib.hid hst
      have HSN := Lib.hid hsn
      clear hst hsn
      obtain ⟨u0, u1, u2⟩ := JX.cell
      obtain ⟨hcell, hfr⟩ := own_at q2 (j := i) (by simp; omega)
      rw [ds_getElem _ _ (by omega)] at hcell
      have hgX2 : X ≠ g := fun e => hgX e.symm
      obtain ⟨q3, hgr⟩ := q2.stored i (.int .i64 (s : Int))
      have e3 : (ds row).set i (.int .i64 (s : Int)) = ds (row.set i s) := by simp [ds, List.map_set]
      rw [e3] at q3
      have hne2 := HNE.out
      have q4 := q1.kept hgr (.inr hne2)
      have KX := JX.put (j := g) (o := i) hgX2 (.int .i64 (s : Int))
      have hg2 : w.heap.size + 2 ≤ g := by omega
      have K2 := G2.put (j := g) (o := i) (by omega) (.int .i64 (s : Int))
      have K3 : (Wr.setCell ⟨g, i, none⟩ (.int .i64 (s : Int))).heap[w.heap.size + 1]? = some (.cells #[.int .i64 0] 26) := by rw [Below.heap_setCell _ _ _ _ (by simp only; omega)]; exact G3
      have hB3 := below_put (off := i) (u := .int .i64 (s : Int)) (b := g) hB (by omega)
      obtain ⟨v0, v1, v2⟩ := KX.cell
      have v3 := KX.frozen 2
      have hsz : s ≠ 0 := by omega
      have hkeep1 : KeepsFrom W0.heap.size Wr (Wr.setCell ⟨g, i, none⟩ (.int .i64 (s : Int))) := (KeepsOthers.setCell _ _ _).from _
      by_cases hbig : 1073741824 / s < b
      · have hbd : decide ((1073741824 : Int) / (s : Int) < (b : Int)) = true := decide_eq_true (by have := Int.ofNat_lt.2 hbig; rw [Int.natCast_ediv] at this; exact this)
        have hbi : (1073741824 : Int) / (s : Int) < (b : Int) := of_decide_eq_true hbd
        obtain ⟨⟨g1, g2⟩, g3, g4⟩ := K2.writes
        have g5 := fun u => (g3 u).1
        have g6 := fun u => (g3 u).2
        have g7 := fun u u' => (g4 u u').1
        have g8 := fun u u' => (g4 u u').2
        have J2 := ((K2.set0 (.slice none 0 0)).set1 (.slice none 0 0)).set2 (.int .i64 0)
        have J3 : (((((Wr.setCell ⟨g, i, none⟩ (.int .i64 (s : Int))).setCell ⟨w.heap.size, 0, none⟩ (.slice none 0 0)).setCell ⟨w.heap.size, 1, none⟩ (.slice none 0 0)).setCell ⟨w.heap.size, 2, none⟩ (.int .i64 0))).heap[w.heap.size + 1]? = some (.cells #[.int .i64 0] 26) := by
          rw [Below.heap_setCell _ _ _ _ (by simp), Below.heap_setCell _ _ _ _ (by simp), Below.heap_setCell _ _ _ _ (by simp)]; exact K3
        obtain ⟨g9, g10⟩ := cell_blk J3
        have J2' := J2.put (j := w.heap.size + 1) (o := 0) (by omega) (.int .i64 4)
        have J3' := heap_set1 (u := .int .i64 4) J3
        have hBf := below_put (off := 0) (u := .int .i64 4) (b := w.heap.size + 1) (below_put (off := 2) (u := .int .i64 0) (b := w.heap.size) (below_put (off := 1) (u := .slice none 0 0) (b := w.heap.size) (below_put (off := 0) (u := .slice none 0 0) (b := w.heap.size) hB3 (Nat.le_refl _)) (Nat.le_refl _)) (Nat.le_refl _)) (by omega)
        have hkf := ((((KeepsOthers.setCell Wr ⟨g, i, none⟩ (.int .i64 (s : Int))).trans (KeepsOthers.setCell _ ⟨w.heap.size, 0, none⟩ (.slice none 0 0))).trans (KeepsOthers.setCell _ ⟨w.heap.size, 1, none⟩ (.slice none 0 0))).trans (KeepsOthers.setCell _ ⟨w.heap.size, 2, none⟩ (.int .i64 0))).trans (KeepsOthers.setCell _ ⟨w.heap.size + 1, 0, none⟩ (.int .i64 4))
        clear g3 g4 J2 J3 K2 K3 G2 G3 hB hB3 q1 q2 q3 q4 KX JX hgr
        gi_wp2
        exact ⟨hkf.from _, ⟨rfl, ⟨pre, ⟨(i, b), hi, hb1, hb2⟩, rfl, by rw [HST.out]; exact hbig⟩, J2', J3'⟩, hBf⟩
      · have hbd : decide ((1073741824 : Int) / (s : Int) < (b : Int)) = false := decide_eq_false (by have := Int.ofNat_le.2 (Nat.le_of_not_lt hbig); rw [Int.natCast_ediv] at this; exact Int.not_lt.2 this)
        have hsb : s * b ≤ 1073741824 := by
          have h1 := Nat.le_of_not_lt hbig
          have h2 := Nat.mul_le_mul_left s h1
          have h3 := Nat.mul_div_le 1073741824 s
          omega
        have hsb1 : 1 ≤ s * b := Nat.mul_le_mul hs1 hb1
        have hww : wrap64 ((s : Int) * (b : Int)) = ((s * b : Nat) : Int) := by rw [← Int.natCast_mul]; unfold wrap64; omega
        have L2 := KX.set2 (.int .i64 ((s * b : Nat) : Int))
        have hgX3 : (Value.slice (some ⟨g, 0, none⟩) bs.length bs.length).ownBlock ≠ some X := fun e => hgX (by simpa [Value.ownBlock] using e)
        have q5 := q3.kept (hW0 _ X 2 (.int .i64 ((s * b : Nat) : Int))) (.inr hgX3)
        have q6 := q4.kept (hW0 _ X 2 (.int .i64 ((s * b : Nat) : Int))) (.inr h1X)
        have L3 := K2.put (j := X) (o := 2) (by omega) (.int .i64 ((s * b : Nat) : Int))
        have L4 : ((Wr.setCell ⟨g, i, none⟩ (.int .i64 (s : Int))).setCell ⟨X, 2, none⟩ (.int .i64 ((s * b : Nat) : Int))).heap[w.heap.size + 1]? = some (.cells #[.int .i64 0] 26) := by rw [Below.heap_setCell _ _ _ _ (by simp only; omega)]; exact K3
        have hB4 := below_put (off := 2) (u := .int .i64 ((s * b : Nat) : Int)) (b := X) hB3 (by omega)
        have hkf := (KeepsOthers.setCell Wr ⟨g, i, none⟩ (.int .i64 (s : Int))).trans (KeepsOthers.setCell _ ⟨X, 2, none⟩ (.int .i64 ((s * b : Nat) : Int)))
        have hbo' := hbo (by omega)
        have hbg : bb ≠ g ∧ bb ≠ X := by
          rw [hbo'] at hne2 h1X
          exact ⟨fun e => hne2 (by rw [e]), fun e => h1X (by rw [e])⟩
        have hkp : Keep2 W0.heap.size bb Wr ((Wr.setCell ⟨g, i, none⟩ (.int .i64 (s : Int))).setCell ⟨X, 2, none⟩ (.int .i64 ((s * b : Nat) : Int))) := by
          constructor
          · rw [Below.heap_setCell _ _ _ _ (by simp only; omega), Below.heap_setCell _ _ _ _ (by simp only; omega)]
          · rw [Below.heap_setCell _ _ _ _ (by simp only; exact hbg.2), Below.heap_setCell _ _ _ _ (by simp only; exact hbg.1)]
        have HW := Lib.hid hww
        obtain ⟨m, hm⟩ : ∃ m, m = s * b := ⟨_, rfl⟩
        rw [← hm] at hww hsb hsb1 L2 L3 L4 q5 q6 hB4 hkf hkp
        have HM := Lib.hid hm
        clear hm K2 K3 G2 G3 hB hB3 q1 q2 q3 q4 KX JX hgr
        gi_wp2
        refine ⟨hkf.from _, hkp, ?_⟩
        dsimp only
        rw [HSN.out]
        exact ⟨⟨⟨by rw [← HM.out]; exact hsb1, by rw [← HM.out]; exact hsb⟩, by rw [← HM.out]; exact L2, q5, q6, L3, L4⟩, hB4⟩
    case done =>
      rintro D ys Wd hD rfl ⟨⟨⟨hs1, hs2⟩, JX, q2, q1, G2, G3⟩, hB⟩ hK
      rw [stN_bw HPOS.out HBIG.out _ (Nat.le_refl _), Nat.sub_self, List.drop_zero] at hs2 JX q2
      simp only [List.replicate_zero, List.nil_append] at q2 hs2 JX
      obtain ⟨P, hP⟩ : ∃ P, P = prodN bs := ⟨_, rfl⟩
      rw [← hP] at hs2 JX
      have HP := Lib.hid hP
      clear hP
      have hD1 : W0.heap.size + 1 ≤ D := by simpa using hD
      obtain ⟨u0, u1, u2⟩ := JX.cell
      obtain ⟨⟨g1, g2⟩, g3, g4⟩ := G2.writes
      have g5 := fun u => (g3 u).1
      have g6 := fun u => (g3 u).2
      have g7 := fun u u' => (g4 u u').1
      have g8 := fun u u' => (g4 u u').2
      have J2 := ((G2.set0 (.slice a1 bs.length c1)).set1 (.slice (some ⟨g, 0, none⟩) bs.length bs.length)).set2 (.int .i64 (P : Int))
      have J3 : ((((Wd.setCell ⟨w.heap.size, 0, none⟩ (.slice a1 bs.length c1)).setCell ⟨w.heap.size, 1, none⟩ (.slice (some ⟨g, 0, none⟩) bs.length bs.length)).setCell ⟨w.heap.size, 2, none⟩ (.int .i64 (P : Int)))).heap[w.heap.size + 1]? = some (.cells #[.int .i64 0] 26) := by
        rw [Below.heap_setCell _ _ _ _ (by simp), Below.heap_setCell _ _ _ _ (by simp), Below.heap_setCell _ _ _ _ (by simp)]; exact G3
      obtain ⟨g9, g10⟩ := cell_blk J3
      have J2' := J2.put (j := w.heap.size + 1) (o := 0) (by omega) (.int .i64 0)
      have J3' := heap_set1 (u := .int .i64 0) J3
      have n1 := own_ne q1 G2.at_ (by decide)
      have n2 := own_ne q1 G3 (by decide)
      have n3 := own_ne q2 G2.at_ (by decide)
      have n4 := own_ne q2 G3 (by decide)
      have q3 := (((q1.kept (hW0 _ w.heap.size 0 (.slice a1 bs.length c1)) (.inr n1)).kept (hW0 _ w.heap.size 1 (.slice (some ⟨g, 0, none⟩) bs.length bs.length)) (.inr n1)).kept (hW0 _ w.heap.size 2 (.int .i64 (P : Int))) (.inr n1)).kept (hW0 _ (w.heap.size + 1) 0 (.int .i64 0)) (.inr n2)
      have q4 := (((q2.kept (hW0 _ w.heap.size 0 (.slice a1 bs.length c1)) (.inr n3)).kept (hW0 _ w.heap.size 1 (.slice (some ⟨g, 0, none⟩) bs.length bs.length)) (.inr n3)).kept (hW0 _ w.heap.size 2 (.int .i64 (P : Int))) (.inr n3)).kept (hW0 _ (w.heap.size + 1) 0 (.int .i64 0)) (.inr n4)
      have hBf := below_put (off := 0) (u := .int .i64 0) (b := w.heap.size + 1) (below_put (off := 2) (u := .int .i64 (P : Int)) (b := w.heap.size) (below_put (off := 1) (u := .slice (some ⟨g, 0, none⟩) bs.length bs.length) (b := w.heap.size) (below_put (off := 0) (u := .slice a1 bs.length c1) (b := w.heap.size) hB (Nat.le_refl _)) (Nat.le_refl _)) (Nat.le_refl _)) (by omega)
      have hKf : (((((Wd.setCell ⟨w.heap.size, 0, none⟩ (.slice a1 bs.length c1)).setCell ⟨w.heap.size, 1, none⟩ (.slice (some ⟨g, 0, none⟩) bs.length bs.length)).setCell ⟨w.heap.size, 2, none⟩ (.int .i64 (P : Int)))).setCell ⟨w.heap.size + 1, 0, none⟩ (.int .i64 0)).heap[D]? = some (.deferred (some [])) := by
        have := EB.size
        rw [Below.heap_setCell _ _ _ _ (by simp only; omega), Below.heap_setCell _ _ _ _ (by simp only; omega), Below.heap_setCell _ _ _ _ (by simp only; omega), Below.heap_setCell _ _ _ _ (by simp only; omega)]; exact hK
      obtain ⟨Wf, hWf⟩ : ∃ Wf, ((((Wd.setCell ⟨w.heap.size, 0, none⟩ (.slice a1 bs.length c1)).setCell ⟨w.heap.size, 1, none⟩ (.slice (some ⟨g, 0, none⟩) bs.length bs.length)).setCell ⟨w.heap.size, 2, none⟩ (.int .i64 (P : Int)))).setCell ⟨w.heap.size + 1, 0, none⟩ (.int .i64 0) = Wf := ⟨_, rfl⟩
      rw [hWf] at J2' J3' q3 q4 hBf hKf
      have HWf := Lib.hid hWf
      have hgp : Wf.grownBy (Wf.putObj D (.deferred none)) (some D) := grownBy_putObj' Wf D (.deferred none)
      have hrr : ∀ r, some D = some r → ∃ o : Obj, Wf.heap[r]? = some o ∧ o.isCells = false := fun r e => by cases e; exact ⟨_, hKf, rfl⟩
      have M2 : Is3 (Wf.putObj D (.deferred none)) w.heap.size (.slice a1 bs.length c1) (.slice (some ⟨g, 0, none⟩) bs.length bs.length) (.int .i64 (P : Int)) tRadix := ⟨keepC hgp hrr J2'.at_⟩
      have M3 := (cell_blk (keepC hgp hrr J3')).1
      obtain ⟨m0, m1, m2⟩ := M2.cell
      have q5 := ownC hgp hrr q3
      have q6 := ownC hgp hrr q4
      have hBz := hBf.trans (belowK_b (w := w) (Nat.le_refl _) Wf D _ (.deferred none) (by have := EB.size; omega) hKf rfl rfl)
      clear g3 g4 J2 J3 q1 q2 q3 q4 G2 G3 hB hBf n1 n2 n3 n4 hWf J2' J3' JX M2 hK hgp hrr
      go_wp2
      rw [HWf.out]
      refine ⟨by simp, .inl ⟨_, _, rfl, run_takeDeferred hKf, ?_⟩⟩
      exact ⟨.tuple #[.agg #[.slice a1 bs.length c1, .slice (some ⟨g, 0, none⟩) bs.length bs.length, .int .i64 (P : Int)], .int .i64 0], by simp [results, Try.results20, go_sem, m0, m1, m2, M3], _, 0, rfl, hBz,
        .inl ⟨by rw [← HP.out]; exact hs2, rfl, _, _, by rw [← HP.out], (Sl.of_own q5).any, (Sl.of_own q6).any⟩⟩
    case stop =>
      rintro D c pre Wd hD ⟨k, hk, rfl⟩ ⟨⟨rfl, ⟨ini, last, e1, e2⟩, G2, G3⟩, hB⟩ hK
      have hbb := big_of_stop HPOS.out HBIG.out hk e1 e2
      have hD1 : W0.heap.size + 1 ≤ D := by simpa using hD
      have hgp : Wd.grownBy (Wd.putObj D (.deferred none)) (some D) := grownBy_putObj' Wd D (.deferred none)
      have hrr : ∀ r, some D = some r → ∃ o : Obj, Wd.heap[r]? = some o ∧ o.isCells = false := fun r e => by cases e; exact ⟨_, hK, rfl⟩
      have M2 : Is3 (Wd.putObj D (.deferred none)) w.heap.size (.slice none 0 0) (.slice none 0 0) (.int .i64 0) tRadix := ⟨keepC hgp hrr G2.at_⟩
      have M3 := (cell_blk (keepC hgp hrr G3)).1
      obtain ⟨m0, m1, m2⟩ := M2.cell
      have hBz := hB.trans (belowK_b (w := w) (Nat.le_refl _) Wd D _ (.deferred none) (by have := EB.size; omega) hK rfl rfl)
      have HBB := Lib.hid hbb
      clear hbb e1 e2 G2 G3 hgp hrr M2 hB
      gi_wp2
      refine ⟨by simp, .inl ⟨_, _, rfl, run_takeDeferred hK, ?_⟩⟩
      exact ⟨.tuple #[.agg #[.slice none 0 0, .slice none 0 0, .int .i64 0], .int .i64 4], by simp [results, Try.results20, go_sem, m0, m1, m2, M3], _, 4, rfl, hBz, .inr ⟨HBB.out, rfl, rfl⟩⟩
end Go.Proofs.Ytcabmibcgedhhaa

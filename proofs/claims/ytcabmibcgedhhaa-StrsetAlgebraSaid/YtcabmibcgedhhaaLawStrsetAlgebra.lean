/-
  The walk of the law StrsetAlgebra. (Written by genStrsetAlgebra.py.)
-/
import Derived.Test.YtcabmibcgedhhaaStrA
import Derived.Test.YtcabmibcgedhhaaStrD
import Derived.Test.YtcabmibcgedhhaaFlow5
namespace Go.Proofs.Ytcabmibcgedhhaa
open Go.RowKit Go.Cd

theorem isA_yes {w : World} {v u : Value} {m l : List Txt} (h : SetV w v m) (hu : SlA w u (txs l)) (hmax : m.length < 1099511627776) (he : m = l) :
    Calls Try.prog 59 #[v, u] w fun e w' => e = .returned (.bool true) ∧ Below w.heap.size w w' :=
  (isT_ok h hu hmax).mono fun _ _ ⟨hr, hw⟩ => ⟨by rw [hr, decide_eq_true he], hw⟩

/-- A row of kinds just made. -/
theorem kinds_new (W : World) (ks : List Nat) (cs : Array Value) (h : cs.toList = nis ks) (n : Nat) (hn : n = cs.size) : SlA (W.alloc (.cells cs 3)) (.slice (some ⟨W.heap.size, 0, none⟩) n n) (nis ks) := by
  subst hn; rw [← h]; exact sla_new W cs 3

/-- a set, and a row of kinds -/
def SetKinds (m : List Txt) (ks : List Nat) (n : Nat) (v1 v2 : Value) (W : World) : Prop := SetV W v1 m ∧ ∃ g, v2 = .slice (some ⟨g, 0, none⟩) n n ∧ SlA W v2 (nis ks)

set_option maxRecDepth 100000 in
set_option maxHeartbeats 25600000 in
theorem strsetAlgebra_law {w : World} {va vb : Value} {la lb : List Txt} (ha : SlA w va (txs la)) (hb : SlA w vb (txs lb)) :
    Calls Try.prog 18 #[va, vb] w fun e w' => e = .returned (.bool true) ∧ Below w.heap.size w w' := by
  obtain ⟨a1, c1, rfl, _, _⟩ := SlA.outT ha
  obtain ⟨a2, c2, rfl, _, _⟩ := SlA.outT hb
  have AW := Lib.hid (awake7_ok (w := w))
  have FA := fun (W : World) (E : Below w.heap.size w W) => Lib.hid (fewT_ok (ha.mono E))
  have FB := fun (W : World) (E : Below w.heap.size w W) => Lib.hid (fewT_ok (hb.mono E))
  clear ha hb
  go_enter Try.func18, Try.ntmps18
  go_wp2_with fail
  refine AW.out.mono ?_
  rintro e w1 ⟨rfl, h1⟩
  have FA' := FA _ h1
  clear AW FA
  go_wp2_with fail
  refine FA'.out.mono ?_
  rintro e w2 ⟨r2, LA, rfl, o2, hLA, h2⟩
  have hE2 := h1.trans (h2.mono h1.size)
  have FB' := FB _ hE2
  have sLA := (Sl.of_own o2).any
  obtain ⟨nA, hnA⟩ : ∃ n, n = LA.length := ⟨_, rfl⟩
  obtain ⟨aA, cA, rfl, _, _⟩ := SlA.outTn sLA hnA
  have HLA := Lib.hid hLA
  have SLA := Lib.hid sLA
  clear FA' FB o2 hLA h1 h2 sLA hnA
  go_wp2_with fail
  refine FB'.out.mono ?_
  rintro e w3 ⟨r3, LB, rfl, o3, hLB, h3⟩
  have hE3 := hE2.trans (h3.mono hE2.size)
  have sLB := (Sl.of_own o3).any
  obtain ⟨nB, hnB⟩ : ∃ n, n = LB.length := ⟨_, rfl⟩
  obtain ⟨aB, cB, rfl, _, _⟩ := SlA.outTn sLB hnB
  have HLB := Lib.hid hLB
  have SLB := Lib.hid sLB
  have SLA := Lib.hid (SLA.out.mono h3)
  have OA := Lib.hid (of_set SLA.out (by have := HLA.out; omega))
  clear FB' o3 hLB h3 hE2 sLB hnB
  go_wp2_with fail
  refine OA.out.mono ?_
  rintro e w4 ⟨r4, S, rfl, s4, hiS, hmS, hlS, h4⟩
  have hE4 := hE3.trans (h4.mono hE3.size)
  have SLB := Lib.hid (SLB.out.mono h4)
  have SLA := Lib.hid (SLA.out.mono h4)
  have OB := Lib.hid (of_set SLB.out (by have := HLB.out; omega))
  obtain ⟨aS, nS, cS, rfl, sS, hnS⟩ := s4.out
  have HS4 := Lib.hid s4
  have HIS := Lib.hid hiS
  have HMS := Lib.hid hmS
  have HLS := Lib.hid (Nat.le_trans hlS HLA.out)
  clear OA s4 sS hiS hmS hnS hlS h4 hE3
  go_wp2_with fail
  refine OB.out.mono ?_
  rintro e w5 ⟨r5, T, rfl, s5, hiT, hmT, hlT, h5⟩
  have hE5 := hE4.trans (h5.mono hE4.size)
  have SLB := Lib.hid (SLB.out.mono h5)
  have SLA := Lib.hid (SLA.out.mono h5)
  have HS4 := Lib.hid (HS4.out.mono h5)
  obtain ⟨aT, nT, cT, rfl, sT, hnT⟩ := s5.out
  have HT5 := Lib.hid s5
  have HIT := Lib.hid hiT
  have HMT := Lib.hid hmT
  have HLT := Lib.hid (Nat.le_trans hlT HLB.out)
  clear OB s5 sT hiT hmT hnT hlT h5 hE4
  obtain ⟨W6, hW6⟩ : ∃ W6, W6 = (w5.alloc (.cells #[.slice aS nS cS] tSet)).alloc (.cells #[.slice aT nT cT] tSet) := ⟨_, rfl⟩
  have hb6 : Below w5.heap.size w5 W6 := by subst hW6; exact below2 _ _
  have d0 : W6.cell? ⟨w5.heap.size, 0, none⟩ = some (.slice aS nS cS) := by
    subst hW6
    refine cellE (below_new _) ?_
    unfold World.cell?; rw [heap_alloc_new]; rfl
  have d1 : W6.cell? ⟨w5.heap.size + 1, 0, none⟩ = some (.slice aT nT cT) := by
    subst hW6
    unfold World.cell?
    rw [show (World.alloc (w5.alloc (.cells #[.slice aS nS cS] tSet)) (.cells #[.slice aT nT cT] tSet)).heap[w5.heap.size + 1]? = some (.cells #[.slice aT nT cT] tSet) from heap_alloc_new' _ _ _ (by simp)]
    rfl
  have hE6 := hE5.trans (hb6.mono hE5.size)
  have SLB := Lib.hid (SLB.out.mono hb6)
  have SLA := Lib.hid (SLA.out.mono hb6)
  have HS := Lib.hid (HS4.out.mono hb6)
  have HT := Lib.hid (HT5.out.mono hb6)
  clear HS4 HT5 hb6 hE5
  have hSm : S.length < 1000000 := by have := HLS.out; omega
  have hTm : T.length < 1000000 := by have := HLT.out; omega
  have SORT := fun (W : World) (E : Below W6.heap.size W6 W) (vk : Value) (ks : List Nat) (hk : SlA W vk (nis ks)) (mk : ks.length < 1000000) => Lib.hid (sorted_ok (SLA.out.mono E) (SLB.out.mono E) hk (by have := HLA.out; omega) (by have := HLB.out; omega) mk)
  have SORT1 := fun (W : World) (E : Below W6.heap.size W6 W) (vk : Value) (ks : List Nat) (hk : SlA W vk (nis ks)) (mk : ks.length < 1000000) => Lib.hid (sorted_ok (b := []) (SLA.out.mono E) (sla_none W) hk (by have := HLA.out; omega) (by decide) mk)
  have MG := Lib.hid (fun (ks : List Nat) (X : List Txt) (h : MgS ks LA LB X) => mgs_eq (mgs_of (mg_spec ks S T HIS.out HIT.out) HMS.out HMT.out) h)
  go_wp2_with fail
  rw [← hW6]
  clear hW6
  refine wp_region_E (Array.replicate 50 true) 50 0 mixed (by rfl) ?_
  have hq := ext_drew W6
  have g0 := Gr.cell hq d0
  have g1 := Gr.cell hq d1
  refine wpE_seg' [0, 1] 48 rfl (by kernel_rfl) ?_
  iterate 2 (refine seg_cons rfl ?_; go_big_quiet_step (rfl))
  refine seg_nil ?_
  refine wpE_one 2 (by kernel_rfl) rfl ?_
  go_wp2_with fail
  refine QE_intro (below_new _) ?_
  have hq := ext_trans hq (below_new (.cells #[.int .i64 1] 3))
  have SO := SORT1 _ hq _ [1] (kinds_new _ [1] #[.int .i64 1] rfl 1 rfl) (by decide)
  refine wpE_one 3 (by kernel_rfl) rfl ?_
  go_wp2_with fail
  refine SO.out.mono ?_
  rintro e y1 ⟨q1, X, rfl, sX, hX, _, k1⟩
  clear SO
  go_wp2_with fail
  refine QE_intro k1 ?_
  have hq := ext_trans hq k1
  have he : S = X := inc_ext _ _ HIS.out hX.1 (fun x => (HMS.out x).trans (mgs_one hX x).symm)
  have IS := Lib.hid (isA_yes (HS.out.mono hq) sX (by omega) he)
  obtain ⟨ax, cx, rfl, _, _⟩ := SlA.outT sX
  clear he hX sX k1
  refine wpE_one 4 (by kernel_rfl) rfl ?_
  go_wp2_with fail
  refine IS.out.mono ?_
  rintro e y2 ⟨rfl, k2⟩
  clear IS
  go_wp2_with fail
  refine QE_intro k2 ?_
  have hq := ext_trans hq k2
  clear k2 g0 g1
  have g0 := Gr.cell hq d0
  have g1 := Gr.cell hq d1
  refine wpE_seg' [5, 6, 7, 8, 10, 11] 39 rfl (by kernel_rfl) ?_
  iterate 6 (refine seg_cons rfl ?_; go_big_quiet_step (rfl))
  refine seg_nil ?_
  clear g0 g1
  refine wpE_both 9 12 (SetKinds (mg [1, 2, 3] S T) [1, 2, 3] 3) (by kernel_rfl) rfl rfl ?_ ?_ ?_
  · have M1 := Lib.hid (setOr_ok (HS.out.mono hq) (HT.out.mono hq) hSm hTm)
    go_wp2_with fail
    refine M1.out.mono ?_
    rintro e z1 ⟨v1, rfl, s1, _, l1⟩
    go_wp2_with fail
    refine QE_intro l1 ?_
    go_wp2_with fail
    exact QE_intro (below_new _) ⟨v1, _, rfl, s1.mono (below_new _), _, rfl, kinds_new _ [1, 2, 3] #[.int .i64 1, .int .i64 2, .int .i64 3] rfl 3 rfl⟩
  · have hb := ext_trans hq (below_new (.cells #[.int .i64 1, .int .i64 2, .int .i64 3] 3))
    have M1 := Lib.hid (setOr_ok (HS.out.mono hb) (HT.out.mono hb) hSm hTm)
    go_wp2_with fail
    refine QE_intro (below_new _) ?_
    go_wp2_with fail
    refine M1.out.mono ?_
    rintro e z1 ⟨v1, rfl, s1, _, l1⟩
    go_wp2_with fail
    exact QE_intro l1 ⟨v1, _, rfl, s1, _, rfl, (kinds_new _ [1, 2, 3] #[.int .i64 1, .int .i64 2, .int .i64 3] rfl 3 rfl).mono l1⟩
  rintro v1 v2 y3 k3 ⟨s1, g, rfl, sk⟩
  have hq := ext_trans hq k3
  have SO := SORT _ hq _ [1, 2, 3] sk (by decide)
  obtain ⟨q1, rfl, _⟩ := id s1
  have S1 := Lib.hid s1
  clear k3 sk s1
  refine wpE_one 13 (by kernel_rfl) rfl ?_
  go_wp2_with fail
  refine SO.out.mono ?_
  rintro e y4 ⟨q4, X, rfl, sX, hX, hXl, k4⟩
  clear SO
  go_wp2_with fail
  refine QE_intro k4 ?_
  have hq := ext_trans hq k4
  have he := MG.out [1, 2, 3] X hX
  have hml : (mg [1, 2, 3] S T).length < 1099511627776 := by rw [he]; have := HLA.out; have := HLB.out; omega
  have IS := Lib.hid (isA_yes (S1.out.mono k4) sX hml he)
  obtain ⟨ax, cx, rfl, _, _⟩ := SlA.outT sX
  clear he hX sX k4 hml S1 hXl
  refine wpE_one 14 (by kernel_rfl) rfl ?_
  go_wp2_with fail
  refine IS.out.mono ?_
  rintro e y2 ⟨rfl, k2⟩
  clear IS
  go_wp2_with fail
  refine QE_intro k2 ?_
  have hq := ext_trans hq k2
  clear k2
  have g0 := Gr.cell hq d0
  have g1 := Gr.cell hq d1
  refine wpE_seg' [15, 16, 17, 18, 19, 21, 22] 28 rfl (by kernel_rfl) ?_
  iterate 7 (refine seg_cons rfl ?_; go_big_quiet_step (rfl))
  refine seg_nil ?_
  clear g0 g1
  refine wpE_both 20 23 (SetKinds (mg [3] S T) [3] 1) (by kernel_rfl) rfl rfl ?_ ?_ ?_
  · have M1 := Lib.hid (setAnd_ok (HS.out.mono hq) (HT.out.mono hq) hSm hTm)
    go_wp2_with fail
    refine M1.out.mono ?_
    rintro e z1 ⟨v1, rfl, s1, _, l1⟩
    go_wp2_with fail
    refine QE_intro l1 ?_
    go_wp2_with fail
    exact QE_intro (below_new _) ⟨v1, _, rfl, s1.mono (below_new _), _, rfl, kinds_new _ [3] #[.int .i64 3] rfl 1 rfl⟩
  · have hb := ext_trans hq (below_new (.cells #[.int .i64 3] 3))
    have M1 := Lib.hid (setAnd_ok (HS.out.mono hb) (HT.out.mono hb) hSm hTm)
    go_wp2_with fail
    refine QE_intro (below_new _) ?_
    go_wp2_with fail
    refine M1.out.mono ?_
    rintro e z1 ⟨v1, rfl, s1, _, l1⟩
    go_wp2_with fail
    exact QE_intro l1 ⟨v1, _, rfl, s1, _, rfl, (kinds_new _ [3] #[.int .i64 3] rfl 1 rfl).mono l1⟩
  rintro v1 v2 y3 k3 ⟨s1, g, rfl, sk⟩
  have hq := ext_trans hq k3
  have SO := SORT _ hq _ [3] sk (by decide)
  obtain ⟨q1, rfl, _⟩ := id s1
  have S1 := Lib.hid s1
  clear k3 sk s1
  refine wpE_one 24 (by kernel_rfl) rfl ?_
  go_wp2_with fail
  refine SO.out.mono ?_
  rintro e y4 ⟨q4, X, rfl, sX, hX, hXl, k4⟩
  clear SO
  go_wp2_with fail
  refine QE_intro k4 ?_
  have hq := ext_trans hq k4
  have he := MG.out [3] X hX
  have hml : (mg [3] S T).length < 1099511627776 := by rw [he]; have := HLA.out; have := HLB.out; omega
  have IS := Lib.hid (isA_yes (S1.out.mono k4) sX hml he)
  obtain ⟨ax, cx, rfl, _, _⟩ := SlA.outT sX
  clear he hX sX k4 hml S1 hXl
  refine wpE_one 25 (by kernel_rfl) rfl ?_
  go_wp2_with fail
  refine IS.out.mono ?_
  rintro e y2 ⟨rfl, k2⟩
  clear IS
  go_wp2_with fail
  refine QE_intro k2 ?_
  have hq := ext_trans hq k2
  clear k2
  have g0 := Gr.cell hq d0
  have g1 := Gr.cell hq d1
  refine wpE_seg' [26, 27, 28, 29, 30, 32, 33] 17 rfl (by kernel_rfl) ?_
  iterate 7 (refine seg_cons rfl ?_; go_big_quiet_step (rfl))
  refine seg_nil ?_
  clear g0 g1
  refine wpE_both 31 34 (SetKinds (mg [1] S T) [1] 1) (by kernel_rfl) rfl rfl ?_ ?_ ?_
  · have M1 := Lib.hid (less_ok (HS.out.mono hq) (HT.out.mono hq) hSm hTm)
    go_wp2_with fail
    refine M1.out.mono ?_
    rintro e z1 ⟨v1, rfl, s1, _, l1⟩
    go_wp2_with fail
    refine QE_intro l1 ?_
    go_wp2_with fail
    exact QE_intro (below_new _) ⟨v1, _, rfl, s1.mono (below_new _), _, rfl, kinds_new _ [1] #[.int .i64 1] rfl 1 rfl⟩
  · have hb := ext_trans hq (below_new (.cells #[.int .i64 1] 3))
    have M1 := Lib.hid (less_ok (HS.out.mono hb) (HT.out.mono hb) hSm hTm)
    go_wp2_with fail
    refine QE_intro (below_new _) ?_
    go_wp2_with fail
    refine M1.out.mono ?_
    rintro e z1 ⟨v1, rfl, s1, _, l1⟩
    go_wp2_with fail
    exact QE_intro l1 ⟨v1, _, rfl, s1, _, rfl, (kinds_new _ [1] #[.int .i64 1] rfl 1 rfl).mono l1⟩
  rintro v1 v2 y3 k3 ⟨s1, g, rfl, sk⟩
  have hq := ext_trans hq k3
  have SO := SORT _ hq _ [1] sk (by decide)
  obtain ⟨q1, rfl, _⟩ := id s1
  have S1 := Lib.hid s1
  clear k3 sk s1
  refine wpE_one 35 (by kernel_rfl) rfl ?_
  go_wp2_with fail
  refine SO.out.mono ?_
  rintro e y4 ⟨q4, X, rfl, sX, hX, hXl, k4⟩
  clear SO
  go_wp2_with fail
  refine QE_intro k4 ?_
  have hq := ext_trans hq k4
  have he := MG.out [1] X hX
  have hml : (mg [1] S T).length < 1099511627776 := by rw [he]; have := HLA.out; have := HLB.out; omega
  have IS := Lib.hid (isA_yes (S1.out.mono k4) sX hml he)
  obtain ⟨ax, cx, rfl, _, _⟩ := SlA.outT sX
  clear he hX sX k4 hml S1 hXl
  refine wpE_one 36 (by kernel_rfl) rfl ?_
  go_wp2_with fail
  refine IS.out.mono ?_
  rintro e y2 ⟨rfl, k2⟩
  clear IS
  go_wp2_with fail
  refine QE_intro k2 ?_
  have hq := ext_trans hq k2
  clear k2
  have g0 := Gr.cell hq d0
  have g1 := Gr.cell hq d1
  refine wpE_seg' [37, 38, 39, 40, 41, 43, 44] 6 rfl (by kernel_rfl) ?_
  iterate 7 (refine seg_cons rfl ?_; go_big_quiet_step (rfl))
  refine seg_nil ?_
  clear g0 g1
  refine wpE_both 42 45 (SetKinds (mg [1, 2] S T) [1, 2] 2) (by kernel_rfl) rfl rfl ?_ ?_ ?_
  · have M1 := Lib.hid (setXor_ok (HS.out.mono hq) (HT.out.mono hq) hSm hTm)
    go_wp2_with fail
    refine M1.out.mono ?_
    rintro e z1 ⟨v1, rfl, s1, _, l1⟩
    go_wp2_with fail
    refine QE_intro l1 ?_
    go_wp2_with fail
    exact QE_intro (below_new _) ⟨v1, _, rfl, s1.mono (below_new _), _, rfl, kinds_new _ [1, 2] #[.int .i64 1, .int .i64 2] rfl 2 rfl⟩
  · have hb := ext_trans hq (below_new (.cells #[.int .i64 1, .int .i64 2] 3))
    have M1 := Lib.hid (setXor_ok (HS.out.mono hb) (HT.out.mono hb) hSm hTm)
    go_wp2_with fail
    refine QE_intro (below_new _) ?_
    go_wp2_with fail
    refine M1.out.mono ?_
    rintro e z1 ⟨v1, rfl, s1, _, l1⟩
    go_wp2_with fail
    exact QE_intro l1 ⟨v1, _, rfl, s1, _, rfl, (kinds_new _ [1, 2] #[.int .i64 1, .int .i64 2] rfl 2 rfl).mono l1⟩
  rintro v1 v2 y3 k3 ⟨s1, g, rfl, sk⟩
  have hq := ext_trans hq k3
  have SO := SORT _ hq _ [1, 2] sk (by decide)
  obtain ⟨q1, rfl, _⟩ := id s1
  have S1 := Lib.hid s1
  clear k3 sk s1
  refine wpE_one 46 (by kernel_rfl) rfl ?_
  go_wp2_with fail
  refine SO.out.mono ?_
  rintro e y4 ⟨q4, X, rfl, sX, hX, hXl, k4⟩
  clear SO
  go_wp2_with fail
  refine QE_intro k4 ?_
  have hq := ext_trans hq k4
  have he := MG.out [1, 2] X hX
  have hml : (mg [1, 2] S T).length < 1099511627776 := by rw [he]; have := HLA.out; have := HLB.out; omega
  have IS := Lib.hid (isA_yes (S1.out.mono k4) sX hml he)
  obtain ⟨ax, cx, rfl, _, _⟩ := SlA.outT sX
  clear he hX sX k4 hml S1 hXl
  refine wpE_one 47 (by kernel_rfl) rfl ?_
  go_wp2_with fail
  refine IS.out.mono ?_
  rintro e y2 ⟨rfl, k2⟩
  clear IS
  go_wp2_with fail
  refine QE_intro k2 ?_
  have hq := ext_trans hq k2
  clear k2
  refine wpE_seg' [48, 49] 0 rfl (by kernel_rfl) ?_
  iterate 2 (refine seg_cons rfl ?_; go_big_quiet_step (rfl))
  refine seg_nil ?_
  refine wpE_tail [] (by kernel_rfl) ?_
  refine tail_nil ?_
  have b0 := cellE hq d0
  have b1 := cellE hq d1
  have HSx := Lib.hid (show S = T ↔ ∀ x, x ∈ LA ↔ x ∈ LB from ⟨fun e x => by rw [← HMS.out x, ← HMT.out x, e], fun h => inc_ext _ _ HIS.out HIT.out fun x => by rw [HMS.out x, HMT.out x, h x]⟩)
  have WI := within_ok (HS.out.mono hq) (HT.out.mono hq) hSm hTm
  by_cases hE1 : mg [1] S T = []
  · rw [decide_eq_true hE1] at WI
    have WI := Lib.hid WI
    go_wp2_with fail
    refine WI.out.mono ?_
    rintro e x1 ⟨rfl, m1⟩
    have hx1 := ext_trans hq m1
    have hx2 := ext_trans hx1 (below_new (.cells #[.int .i64 1] 3))
    have SO := SORT _ hx2 _ [1] (kinds_new _ [1] #[.int .i64 1] rfl 1 rfl) (by decide)
    clear WI m1 b0 b1
    go_wp2_with fail
    refine SO.out.mono ?_
    rintro e x3 ⟨q3, X, rfl, sX, hX, hXl, m3⟩
    have he := MG.out [1] X hX
    have hx3 := ext_trans hx2 m3
    obtain ⟨ax, cx, rfl, _, _⟩ := SlA.outTn (n := 0) sX (by rw [← he, hE1]; rfl)
    have b0 := cellE hx3 d0
    have b1 := cellE hx3 d1
    have SM := sameS_ok (HS.out.mono hx3) (HT.out.mono hx3) hSm hTm
    clear SO he sX hX hXl m3 hE1
    by_cases hE2 : S = T
    · rw [decide_eq_true hE2] at SM
      have SM := Lib.hid SM
      go_wp2_with fail
      refine SM.out.mono ?_
      rintro e x4 ⟨rfl, m4⟩
      have hx4 := ext_trans hx3 m4
      have hx5 := ext_trans hx4 (below_new (.cells #[.int .i64 1, .int .i64 2] 3))
      have SO := SORT _ hx5 _ [1, 2] (kinds_new _ [1, 2] #[.int .i64 1, .int .i64 2] rfl 2 rfl) (by decide)
      clear SM m4 b0 b1
      go_wp2_with fail
      refine SO.out.mono ?_
      rintro e x6 ⟨q6, Y, rfl, sY, hY, hYl, m6⟩
      have hx6 := ext_trans hx5 m6
      have hN := mgs_xor_nil hY
      obtain ⟨ay, cy, rfl, _, _⟩ := SlA.outTn (n := 0) sY (by rw [hN.2 (HSx.out.1 hE2)]; rfl)
      clear SO sY hY hYl m6 hN hE2
      go_wp2
      go_ret
      exact ⟨rfl, hE6.trans (hx6.mono hE6.size)⟩
    · rw [decide_eq_false hE2] at SM
      have SM := Lib.hid SM
      go_wp2_with fail
      refine SM.out.mono ?_
      rintro e x4 ⟨rfl, m4⟩
      have hx4 := ext_trans hx3 m4
      have hx5 := ext_trans hx4 (below_new (.cells #[.int .i64 1, .int .i64 2] 3))
      have SO := SORT _ hx5 _ [1, 2] (kinds_new _ [1, 2] #[.int .i64 1, .int .i64 2] rfl 2 rfl) (by decide)
      clear SM m4 b0 b1
      go_wp2_with fail
      refine SO.out.mono ?_
      rintro e x6 ⟨q6, Y, rfl, sY, hY, hYl, m6⟩
      have hx6 := ext_trans hx5 m6
      have hN := mgs_xor_nil hY
      obtain ⟨ny, hny⟩ : ∃ n, n = Y.length := ⟨_, rfl⟩
      obtain ⟨ay, cy, rfl, _, _⟩ := SlA.outTn sY hny
      have hy0 : ny ≠ 0 := fun h => hE2 (HSx.out.2 (hN.1 (List.length_eq_zero_iff.1 (hny ▸ h))))
      have hzy : ((ny : Int) == 0) = false := by simp; omega
      clear hny
      clear SO sY hY hYl m6 hN hE2
      go_wp2
      go_ret
      exact ⟨rfl, hE6.trans (hx6.mono hE6.size)⟩
  · rw [decide_eq_false hE1] at WI
    have WI := Lib.hid WI
    go_wp2_with fail
    refine WI.out.mono ?_
    rintro e x1 ⟨rfl, m1⟩
    have hx1 := ext_trans hq m1
    have hx2 := ext_trans hx1 (below_new (.cells #[.int .i64 1] 3))
    have SO := SORT _ hx2 _ [1] (kinds_new _ [1] #[.int .i64 1] rfl 1 rfl) (by decide)
    clear WI m1 b0 b1
    go_wp2_with fail
    refine SO.out.mono ?_
    rintro e x3 ⟨q3, X, rfl, sX, hX, hXl, m3⟩
    have he := MG.out [1] X hX
    have hx3 := ext_trans hx2 m3
    obtain ⟨nx, hnx⟩ : ∃ n, n = X.length := ⟨_, rfl⟩
    obtain ⟨ax, cx, rfl, _, _⟩ := SlA.outTn sX hnx
    have hx0 : nx ≠ 0 := fun h => hE1 (by rw [he]; exact List.length_eq_zero_iff.1 (hnx ▸ h))
    have hz : ((nx : Int) == 0) = false := by simp; omega
    clear hnx
    have b0 := cellE hx3 d0
    have b1 := cellE hx3 d1
    have SM := sameS_ok (HS.out.mono hx3) (HT.out.mono hx3) hSm hTm
    clear SO he sX hX hXl m3 hE1
    by_cases hE2 : S = T
    · rw [decide_eq_true hE2] at SM
      have SM := Lib.hid SM
      go_wp2_with fail
      refine SM.out.mono ?_
      rintro e x4 ⟨rfl, m4⟩
      have hx4 := ext_trans hx3 m4
      have hx5 := ext_trans hx4 (below_new (.cells #[.int .i64 1, .int .i64 2] 3))
      have SO := SORT _ hx5 _ [1, 2] (kinds_new _ [1, 2] #[.int .i64 1, .int .i64 2] rfl 2 rfl) (by decide)
      clear SM m4 b0 b1
      go_wp2_with fail
      refine SO.out.mono ?_
      rintro e x6 ⟨q6, Y, rfl, sY, hY, hYl, m6⟩
      have hx6 := ext_trans hx5 m6
      have hN := mgs_xor_nil hY
      obtain ⟨ay, cy, rfl, _, _⟩ := SlA.outTn (n := 0) sY (by rw [hN.2 (HSx.out.1 hE2)]; rfl)
      clear SO sY hY hYl m6 hN hE2
      go_wp2
      go_ret
      exact ⟨rfl, hE6.trans (hx6.mono hE6.size)⟩
    · rw [decide_eq_false hE2] at SM
      have SM := Lib.hid SM
      go_wp2_with fail
      refine SM.out.mono ?_
      rintro e x4 ⟨rfl, m4⟩
      have hx4 := ext_trans hx3 m4
      have hx5 := ext_trans hx4 (below_new (.cells #[.int .i64 1, .int .i64 2] 3))
      have SO := SORT _ hx5 _ [1, 2] (kinds_new _ [1, 2] #[.int .i64 1, .int .i64 2] rfl 2 rfl) (by decide)
      clear SM m4 b0 b1
      go_wp2_with fail
      refine SO.out.mono ?_
      rintro e x6 ⟨q6, Y, rfl, sY, hY, hYl, m6⟩
      have hx6 := ext_trans hx5 m6
      have hN := mgs_xor_nil hY
      obtain ⟨ny, hny⟩ : ∃ n, n = Y.length := ⟨_, rfl⟩
      obtain ⟨ay, cy, rfl, _, _⟩ := SlA.outTn sY hny
      have hy0 : ny ≠ 0 := fun h => hE2 (HSx.out.2 (hN.1 (List.length_eq_zero_iff.1 (hny ▸ h))))
      have hzy : ((ny : Int) == 0) = false := by simp; omega
      clear hny
      clear SO sY hY hYl m6 hN hE2
      go_wp2
      go_ret
      exact ⟨rfl, hE6.trans (hx6.mono hE6.size)⟩
end Go.Proofs.Ytcabmibcgedhhaa

/-
  The walks of slices.Index and Contains at the sides, and of strset.merge. (Written by genStrC.py.)
-/
import Derived.Test.YtcabmibcgedhhaaStr3
import Derived.Test.YtcabmibcgedhhaaStrP
import Derived.Test.YtcabmibcgedhhaaStr8
namespace Go.Proofs.Ytcabmibcgedhhaa
open Go.RowKit Go.Cd

theorem take_not {ks : List Nat} {j K : Nat} (hj : j < ks.length) (h : (ks.take j).contains K = false) (hne : ¬ K = ks[j]) : (ks.take (j + 1)).contains K = false := by
  rw [cont_succ hj, h, Bool.false_or]; simpa using hne

set_option maxRecDepth 100000 in
set_option maxHeartbeats 1600000 in
theorem indexSide_ok {w : World} {v : Value} {ks : List Nat} (K : Nat) (h : SlA w v (nis ks)) (hmax : ks.length < 1000000) :
    Calls Try.prog 121 #[v, .int .i64 K] w fun e w' => (∃ r : Int, e = .returned (.int .i64 r) ∧ decide (0 ≤ r) = ks.contains K) ∧ Below w.heap.size w w' := by
  obtain ⟨a, cap, rfl, _, hx⟩ := SlA.outN h
  have HX := Lib.hid hx
  obtain ⟨n, hn⟩ : ∃ n, n = ks.length := ⟨_, rfl⟩
  rw [← hn] at hmax ⊢
  have HN := Lib.hid hn
  clear h hx hn
  go_enter Try.func121, Try.ntmps121
  go_wp2_with fail
  go_loopw [8] (fun i wr => ∃ j : Nat, j ≤ n ∧ i = .int .i64 j ∧ (ks.take j).contains K = false ∧ wr = w) (fun i _ => n - (intOf i).toNat)
  case atStart => exact ⟨0, Nat.zero_le _, rfl, rfl, rfl⟩
  case round =>
    obtain ⟨j, hj, rfl, hm, rfl⟩ := hrel
    by_cases hjn : j < n
    · have hjl : j < ks.length := by have := HN.out; omega
      obtain ⟨b, off, rfl, _, hc⟩ := HX.out j hjl
      have TN := Lib.hid (take_not (K := K) hjl hm)
      have HE := Lib.hid (List.getElem_mem hjl)
      generalize ks[j] = q at *
      by_cases hst : K = q
      · subst hst
        have HR := Lib.hid (List.contains_iff_mem.2 HE.out)
        have he : ((K : Int) == K) = true := by simp
        clear hm
        go_wp2
        go_ret
        exact ⟨⟨j, rfl, ⟨fun _ => List.contains_iff_mem.1 HR.out, fun _ => by omega⟩⟩, Below.refl _ _⟩
      · have he : ((K : Int) == q) = false := by simp; omega
        have TN' := Lib.hid (TN.out hst)
        clear hm hst
        go_wp2
        go_roundw
        case rel => exact ⟨j + 1, by omega, rfl, TN'.out, trivial⟩
        case measure => simp [intOf]; omega
    · obtain rfl : j = n := by omega
      have HR := Lib.hid (show ks.contains K = false by rw [HN.out, List.take_length] at hm; exact hm)
      clear hm
      go_wp2
      go_ret
      exact ⟨⟨_, rfl, by rw [HR.out]; rfl⟩, Below.refl _ _⟩

set_option maxRecDepth 100000 in
set_option maxHeartbeats 1600000 in
theorem containsSide_ok {w : World} {v : Value} {ks : List Nat} (K : Nat) (h : SlA w v (nis ks)) (hmax : ks.length < 1000000) :
    Calls Try.prog 111 #[v, .int .i64 K] w fun e w' => e = .returned (.bool (ks.contains K)) ∧ Below w.heap.size w w' := by
  have IX := Lib.hid (indexSide_ok K h hmax)
  obtain ⟨a, cap, rfl, _, _⟩ := SlA.outN h
  clear h
  go_enter Try.func111, Try.ntmps111
  go_wp2_with fail
  refine IX.out.mono ?_
  rintro e w1 ⟨⟨r, rfl, hr⟩, h1⟩
  have HR := Lib.hid hr
  clear hr IX
  go_wp2
  go_ret
  exact ⟨ret_bool HR.out, h1⟩

theorem mg_l (k : List Nat) (x : Txt) (a : List Txt) : mg k (x :: a) [] = opt (k.contains 1) x (mg k a []) := by rw [mg]
theorem mg_r (k : List Nat) (y : Txt) (b : List Txt) : mg k [] (y :: b) = opt (k.contains 2) y (mg k [] b) := by rw [mg]
theorem mg_lt (k : List Nat) {x y : Txt} (a b : List Txt) (h : x < y) : mg k (x :: a) (y :: b) = opt (k.contains 1) x (mg k a (y :: b)) := by rw [mg, if_pos h]
theorem mg_gt (k : List Nat) {x y : Txt} (a b : List Txt) (h : y < x) : mg k (x :: a) (y :: b) = opt (k.contains 2) y (mg k (x :: a) b) := by
  rw [mg, if_neg (fun h' => List.lt_irrefl _ (List.lt_trans h h')), if_pos h]
theorem mg_eq (k : List Nat) (x : Txt) (a b : List Txt) : mg k (x :: a) (x :: b) = opt (k.contains 3) x (mg k a b) := by
  rw [mg, if_neg (List.lt_irrefl _), if_neg (List.lt_irrefl _)]
theorem opt_yes {p : Bool} (hp : p = true) (o : List Txt) (x : Txt) (r : List Txt) : o ++ opt p x r = (o ++ [x]) ++ r := by subst hp; simp [opt]
theorem opt_no {p : Bool} (hp : p = false) (o : List Txt) (x : Txt) (r : List Txt) : o ++ opt p x r = o ++ r := by subst hp; simp [opt]

/-- how long a slice is -/
def lenV : Value → Nat
  | .slice _ n _ => n
  | _ => 0

/-- A row with a first text: where it stands, and the rest. -/
theorem SlA.head {w : World} {v : Value} {x : Txt} {l : List Txt} {n : Nat} (h : SlA w v (txs (x :: l))) (hn : n = l.length + 1) : ∃ b off cap, v = .slice (some ⟨b, off, none⟩) n cap ∧ n ≤ cap ∧
    w.cell? ⟨b, off, none⟩ = some (.string (sv x)) ∧ (¬ cap = 1 → SlA w (.slice (some ⟨b, off + 1, none⟩) (n - 1) (cap - 1)) (txs l)) ∧ (cap = 1 → n = 1 ∧ SlA w (.slice (some ⟨b, off, none⟩) 0 0) (txs l)) := by
  subst hn
  obtain ⟨a, cap, rfl, hc, hx⟩ := SlA.outT h
  obtain ⟨b, off, rfl, _, h0⟩ := hx 0 (by simp)
  refine ⟨b, off, cap, rfl, hc, by simpa using h0, fun _ => ?_, fun h1 => ?_⟩
  · have := Go.Cd.SlA.from h (k := 1) (by simp [txs])
    simpa [txs] using this
  · have hl : l = [] := by
      have : (x :: l).length ≤ 1 := by rw [← h1]; exact hc
      cases l with
      | nil => rfl
      | cons y l => simp at this
    subst hl
    exact ⟨rfl, sla_zero _ _⟩

theorem SlA.empty {w : World} {v : Value} (h : SlA w v (txs [])) : ∃ a cap, v = .slice a 0 cap := by
  obtain ⟨a, cap, rfl, _, _⟩ := SlA.outT h
  exact ⟨a, cap, rfl⟩

set_option maxRecDepth 100000 in
set_option maxHeartbeats 12800000 in
theorem merge_ok {w : World} {va vb vk : Value} {a b : List Txt} {ks : List Nat} (ha : SlA w va (txs a)) (hb : SlA w vb (txs b)) (hk : SlA w vk (nis ks)) (ma : a.length < 1000000) (mb : b.length < 1000000) (mk : ks.length < 1000000) :
    Calls Try.prog 97 #[va, vb, vk] w fun e w' => ∃ r, e = .returned r ∧ SetV w' r (mg ks a b) ∧ (mg ks a b).length ≤ a.length + b.length ∧ Below w.heap.size w w' := by
  have hbw := below_new (w := w) (.cells #[.slice none 0 0] tSet)
  have hbx : (w.alloc (.cells #[.slice none 0 0] tSet)).heap[w.heap.size]? = some (.cells #[.slice none 0 0] tSet) := heap_alloc_new _ _
  obtain ⟨W0, hW⟩ : ∃ W0, W0 = w.alloc (.cells #[.slice none 0 0] tSet) := ⟨_, rfl⟩
  rw [← hW] at hbw hbx
  have CS := fun (W : World) (E : Below w.heap.size w W) (K : Nat) => Lib.hid (containsSide_ok K (hk.mono E) mk)
  have HA := Lib.hid (ha.mono hbw)
  have HB := Lib.hid (hb.mono hbw)
  obtain ⟨aa, ca, rfl, _, _⟩ := SlA.outT ha
  obtain ⟨ab, cb, rfl, _, _⟩ := SlA.outT hb
  obtain ⟨ak, ck, rfl, _, _⟩ := SlA.outN hk
  have hsz : W0.heap.size = w.heap.size + 1 := by rw [hW]; simp
  clear ha hb hk
  go_enter Try.func97, Try.ntmps97
  go_wp2_with fail
  rw [← hW]
  clear hW
  go_loopw [0, 1, 7] (fun av bv ov wr => ∃ (a' b' o' : List Txt), SlA W0 av (txs a') ∧ SlA W0 bv (txs b') ∧ wr.ownsRow W0.heap.size eStr 1 ov o'.length (txs o') ∧ o' ++ mg ks a' b' = mg ks a b ∧
      a'.length ≤ a.length ∧ b'.length ≤ b.length ∧ o'.length + a'.length + b'.length ≤ a.length + b.length ∧ Below W0.heap.size W0 wr) (fun av bv _ _ => lenV av + lenV bv)
  case atStart => exact ⟨a, b, [], HA.out, HB.out, World.ownsRow_nil _ _ _ _, rfl, Nat.le_refl _, Nat.le_refl _, by simp, Below.refl _ _⟩
  case round =>
    clear HA HB
    obtain ⟨a', b', o', hA, hB, hO, hmg, hla, hlb, hlo, hE⟩ := hrel
    have hEw := hbw.trans (hE.mono hbw.size)
    cases a' with
    | nil =>
      obtain ⟨aA, cA, rfl⟩ := SlA.empty hA
      cases b' with
      | nil =>
        obtain ⟨aB, cB, rfl⟩ := SlA.empty hB
        rw [show mg ks [] [] = [] by rw [mg], List.append_nil] at hmg
        have HMG := Lib.hid hmg
        clear hmg
        have s9 := Sl0.of_own hO
        have hb9 := (hE.block _ (block_lt hbx)).trans hbx
        have c9 : wr.cell? ⟨w.heap.size, 0, none⟩ = some (.slice none 0 0) := by unfold World.cell?; rw [hb9]; rfl
        have f9 : wr.frozen? ⟨w.heap.size, 0, none⟩ = false := by unfold World.frozen?; rw [hb9]; rfl
        have hlen : o'.length ≤ a.length + b.length := by simp at hlo; omega
        obtain ⟨a9, cap9, rfl, _⟩ := SlA.outT s9.any
        have HL := Lib.hid hlen
        have c5 := cell_put (u := .slice a9 o'.length cap9) (o := 0) hb9 (by simp)
        have s5 := s9.put (o := 0) (u := .slice a9 o'.length cap9) hb9 (by decide)
        have hE5 := below_put (off := 0) (u := .slice a9 o'.length cap9) hEw (Nat.le_refl _)
        clear hA hB hO hb9 hlo hlen hla hlb
        go_wp2
        exact bodyPost_ret (v := .agg #[.slice a9 o'.length cap9]) (by simp [results, Try.results97, go_sem, c5]) rfl ⟨_, rfl, ⟨_, rfl, by rw [← HMG.out]; exact s5⟩, by rw [← HMG.out]; exact HL.out, hE5⟩
      | cons y b'' =>
        obtain ⟨nB, hnB⟩ : ∃ n, n = b''.length + 1 := ⟨_, rfl⟩
        obtain ⟨bB, oB, cB, rfl, hcB, hxB, hBn, hB1⟩ := SlA.head hB hnB
        have hxB := cellE hE hxB
        have h0B : 0 < nB := by omega
        have HNB := Lib.hid hnB
        clear hnB hB
        have HM := Lib.hid ((mg_r ks y b'').symm)
        have D1 := ext_drew wr
        have D2 := ext_trans D1 (ext_drew _)
        have D3 := ext_trans D2 (ext_drew _)
        have D4 := ext_trans D3 (ext_drew _)
        have hgB1 := Gr.cell D1 hxB
        by_cases hqB : cB = 1
        · obtain ⟨rfl, tB⟩ := hB1 hqB
          subst hqB
          clear hBn hB1
          go_wp2_with fail
          refine wp_region_E (Array.replicate 7 true) 7 0 mixed (by rfl) ?_
          refine wpE_seg' [0, 1, 2, 3, 4, 5, 6] 0 rfl (by kernel_rfl) ?_
          iterate 7 (refine seg_cons rfl ?_; go_big_quiet_step (rfl))
          refine seg_nil ?_
          refine wpE_tail [] (by kernel_rfl) ?_
          refine tail_nil ?_
          have hEq := ext_trans hE D1
          have CS' := CS _ (hbw.trans (hEq.mono hbw.size)) 2
          go_wp2_with fail
          refine CS'.out.mono ?_
          rintro e w8 ⟨rfl, h8⟩
          have hE8 := ext_trans hEq h8
          have hO8 := own_ext (own_ext hO D1) h8
          clear CS'
          cases hp : ks.contains 2
          · go_wp2
            go_roundw
            case rel => exact ⟨[], b'', o', hA, tB, hO8, by rw [← hmg, ← HM.out, opt_no hp], by simp at hla ⊢ <;> omega, by simp at hlb ⊢ <;> omega, by simp at hlo ⊢ <;> omega, hE8⟩
            case measure => simp [lenV] <;> omega
          · go_wp2_with (at_builtin; refine pushT rfl _ _ rfl W0.heap.size _ o'.length o' rfl hO8 y rfl (by simp at hlo; omega) W0 hE8 (Nat.le_refl _) ?_; intro v9 w9 ho9 hE9 hg9)
            go_roundw
            case rel => exact ⟨[], b'', o' ++ [y], hA, tB, by simpa using ho9, by rw [← hmg, ← HM.out, opt_yes hp], by simp at hla ⊢ <;> omega, by simp at hlb ⊢ <;> omega, by simp at hlo ⊢ <;> omega, hE9⟩
            case measure => simp [lenV] <;> omega
        · have tB := hBn hqB
          clear hBn hB1
          go_wp2_with fail
          refine wp_region_E (Array.replicate 7 true) 7 0 mixed (by rfl) ?_
          refine wpE_seg' [0, 1, 2, 3, 4, 5, 6] 0 rfl (by kernel_rfl) ?_
          iterate 7 (refine seg_cons rfl ?_; go_big_quiet_step (rfl))
          refine seg_nil ?_
          refine wpE_tail [] (by kernel_rfl) ?_
          refine tail_nil ?_
          have hEq := ext_trans hE D1
          have CS' := CS _ (hbw.trans (hEq.mono hbw.size)) 2
          go_wp2_with fail
          refine CS'.out.mono ?_
          rintro e w8 ⟨rfl, h8⟩
          have hE8 := ext_trans hEq h8
          have hO8 := own_ext (own_ext hO D1) h8
          clear CS'
          cases hp : ks.contains 2
          · go_wp2
            go_roundw
            case rel => exact ⟨[], b'', o', hA, tB, hO8, by rw [← hmg, ← HM.out, opt_no hp], by simp at hla ⊢ <;> omega, by simp at hlb ⊢ <;> omega, by simp at hlo ⊢ <;> omega, hE8⟩
            case measure => simp [lenV] <;> omega
          · go_wp2_with (at_builtin; refine pushT rfl _ _ rfl W0.heap.size _ o'.length o' rfl hO8 y rfl (by simp at hlo; omega) W0 hE8 (Nat.le_refl _) ?_; intro v9 w9 ho9 hE9 hg9)
            go_roundw
            case rel => exact ⟨[], b'', o' ++ [y], hA, tB, by simpa using ho9, by rw [← hmg, ← HM.out, opt_yes hp], by simp at hla ⊢ <;> omega, by simp at hlb ⊢ <;> omega, by simp at hlo ⊢ <;> omega, hE9⟩
            case measure => simp [lenV] <;> omega
    | cons x a'' =>
      cases b' with
      | nil =>
        obtain ⟨aB, cB, rfl⟩ := SlA.empty hB
        obtain ⟨nA, hnA⟩ : ∃ n, n = a''.length + 1 := ⟨_, rfl⟩
        obtain ⟨bA, oA, cA, rfl, hcA, hxA, hAn, hA1⟩ := SlA.head hA hnA
        have hxA := cellE hE hxA
        have h0A : 0 < nA := by omega
        have HNA := Lib.hid hnA
        clear hnA hA
        have HM := Lib.hid ((mg_l ks x a'').symm)
        have D1 := ext_drew wr
        have D2 := ext_trans D1 (ext_drew _)
        have D3 := ext_trans D2 (ext_drew _)
        have D4 := ext_trans D3 (ext_drew _)
        have hgA1 := Gr.cell D1 hxA
        by_cases hqA : cA = 1
        · obtain ⟨rfl, tA⟩ := hA1 hqA
          subst hqA
          clear hAn hA1
          go_wp2_with fail
          refine wp_region_E (Array.replicate 7 true) 7 0 mixed (by rfl) ?_
          refine wpE_seg' [0, 1, 2, 3, 4, 5, 6] 0 rfl (by kernel_rfl) ?_
          iterate 7 (refine seg_cons rfl ?_; go_big_quiet_step (rfl))
          refine seg_nil ?_
          refine wpE_tail [] (by kernel_rfl) ?_
          refine tail_nil ?_
          have hEq := ext_trans hE D1
          have CS' := CS _ (hbw.trans (hEq.mono hbw.size)) 1
          go_wp2_with fail
          refine CS'.out.mono ?_
          rintro e w8 ⟨rfl, h8⟩
          have hE8 := ext_trans hEq h8
          have hO8 := own_ext (own_ext hO D1) h8
          clear CS'
          cases hp : ks.contains 1
          · go_wp2
            go_roundw
            case rel => exact ⟨a'', [], o', tA, hB, hO8, by rw [← hmg, ← HM.out, opt_no hp], by simp at hla ⊢ <;> omega, by simp at hlb ⊢ <;> omega, by simp at hlo ⊢ <;> omega, hE8⟩
            case measure => simp [lenV] <;> omega
          · go_wp2_with (at_builtin; refine pushT rfl _ _ rfl W0.heap.size _ o'.length o' rfl hO8 x rfl (by simp at hlo; omega) W0 hE8 (Nat.le_refl _) ?_; intro v9 w9 ho9 hE9 hg9)
            go_roundw
            case rel => exact ⟨a'', [], o' ++ [x], tA, hB, by simpa using ho9, by rw [← hmg, ← HM.out, opt_yes hp], by simp at hla ⊢ <;> omega, by simp at hlb ⊢ <;> omega, by simp at hlo ⊢ <;> omega, hE9⟩
            case measure => simp [lenV] <;> omega
        · have tA := hAn hqA
          clear hAn hA1
          go_wp2_with fail
          refine wp_region_E (Array.replicate 7 true) 7 0 mixed (by rfl) ?_
          refine wpE_seg' [0, 1, 2, 3, 4, 5, 6] 0 rfl (by kernel_rfl) ?_
          iterate 7 (refine seg_cons rfl ?_; go_big_quiet_step (rfl))
          refine seg_nil ?_
          refine wpE_tail [] (by kernel_rfl) ?_
          refine tail_nil ?_
          have hEq := ext_trans hE D1
          have CS' := CS _ (hbw.trans (hEq.mono hbw.size)) 1
          go_wp2_with fail
          refine CS'.out.mono ?_
          rintro e w8 ⟨rfl, h8⟩
          have hE8 := ext_trans hEq h8
          have hO8 := own_ext (own_ext hO D1) h8
          clear CS'
          cases hp : ks.contains 1
          · go_wp2
            go_roundw
            case rel => exact ⟨a'', [], o', tA, hB, hO8, by rw [← hmg, ← HM.out, opt_no hp], by simp at hla ⊢ <;> omega, by simp at hlb ⊢ <;> omega, by simp at hlo ⊢ <;> omega, hE8⟩
            case measure => simp [lenV] <;> omega
          · go_wp2_with (at_builtin; refine pushT rfl _ _ rfl W0.heap.size _ o'.length o' rfl hO8 x rfl (by simp at hlo; omega) W0 hE8 (Nat.le_refl _) ?_; intro v9 w9 ho9 hE9 hg9)
            go_roundw
            case rel => exact ⟨a'', [], o' ++ [x], tA, hB, by simpa using ho9, by rw [← hmg, ← HM.out, opt_yes hp], by simp at hla ⊢ <;> omega, by simp at hlb ⊢ <;> omega, by simp at hlo ⊢ <;> omega, hE9⟩
            case measure => simp [lenV] <;> omega
      | cons y b'' =>
        obtain ⟨nA, hnA⟩ : ∃ n, n = a''.length + 1 := ⟨_, rfl⟩
        obtain ⟨bA, oA, cA, rfl, hcA, hxA, hAn, hA1⟩ := SlA.head hA hnA
        have hxA := cellE hE hxA
        have h0A : 0 < nA := by omega
        have HNA := Lib.hid hnA
        clear hnA
        obtain ⟨nB, hnB⟩ : ∃ n, n = b''.length + 1 := ⟨_, rfl⟩
        obtain ⟨bB, oB, cB, rfl, hcB, hxB, hBn, hB1⟩ := SlA.head hB hnB
        have hxB := cellE hE hxB
        have h0B : 0 < nB := by omega
        have HNB := Lib.hid hnB
        clear hnB
        have U := fun (W : World) => utfCompare_ok x y W
        have hlt := cb_lt x y
        have hgt := cb_gt x y
        have heq := cb_eq x y
        generalize Lib.compareBytes x y = C at U hlt hgt heq
        have HU := Lib.hid U
        clear U
        rcases tri x y with hxy | hxy | hxy
        · have hC := hlt.2 hxy
          have HM := Lib.hid ((mg_lt ks a'' b'' hxy).symm)
          clear hlt hgt heq hxy
          have D1 := ext_drew wr
          have D2 := ext_trans D1 (ext_drew _)
          have D3 := ext_trans D2 (ext_drew _)
          have D4 := ext_trans D3 (ext_drew _)
          have hgA1 := Gr.cell D1 hxA
          have hgB1 := Gr.cell D1 hxB
          have hgA2 := Gr.cell D2 hxA
          by_cases hqA : cA = 1
          · obtain ⟨rfl, tA⟩ := hA1 hqA
            subst hqA
            clear hAn hA1
            go_wp2_with fail
            refine wp_region_E (Array.replicate 9 true) 9 0 mixed (by rfl) ?_
            refine wpE_seg' [0, 1, 2, 3, 4, 5] 3 rfl (by kernel_rfl) ?_
            iterate 6 (refine seg_cons rfl ?_; go_big_quiet_step (rfl))
            refine seg_nil ?_
            refine wpE_one 6 (by kernel_rfl) rfl ?_
            go_wp2_with fail
            refine (HU.out _).mono ?_
            rintro e wz ⟨rfl, rfl⟩
            go_wp2_with fail
            refine QE_intro (Below.refl _ _) ?_
            refine wpE_seg' [7, 8] 0 rfl (by kernel_rfl) ?_
            iterate 2 (refine seg_cons rfl ?_; go_big_quiet_step (rfl))
            refine seg_nil ?_
            refine wpE_tail [] (by kernel_rfl) ?_
            refine tail_nil ?_
            go_wp2_with fail
            refine wp_region_E (Array.replicate 7 true) 7 0 mixed (by rfl) ?_
            refine wpE_seg' [0, 1, 2, 3, 4, 5, 6] 0 rfl (by kernel_rfl) ?_
            iterate 7 (refine seg_cons rfl ?_; go_big_quiet_step (rfl))
            refine seg_nil ?_
            refine wpE_tail [] (by kernel_rfl) ?_
            refine tail_nil ?_
            have hEq := ext_trans hE D2
            have CS' := CS _ (hbw.trans (hEq.mono hbw.size)) 1
            go_wp2_with fail
            refine CS'.out.mono ?_
            rintro e w8 ⟨rfl, h8⟩
            have hE8 := ext_trans hEq h8
            have hO8 := own_ext (own_ext hO D2) h8
            clear CS'
            cases hp : ks.contains 1
            · go_wp2
              go_roundw
              case rel => exact ⟨a'', (y :: b''), o', tA, hB, hO8, by rw [← hmg, ← HM.out, opt_no hp], by simp at hla ⊢ <;> omega, by simp at hlb ⊢ <;> omega, by simp at hlo ⊢ <;> omega, hE8⟩
              case measure => simp [lenV] <;> omega
            · go_wp2_with (at_builtin; refine pushT rfl _ _ rfl W0.heap.size _ o'.length o' rfl hO8 x rfl (by simp at hlo; omega) W0 hE8 (Nat.le_refl _) ?_; intro v9 w9 ho9 hE9 hg9)
              go_roundw
              case rel => exact ⟨a'', (y :: b''), o' ++ [x], tA, hB, by simpa using ho9, by rw [← hmg, ← HM.out, opt_yes hp], by simp at hla ⊢ <;> omega, by simp at hlb ⊢ <;> omega, by simp at hlo ⊢ <;> omega, hE9⟩
              case measure => simp [lenV] <;> omega
          · have tA := hAn hqA
            clear hAn hA1
            go_wp2_with fail
            refine wp_region_E (Array.replicate 9 true) 9 0 mixed (by rfl) ?_
            refine wpE_seg' [0, 1, 2, 3, 4, 5] 3 rfl (by kernel_rfl) ?_
            iterate 6 (refine seg_cons rfl ?_; go_big_quiet_step (rfl))
            refine seg_nil ?_
            refine wpE_one 6 (by kernel_rfl) rfl ?_
            go_wp2_with fail
            refine (HU.out _).mono ?_
            rintro e wz ⟨rfl, rfl⟩
            go_wp2_with fail
            refine QE_intro (Below.refl _ _) ?_
            refine wpE_seg' [7, 8] 0 rfl (by kernel_rfl) ?_
            iterate 2 (refine seg_cons rfl ?_; go_big_quiet_step (rfl))
            refine seg_nil ?_
            refine wpE_tail [] (by kernel_rfl) ?_
            refine tail_nil ?_
            go_wp2_with fail
            refine wp_region_E (Array.replicate 7 true) 7 0 mixed (by rfl) ?_
            refine wpE_seg' [0, 1, 2, 3, 4, 5, 6] 0 rfl (by kernel_rfl) ?_
            iterate 7 (refine seg_cons rfl ?_; go_big_quiet_step (rfl))
            refine seg_nil ?_
            refine wpE_tail [] (by kernel_rfl) ?_
            refine tail_nil ?_
            have hEq := ext_trans hE D2
            have CS' := CS _ (hbw.trans (hEq.mono hbw.size)) 1
            go_wp2_with fail
            refine CS'.out.mono ?_
            rintro e w8 ⟨rfl, h8⟩
            have hE8 := ext_trans hEq h8
            have hO8 := own_ext (own_ext hO D2) h8
            clear CS'
            cases hp : ks.contains 1
            · go_wp2
              go_roundw
              case rel => exact ⟨a'', (y :: b''), o', tA, hB, hO8, by rw [← hmg, ← HM.out, opt_no hp], by simp at hla ⊢ <;> omega, by simp at hlb ⊢ <;> omega, by simp at hlo ⊢ <;> omega, hE8⟩
              case measure => simp [lenV] <;> omega
            · go_wp2_with (at_builtin; refine pushT rfl _ _ rfl W0.heap.size _ o'.length o' rfl hO8 x rfl (by simp at hlo; omega) W0 hE8 (Nat.le_refl _) ?_; intro v9 w9 ho9 hE9 hg9)
              go_roundw
              case rel => exact ⟨a'', (y :: b''), o' ++ [x], tA, hB, by simpa using ho9, by rw [← hmg, ← HM.out, opt_yes hp], by simp at hla ⊢ <;> omega, by simp at hlb ⊢ <;> omega, by simp at hlo ⊢ <;> omega, hE9⟩
              case measure => simp [lenV] <;> omega
        · have hC := heq.2 hxy
          subst hxy
          have HM := Lib.hid ((mg_eq ks x a'' b'').symm)
          clear hlt hgt heq
          have D1 := ext_drew wr
          have D2 := ext_trans D1 (ext_drew _)
          have D3 := ext_trans D2 (ext_drew _)
          have D4 := ext_trans D3 (ext_drew _)
          have hgA1 := Gr.cell D1 hxA
          have hgB1 := Gr.cell D1 hxB
          have hgA2 := Gr.cell D2 hxA
          have hgB2 := Gr.cell D2 hxB
          have hgA3 := Gr.cell D3 hxA
          have hgB4 := Gr.cell D4 hxB
          by_cases hqA : cA = 1
          · obtain ⟨rfl, tA⟩ := hA1 hqA
            subst hqA
            clear hAn hA1
            by_cases hqB : cB = 1
            · obtain ⟨rfl, tB⟩ := hB1 hqB
              subst hqB
              clear hBn hB1
              go_wp2_with fail
              refine wp_region_E (Array.replicate 9 true) 9 0 mixed (by rfl) ?_
              refine wpE_seg' [0, 1, 2, 3, 4, 5] 3 rfl (by kernel_rfl) ?_
              iterate 6 (refine seg_cons rfl ?_; go_big_quiet_step (rfl))
              refine seg_nil ?_
              refine wpE_one 6 (by kernel_rfl) rfl ?_
              go_wp2_with fail
              refine (HU.out _).mono ?_
              rintro e wz ⟨rfl, rfl⟩
              go_wp2_with fail
              refine QE_intro (Below.refl _ _) ?_
              refine wpE_seg' [7, 8] 0 rfl (by kernel_rfl) ?_
              iterate 2 (refine seg_cons rfl ?_; go_big_quiet_step (rfl))
              refine seg_nil ?_
              refine wpE_tail [] (by kernel_rfl) ?_
              refine tail_nil ?_
              go_wp2_with fail
              refine wp_region_E (Array.replicate 9 true) 9 0 mixed (by rfl) ?_
              refine wpE_seg' [0, 1, 2, 3, 4, 5] 3 rfl (by kernel_rfl) ?_
              iterate 6 (refine seg_cons rfl ?_; go_big_quiet_step (rfl))
              refine seg_nil ?_
              refine wpE_one 6 (by kernel_rfl) rfl ?_
              go_wp2_with fail
              refine (HU.out _).mono ?_
              rintro e wz ⟨rfl, rfl⟩
              go_wp2_with fail
              refine QE_intro (Below.refl _ _) ?_
              refine wpE_seg' [7, 8] 0 rfl (by kernel_rfl) ?_
              iterate 2 (refine seg_cons rfl ?_; go_big_quiet_step (rfl))
              refine seg_nil ?_
              refine wpE_tail [] (by kernel_rfl) ?_
              refine tail_nil ?_
              go_wp2_with fail
              refine wp_region_E (Array.replicate 7 true) 7 0 mixed (by rfl) ?_
              refine wpE_seg' [0, 1, 2, 3, 4, 5, 6] 0 rfl (by kernel_rfl) ?_
              iterate 7 (refine seg_cons rfl ?_; go_big_quiet_step (rfl))
              refine seg_nil ?_
              refine wpE_tail [] (by kernel_rfl) ?_
              refine tail_nil ?_
              go_wp2_with fail
              refine wp_region_E (Array.replicate 7 true) 7 0 mixed (by rfl) ?_
              refine wpE_seg' [0, 1, 2, 3, 4, 5, 6] 0 rfl (by kernel_rfl) ?_
              iterate 7 (refine seg_cons rfl ?_; go_big_quiet_step (rfl))
              refine seg_nil ?_
              refine wpE_tail [] (by kernel_rfl) ?_
              refine tail_nil ?_
              have hEq := ext_trans hE D4
              have CS' := CS _ (hbw.trans (hEq.mono hbw.size)) 3
              go_wp2_with fail
              refine CS'.out.mono ?_
              rintro e w8 ⟨rfl, h8⟩
              have hE8 := ext_trans hEq h8
              have hO8 := own_ext (own_ext hO D4) h8
              clear CS'
              cases hp : ks.contains 3
              · go_wp2
                go_roundw
                case rel => exact ⟨a'', b'', o', tA, tB, hO8, by rw [← hmg, ← HM.out, opt_no hp], by simp at hla ⊢ <;> omega, by simp at hlb ⊢ <;> omega, by simp at hlo ⊢ <;> omega, hE8⟩
                case measure => simp [lenV] <;> omega
              · go_wp2_with (at_builtin; refine pushT rfl _ _ rfl W0.heap.size _ o'.length o' rfl hO8 x rfl (by simp at hlo; omega) W0 hE8 (Nat.le_refl _) ?_; intro v9 w9 ho9 hE9 hg9)
                go_roundw
                case rel => exact ⟨a'', b'', o' ++ [x], tA, tB, by simpa using ho9, by rw [← hmg, ← HM.out, opt_yes hp], by simp at hla ⊢ <;> omega, by simp at hlb ⊢ <;> omega, by simp at hlo ⊢ <;> omega, hE9⟩
                case measure => simp [lenV] <;> omega
            · have tB := hBn hqB
              clear hBn hB1
              go_wp2_with fail
              refine wp_region_E (Array.replicate 9 true) 9 0 mixed (by rfl) ?_
              refine wpE_seg' [0, 1, 2, 3, 4, 5] 3 rfl (by kernel_rfl) ?_
              iterate 6 (refine seg_cons rfl ?_; go_big_quiet_step (rfl))
              refine seg_nil ?_
              refine wpE_one 6 (by kernel_rfl) rfl ?_
              go_wp2_with fail
              refine (HU.out _).mono ?_
              rintro e wz ⟨rfl, rfl⟩
              go_wp2_with fail
              refine QE_intro (Below.refl _ _) ?_
              refine wpE_seg' [7, 8] 0 rfl (by kernel_rfl) ?_
              iterate 2 (refine seg_cons rfl ?_; go_big_quiet_step (rfl))
              refine seg_nil ?_
              refine wpE_tail [] (by kernel_rfl) ?_
              refine tail_nil ?_
              go_wp2_with fail
              refine wp_region_E (Array.replicate 9 true) 9 0 mixed (by rfl) ?_
              refine wpE_seg' [0, 1, 2, 3, 4, 5] 3 rfl (by kernel_rfl) ?_
              iterate 6 (refine seg_cons rfl ?_; go_big_quiet_step (rfl))
              refine seg_nil ?_
              refine wpE_one 6 (by kernel_rfl) rfl ?_
              go_wp2_with fail
              refine (HU.out _).mono ?_
              rintro e wz ⟨rfl, rfl⟩
              go_wp2_with fail
              refine QE_intro (Below.refl _ _) ?_
              refine wpE_seg' [7, 8] 0 rfl (by kernel_rfl) ?_
              iterate 2 (refine seg_cons rfl ?_; go_big_quiet_step (rfl))
              refine seg_nil ?_
              refine wpE_tail [] (by kernel_rfl) ?_
              refine tail_nil ?_
              go_wp2_with fail
              refine wp_region_E (Array.replicate 7 true) 7 0 mixed (by rfl) ?_
              refine wpE_seg' [0, 1, 2, 3, 4, 5, 6] 0 rfl (by kernel_rfl) ?_
              iterate 7 (refine seg_cons rfl ?_; go_big_quiet_step (rfl))
              refine seg_nil ?_
              refine wpE_tail [] (by kernel_rfl) ?_
              refine tail_nil ?_
              go_wp2_with fail
              refine wp_region_E (Array.replicate 7 true) 7 0 mixed (by rfl) ?_
              refine wpE_seg' [0, 1, 2, 3, 4, 5, 6] 0 rfl (by kernel_rfl) ?_
              iterate 7 (refine seg_cons rfl ?_; go_big_quiet_step (rfl))
              refine seg_nil ?_
              refine wpE_tail [] (by kernel_rfl) ?_
              refine tail_nil ?_
              have hEq := ext_trans hE D4
              have CS' := CS _ (hbw.trans (hEq.mono hbw.size)) 3
              go_wp2_with fail
              refine CS'.out.mono ?_
              rintro e w8 ⟨rfl, h8⟩
              have hE8 := ext_trans hEq h8
              have hO8 := own_ext (own_ext hO D4) h8
              clear CS'
              cases hp : ks.contains 3
              · go_wp2
                go_roundw
                case rel => exact ⟨a'', b'', o', tA, tB, hO8, by rw [← hmg, ← HM.out, opt_no hp], by simp at hla ⊢ <;> omega, by simp at hlb ⊢ <;> omega, by simp at hlo ⊢ <;> omega, hE8⟩
                case measure => simp [lenV] <;> omega
              · go_wp2_with (at_builtin; refine pushT rfl _ _ rfl W0.heap.size _ o'.length o' rfl hO8 x rfl (by simp at hlo; omega) W0 hE8 (Nat.le_refl _) ?_; intro v9 w9 ho9 hE9 hg9)
                go_roundw
                case rel => exact ⟨a'', b'', o' ++ [x], tA, tB, by simpa using ho9, by rw [← hmg, ← HM.out, opt_yes hp], by simp at hla ⊢ <;> omega, by simp at hlb ⊢ <;> omega, by simp at hlo ⊢ <;> omega, hE9⟩
                case measure => simp [lenV] <;> omega
          · have tA := hAn hqA
            clear hAn hA1
            by_cases hqB : cB = 1
            · obtain ⟨rfl, tB⟩ := hB1 hqB
              subst hqB
              clear hBn hB1
              go_wp2_with fail
              refine wp_region_E (Array.replicate 9 true) 9 0 mixed (by rfl) ?_
              refine wpE_seg' [0, 1, 2, 3, 4, 5] 3 rfl (by kernel_rfl) ?_
              iterate 6 (refine seg_cons rfl ?_; go_big_quiet_step (rfl))
              refine seg_nil ?_
              refine wpE_one 6 (by kernel_rfl) rfl ?_
              go_wp2_with fail
              refine (HU.out _).mono ?_
              rintro e wz ⟨rfl, rfl⟩
              go_wp2_with fail
              refine QE_intro (Below.refl _ _) ?_
              refine wpE_seg' [7, 8] 0 rfl (by kernel_rfl) ?_
              iterate 2 (refine seg_cons rfl ?_; go_big_quiet_step (rfl))
              refine seg_nil ?_
              refine wpE_tail [] (by kernel_rfl) ?_
              refine tail_nil ?_
              go_wp2_with fail
              refine wp_region_E (Array.replicate 9 true) 9 0 mixed (by rfl) ?_
              refine wpE_seg' [0, 1, 2, 3, 4, 5] 3 rfl (by kernel_rfl) ?_
              iterate 6 (refine seg_cons rfl ?_; go_big_quiet_step (rfl))
              refine seg_nil ?_
              refine wpE_one 6 (by kernel_rfl) rfl ?_
              go_wp2_with fail
              refine (HU.out _).mono ?_
              rintro e wz ⟨rfl, rfl⟩
              go_wp2_with fail
              refine QE_intro (Below.refl _ _) ?_
              refine wpE_seg' [7, 8] 0 rfl (by kernel_rfl) ?_
              iterate 2 (refine seg_cons rfl ?_; go_big_quiet_step (rfl))
              refine seg_nil ?_
              refine wpE_tail [] (by kernel_rfl) ?_
              refine tail_nil ?_
              go_wp2_with fail
              refine wp_region_E (Array.replicate 7 true) 7 0 mixed (by rfl) ?_
              refine wpE_seg' [0, 1, 2, 3, 4, 5, 6] 0 rfl (by kernel_rfl) ?_
              iterate 7 (refine seg_cons rfl ?_; go_big_quiet_step (rfl))
              refine seg_nil ?_
              refine wpE_tail [] (by kernel_rfl) ?_
              refine tail_nil ?_
              go_wp2_with fail
              refine wp_region_E (Array.replicate 7 true) 7 0 mixed (by rfl) ?_
              refine wpE_seg' [0, 1, 2, 3, 4, 5, 6] 0 rfl (by kernel_rfl) ?_
              iterate 7 (refine seg_cons rfl ?_; go_big_quiet_step (rfl))
              refine seg_nil ?_
              refine wpE_tail [] (by kernel_rfl) ?_
              refine tail_nil ?_
              have hEq := ext_trans hE D4
              have CS' := CS _ (hbw.trans (hEq.mono hbw.size)) 3
              go_wp2_with fail
              refine CS'.out.mono ?_
              rintro e w8 ⟨rfl, h8⟩
              have hE8 := ext_trans hEq h8
              have hO8 := own_ext (own_ext hO D4) h8
              clear CS'
              cases hp : ks.contains 3
              · go_wp2
                go_roundw
                case rel => exact ⟨a'', b'', o', tA, tB, hO8, by rw [← hmg, ← HM.out, opt_no hp], by simp at hla ⊢ <;> omega, by simp at hlb ⊢ <;> omega, by simp at hlo ⊢ <;> omega, hE8⟩
                case measure => simp [lenV] <;> omega
              · go_wp2_with (at_builtin; refine pushT rfl _ _ rfl W0.heap.size _ o'.length o' rfl hO8 x rfl (by simp at hlo; omega) W0 hE8 (Nat.le_refl _) ?_; intro v9 w9 ho9 hE9 hg9)
                go_roundw
                case rel => exact ⟨a'', b'', o' ++ [x], tA, tB, by simpa using ho9, by rw [← hmg, ← HM.out, opt_yes hp], by simp at hla ⊢ <;> omega, by simp at hlb ⊢ <;> omega, by simp at hlo ⊢ <;> omega, hE9⟩
                case measure => simp [lenV] <;> omega
            · have tB := hBn hqB
              clear hBn hB1
              go_wp2_with fail
              refine wp_region_E (Array.replicate 9 true) 9 0 mixed (by rfl) ?_
              refine wpE_seg' [0, 1, 2, 3, 4, 5] 3 rfl (by kernel_rfl) ?_
              iterate 6 (refine seg_cons rfl ?_; go_big_quiet_step (rfl))
              refine seg_nil ?_
              refine wpE_one 6 (by kernel_rfl) rfl ?_
              go_wp2_with fail
              refine (HU.out _).mono ?_
              rintro e wz ⟨rfl, rfl⟩
              go_wp2_with fail
              refine QE_intro (Below.refl _ _) ?_
              refine wpE_seg' [7, 8] 0 rfl (by kernel_rfl) ?_
              iterate 2 (refine seg_cons rfl ?_; go_big_quiet_step (rfl))
              refine seg_nil ?_
              refine wpE_tail [] (by kernel_rfl) ?_
              refine tail_nil ?_
              go_wp2_with fail
              refine wp_region_E (Array.replicate 9 true) 9 0 mixed (by rfl) ?_
              refine wpE_seg' [0, 1, 2, 3, 4, 5] 3 rfl (by kernel_rfl) ?_
              iterate 6 (refine seg_cons rfl ?_; go_big_quiet_step (rfl))
              refine seg_nil ?_
              refine wpE_one 6 (by kernel_rfl) rfl ?_
              go_wp2_with fail
              refine (HU.out _).mono ?_
              rintro e wz ⟨rfl, rfl⟩
              go_wp2_with fail
              refine QE_intro (Below.refl _ _) ?_
              refine wpE_seg' [7, 8] 0 rfl (by kernel_rfl) ?_
              iterate 2 (refine seg_cons rfl ?_; go_big_quiet_step (rfl))
              refine seg_nil ?_
              refine wpE_tail [] (by kernel_rfl) ?_
              refine tail_nil ?_
              go_wp2_with fail
              refine wp_region_E (Array.replicate 7 true) 7 0 mixed (by rfl) ?_
              refine wpE_seg' [0, 1, 2, 3, 4, 5, 6] 0 rfl (by kernel_rfl) ?_
              iterate 7 (refine seg_cons rfl ?_; go_big_quiet_step (rfl))
              refine seg_nil ?_
              refine wpE_tail [] (by kernel_rfl) ?_
              refine tail_nil ?_
              go_wp2_with fail
              refine wp_region_E (Array.replicate 7 true) 7 0 mixed (by rfl) ?_
              refine wpE_seg' [0, 1, 2, 3, 4, 5, 6] 0 rfl (by kernel_rfl) ?_
              iterate 7 (refine seg_cons rfl ?_; go_big_quiet_step (rfl))
              refine seg_nil ?_
              refine wpE_tail [] (by kernel_rfl) ?_
              refine tail_nil ?_
              have hEq := ext_trans hE D4
              have CS' := CS _ (hbw.trans (hEq.mono hbw.size)) 3
              go_wp2_with fail
              refine CS'.out.mono ?_
              rintro e w8 ⟨rfl, h8⟩
              have hE8 := ext_trans hEq h8
              have hO8 := own_ext (own_ext hO D4) h8
              clear CS'
              cases hp : ks.contains 3
              · go_wp2
                go_roundw
                case rel => exact ⟨a'', b'', o', tA, tB, hO8, by rw [← hmg, ← HM.out, opt_no hp], by simp at hla ⊢ <;> omega, by simp at hlb ⊢ <;> omega, by simp at hlo ⊢ <;> omega, hE8⟩
                case measure => simp [lenV] <;> omega
              · go_wp2_with (at_builtin; refine pushT rfl _ _ rfl W0.heap.size _ o'.length o' rfl hO8 x rfl (by simp at hlo; omega) W0 hE8 (Nat.le_refl _) ?_; intro v9 w9 ho9 hE9 hg9)
                go_roundw
                case rel => exact ⟨a'', b'', o' ++ [x], tA, tB, by simpa using ho9, by rw [← hmg, ← HM.out, opt_yes hp], by simp at hla ⊢ <;> omega, by simp at hlb ⊢ <;> omega, by simp at hlo ⊢ <;> omega, hE9⟩
                case measure => simp [lenV] <;> omega
        · have hC := hgt.2 hxy
          have HM := Lib.hid ((mg_gt ks a'' b'' hxy).symm)
          clear hlt hgt heq hxy
          have D1 := ext_drew wr
          have D2 := ext_trans D1 (ext_drew _)
          have D3 := ext_trans D2 (ext_drew _)
          have D4 := ext_trans D3 (ext_drew _)
          have hgA1 := Gr.cell D1 hxA
          have hgB1 := Gr.cell D1 hxB
          have hgA2 := Gr.cell D2 hxA
          have hgB2 := Gr.cell D2 hxB
          have hgB3 := Gr.cell D3 hxB
          by_cases hqB : cB = 1
          · obtain ⟨rfl, tB⟩ := hB1 hqB
            subst hqB
            clear hBn hB1
            go_wp2_with fail
            refine wp_region_E (Array.replicate 9 true) 9 0 mixed (by rfl) ?_
            refine wpE_seg' [0, 1, 2, 3, 4, 5] 3 rfl (by kernel_rfl) ?_
            iterate 6 (refine seg_cons rfl ?_; go_big_quiet_step (rfl))
            refine seg_nil ?_
            refine wpE_one 6 (by kernel_rfl) rfl ?_
            go_wp2_with fail
            refine (HU.out _).mono ?_
            rintro e wz ⟨rfl, rfl⟩
            go_wp2_with fail
            refine QE_intro (Below.refl _ _) ?_
            refine wpE_seg' [7, 8] 0 rfl (by kernel_rfl) ?_
            iterate 2 (refine seg_cons rfl ?_; go_big_quiet_step (rfl))
            refine seg_nil ?_
            refine wpE_tail [] (by kernel_rfl) ?_
            refine tail_nil ?_
            go_wp2_with fail
            refine wp_region_E (Array.replicate 9 true) 9 0 mixed (by rfl) ?_
            refine wpE_seg' [0, 1, 2, 3, 4, 5] 3 rfl (by kernel_rfl) ?_
            iterate 6 (refine seg_cons rfl ?_; go_big_quiet_step (rfl))
            refine seg_nil ?_
            refine wpE_one 6 (by kernel_rfl) rfl ?_
            go_wp2_with fail
            refine (HU.out _).mono ?_
            rintro e wz ⟨rfl, rfl⟩
            go_wp2_with fail
            refine QE_intro (Below.refl _ _) ?_
            refine wpE_seg' [7, 8] 0 rfl (by kernel_rfl) ?_
            iterate 2 (refine seg_cons rfl ?_; go_big_quiet_step (rfl))
            refine seg_nil ?_
            refine wpE_tail [] (by kernel_rfl) ?_
            refine tail_nil ?_
            go_wp2_with fail
            refine wp_region_E (Array.replicate 7 true) 7 0 mixed (by rfl) ?_
            refine wpE_seg' [0, 1, 2, 3, 4, 5, 6] 0 rfl (by kernel_rfl) ?_
            iterate 7 (refine seg_cons rfl ?_; go_big_quiet_step (rfl))
            refine seg_nil ?_
            refine wpE_tail [] (by kernel_rfl) ?_
            refine tail_nil ?_
            have hEq := ext_trans hE D3
            have CS' := CS _ (hbw.trans (hEq.mono hbw.size)) 2
            go_wp2_with fail
            refine CS'.out.mono ?_
            rintro e w8 ⟨rfl, h8⟩
            have hE8 := ext_trans hEq h8
            have hO8 := own_ext (own_ext hO D3) h8
            clear CS'
            cases hp : ks.contains 2
            · go_wp2
              go_roundw
              case rel => exact ⟨(x :: a''), b'', o', hA, tB, hO8, by rw [← hmg, ← HM.out, opt_no hp], by simp at hla ⊢ <;> omega, by simp at hlb ⊢ <;> omega, by simp at hlo ⊢ <;> omega, hE8⟩
              case measure => simp [lenV] <;> omega
            · go_wp2_with (at_builtin; refine pushT rfl _ _ rfl W0.heap.size _ o'.length o' rfl hO8 y rfl (by simp at hlo; omega) W0 hE8 (Nat.le_refl _) ?_; intro v9 w9 ho9 hE9 hg9)
              go_roundw
              case rel => exact ⟨(x :: a''), b'', o' ++ [y], hA, tB, by simpa using ho9, by rw [← hmg, ← HM.out, opt_yes hp], by simp at hla ⊢ <;> omega, by simp at hlb ⊢ <;> omega, by simp at hlo ⊢ <;> omega, hE9⟩
              case measure => simp [lenV] <;> omega
          · have tB := hBn hqB
            clear hBn hB1
            go_wp2_with fail
            refine wp_region_E (Array.replicate 9 true) 9 0 mixed (by rfl) ?_
            refine wpE_seg' [0, 1, 2, 3, 4, 5] 3 rfl (by kernel_rfl) ?_
            iterate 6 (refine seg_cons rfl ?_; go_big_quiet_step (rfl))
            refine seg_nil ?_
            refine wpE_one 6 (by kernel_rfl) rfl ?_
            go_wp2_with fail
            refine (HU.out _).mono ?_
            rintro e wz ⟨rfl, rfl⟩
            go_wp2_with fail
            refine QE_intro (Below.refl _ _) ?_
            refine wpE_seg' [7, 8] 0 rfl (by kernel_rfl) ?_
            iterate 2 (refine seg_cons rfl ?_; go_big_quiet_step (rfl))
            refine seg_nil ?_
            refine wpE_tail [] (by kernel_rfl) ?_
            refine tail_nil ?_
            go_wp2_with fail
            refine wp_region_E (Array.replicate 9 true) 9 0 mixed (by rfl) ?_
            refine wpE_seg' [0, 1, 2, 3, 4, 5] 3 rfl (by kernel_rfl) ?_
            iterate 6 (refine seg_cons rfl ?_; go_big_quiet_step (rfl))
            refine seg_nil ?_
            refine wpE_one 6 (by kernel_rfl) rfl ?_
            go_wp2_with fail
            refine (HU.out _).mono ?_
            rintro e wz ⟨rfl, rfl⟩
            go_wp2_with fail
            refine QE_intro (Below.refl _ _) ?_
            refine wpE_seg' [7, 8] 0 rfl (by kernel_rfl) ?_
            iterate 2 (refine seg_cons rfl ?_; go_big_quiet_step (rfl))
            refine seg_nil ?_
            refine wpE_tail [] (by kernel_rfl) ?_
            refine tail_nil ?_
            go_wp2_with fail
            refine wp_region_E (Array.replicate 7 true) 7 0 mixed (by rfl) ?_
            refine wpE_seg' [0, 1, 2, 3, 4, 5, 6] 0 rfl (by kernel_rfl) ?_
            iterate 7 (refine seg_cons rfl ?_; go_big_quiet_step (rfl))
            refine seg_nil ?_
            refine wpE_tail [] (by kernel_rfl) ?_
            refine tail_nil ?_
            have hEq := ext_trans hE D3
            have CS' := CS _ (hbw.trans (hEq.mono hbw.size)) 2
            go_wp2_with fail
            refine CS'.out.mono ?_
            rintro e w8 ⟨rfl, h8⟩
            have hE8 := ext_trans hEq h8
            have hO8 := own_ext (own_ext hO D3) h8
            clear CS'
            cases hp : ks.contains 2
            · go_wp2
              go_roundw
              case rel => exact ⟨(x :: a''), b'', o', hA, tB, hO8, by rw [← hmg, ← HM.out, opt_no hp], by simp at hla ⊢ <;> omega, by simp at hlb ⊢ <;> omega, by simp at hlo ⊢ <;> omega, hE8⟩
              case measure => simp [lenV] <;> omega
            · go_wp2_with (at_builtin; refine pushT rfl _ _ rfl W0.heap.size _ o'.length o' rfl hO8 y rfl (by simp at hlo; omega) W0 hE8 (Nat.le_refl _) ?_; intro v9 w9 ho9 hE9 hg9)
              go_roundw
              case rel => exact ⟨(x :: a''), b'', o' ++ [y], hA, tB, by simpa using ho9, by rw [← hmg, ← HM.out, opt_yes hp], by simp at hla ⊢ <;> omega, by simp at hlb ⊢ <;> omega, by simp at hlo ⊢ <;> omega, hE9⟩
              case measure => simp [lenV] <;> omega
end Go.Proofs.Ytcabmibcgedhhaa

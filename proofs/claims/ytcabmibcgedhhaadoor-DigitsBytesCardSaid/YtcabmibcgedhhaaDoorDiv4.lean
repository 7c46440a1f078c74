/-
  The walk of prod.long: the long division.
-/
import Derived.Test.YtcabmibcgedhhaaDoorDiv3
import Derived.Test.YtcabmibcgedhhaaDoorLong2
import Derived.Test.YtcabmibcgedhhaaDoorProd3
namespace Go.Proofs.YtcabmibcgedhhaaDoor
open Go.RowKit Go.Cd

theorem sl_take {w : World} {base g n cap : Nat} {l : List Nat} (h : w.ownsRow base eU32 1 (.slice (some ⟨g, 0, none⟩) n cap) n (u32s l)) {j : Nat} (hj : j ≤ n) : Sl eU32 w (.slice (some ⟨g, 0, none⟩) j cap) (u32s (l.take j)) := by
  obtain ⟨h1, h2⟩ := h
  simp only [length_u32s, Nat.mul_one] at h1
  have hl : (u32s (l.take j)).length = j := by simp; omega
  rcases h2 with ⟨h2, _⟩ | ⟨g', cap', cur, h2, hg, hh, hc, hm, hs, ht⟩
  · cases h2
  · cases h2
    refine ⟨_, cap, by rw [hl], by rw [hl]; omega, .inr ⟨g, 0, cur, (0, 0), rfl, hh, fun i hi => ?_⟩⟩
    have hi2 : i < l.length := by simp at hi; omega
    rw [u32s_getElem _ _ (by simp; omega), List.getElem_take, Nat.zero_add, ← Array.getElem?_toList]
    have h3 : (cur.toList.take (n * 1))[i]? = (u32s l)[i]? := by rw [ht]
    rw [List.getElem?_take, if_pos (by omega)] at h3
    rw [h3, List.getElem?_eq_getElem (by simpa using hi2), u32s_getElem _ _ hi2]

set_option maxRecDepth 100000 in
set_option maxHeartbeats 1600000 in
theorem long_ok {x y : Nat} (hx : (digs B x).length < 274877906944) (h2 : 2 ≤ (digs B y).length) (hyx : y ≤ x) : LongOk x y := by
  intro W r1 r2 h1 h2'
  have hlen : (digs B y).length ≤ (digs B x).length := len_mono two_le_B hyx
  obtain ⟨m, hn⟩ : ∃ m, (digs B y).length = m + 2 := ⟨(digs B y).length - 2, by omega⟩
  have ht : (digs B y)[m + 1]?.getD 0 ≠ 0 := by
    have h := digs_last two_le_B y ((digs B y)[m + 1]) (by rw [List.getLast?_eq_getElem?, show (digs B y).length - 1 = m + 1 from by omega, List.getElem?_eq_getElem (by omega)])
    rw [List.getElem?_eq_getElem (by omega)]; exact h
  obtain ⟨k, hk, hL32, hk31, hV1, hV2⟩ := norm hn (digs_lt two_le_B y) ht
  have hty : (digs B y)[m + 1]?.getD 0 = (digs B y)[m + 1] := by rw [List.getElem?_eq_getElem (by omega)]; rfl
  have htB : (digs B y)[m + 1]?.getD 0 < 4294967296 := by rw [hty]; exact digs_lt two_le_B y _ (List.getElem_mem _)
  have hbl : Lib.bitLen ((digs B y)[m + 1]?.getD 0) = (digs 2 ((digs B y)[m + 1]?.getD 0)).length := bitLen_eq (by omega)
  rw [← hbl] at hk hL32
  obtain ⟨x1, cp1, rfl, hcp1, hx1⟩ := Sl.outU h1
  obtain ⟨x2, cp2, rfl, hcp2, hx2⟩ := Sl.outU h2'
  have HX2 := Lib.hid hx2
  have LX := Lib.hid (fun (W' : World) (E : Below W.heap.size W W') => left_ok (k := k) (h1.mono E) (digs_lt two_le_B x) (by omega) hk31)
  have LY := Lib.hid (fun (W' : World) (E : Below W.heap.size W W') => left_ok (k := k) (h2'.mono E) (digs_lt two_le_B y) (by omega) hk31)
  have hvx := val_digs two_le_B x
  have hvy := val_digs two_le_B y
  rw [hvx] at LX
  rw [hvy] at LY hV1 hV2
  rw [hty] at hk hL32 htB
  obtain ⟨b2, off2, rfl, hb2, hc2⟩ := hx2 (m + 1) (by omega)
  have hxN : val B (digs B x) < B ^ (digs B x).length := val_lt _ (digs_lt two_le_B x)
  rw [hvx] at hxN
  generalize (digs B y)[m + 1] = t at *
  have LZ := fun Wd => Tryd.bits_LeadingZeros32 (t : Int) Wd (by omega) (by omega)
  simp only [Int.toNat_natCast] at LZ
  generalize Lib.bitLen t = L at *
  have ek : (32 : Int) - (L : Int) = (k : Int) := by omega
  rw [ek] at LZ
  have HLZ := Lib.hid LZ
  clear LZ ek hk h1 h2' hx1 hx2 hbl ht hty
  rw [hn] at hlen LY hcp2
  generalize (digs B x).length = N at *
  have HV1 := Lib.hid hV1
  have HV2 := Lib.hid hV2
  have HXN := Lib.hid hxN
  clear hV1 hV2 hxN hvx hvy HX2 h2
  rw [hn]
  clear hn
  have wm1 : wrap64 ((m : Int) + 2 - 1) = (m : Int) + 1 := by unfold wrap64; omega
  have wm2 : wrap64 ((m : Int) + 2 - 2) = (m : Int) := by unfold wrap64; omega
  go_enter Tryd.func46, Tryd.ntmps46
  go_wp2_with fail
  refine (HLZ.out _).mono ?_
  rintro e W ⟨rfl, rfl⟩
  go_wp2_with fail
  refine (LY.out _ (Below.refl _ _)).mono ?_
  rintro e W1 ⟨lv, gv, capv, rfl, hlv, hlvB, hvv, hov, hE1⟩
  have hcv : m + 2 ≤ capv := by
    rcases hov.2 with ⟨h, _⟩ | ⟨_, _, _, h, _, _, h3, _⟩
    · cases h
    · cases h; omega
  go_wp2_with fail
  refine (LX.out _ hE1).mono ?_
  rintro e W2 ⟨lu, gu, capu, rfl, hlu, hluB, hvu, hou, hE2⟩
  go_wp2_with (at_make; refine wpList_make_sl _ rfl _ _ 22 rfl W2.heap.size eU32 _ 4 elemU32 rfl .i64 .i64 _ _ (N - (m + 2) + 1) rfl rfl (by omega) (by omega) (by omega) (by unfold maxLen; omega) (by simp) ?_; intro W3 hoq hgrow)
  obtain ⟨v, hv, hvl, hvB, hvV, v1, v0, vlo, hv1, hv0, hVe, hvlo, hv1B, hv0B, hhalf⟩ := vfacts hlv hlvB hvv HV1.out HV2.out
  have SV := sl_take hov (j := m + 2) (by omega)
  rw [← hv] at SV
  have hgv : gv < W1.heap.size := (hov.lt gv rfl).2
  have hcv1 : W1.cell? ⟨gv, m + 1, none⟩ = some (.int .u32 (v1 : Nat)) := by
    obtain ⟨a, c, e, _, hcc⟩ := Sl.outU SV
    rw [hvl] at e
    obtain ⟨b, off, e2, _, h3⟩ := hcc (m + 1) (by omega)
    cases e; cases e2
    rw [List.getElem?_eq_getElem (by omega)] at hv1
    rw [Option.some.inj hv1] at h3
    rw [Nat.zero_add] at h3
    exact h3
  have hcv0 : W1.cell? ⟨gv, m, none⟩ = some (.int .u32 (v0 : Nat)) := by
    obtain ⟨a, c, e, _, hcc⟩ := Sl.outU SV
    rw [hvl] at e
    obtain ⟨b, off, e2, _, h3⟩ := hcc m (by omega)
    cases e; cases e2
    rw [List.getElem?_eq_getElem (by omega)] at hv0
    rw [Option.some.inj hv0] at h3
    rw [Nat.zero_add] at h3
    exact h3
  have HE1 := Lib.hid hE1
  have SVH := Lib.hid SV
  have HVV := Lib.hid hvV
  have HVE := Lib.hid hVe
  have HVB := Lib.hid hvB
  have hB3 := Lib.hid (hE2.grown hgrow hE2.size (fun k e => by cases e))
  have hgu := (hou.lt gu rfl).2
  have hgu1 := (hou.lt gu rfl).1
  have hou3 := hou.kept hgrow (.inr (by simp [Value.ownBlock]))
  have hsz3 : W2.heap.size ≤ W3.heap.size := hgrow.size
  have hcu : N + 1 ≤ capu := by
    rcases hou.2 with ⟨h, _⟩ | ⟨_, _, _, h, _, _, h3, _⟩
    · cases h
    · cases h; omega
  clear hv hvV hVe hvB SV hov hlvB hv1 hv0 hE1 hlv hvv hou
  obtain ⟨nq, hnq⟩ : ∃ nq, N - (m + 2) + 1 = nq := ⟨_, rfl⟩
  rw [hnq] at hoq ⊢
  have hnN : N + 1 = nq + (m + 2) := by omega
  clear hnq
  have hu0 : x * 2 ^ k < y * 2 ^ k * B ^ nq := by
    have h1 : x * 2 ^ k < B ^ N * 2 ^ k := Nat.mul_lt_mul_of_pos_right HXN.out (Nat.two_pow_pos k)
    have h2 : B ^ N * 2 ^ k ≤ B ^ N * 2147483648 := Nat.mul_le_mul_left _ (Nat.pow_le_pow_right (n := 2) (by omega) hk31 : 2 ^ k ≤ 2 ^ 31)
    have h3 := Nat.mul_le_mul_right (B ^ nq) HV2.out
    have h4 : 2147483648 * B ^ (m + 1) * B ^ nq = B ^ N * 2147483648 := by
      rw [Nat.mul_assoc, ← Nat.pow_add, show m + 1 + nq = N from by omega, Nat.mul_comm]
    omega
  go_wp2_with fail
  go_loopw [11] (fun i wr => ∃ (j : Nat) (u q : List Nat), j ≤ nq ∧ i = .int .i64 ((j : Int) - 1) ∧ u.length = N + 1 ∧ q.length = nq ∧ (∀ d ∈ u, d < B) ∧ (∀ d ∈ q, d < B) ∧ val B u < y * 2 ^ k * B ^ j ∧ val B u + y * 2 ^ k * B ^ j * val B (q.drop j) = x * 2 ^ k ∧
      wr.ownsRow W1.heap.size eU32 1 (.slice (some ⟨gu, 0, none⟩) (N + 1) capu) (N + 1) (u32s u) ∧ wr.ownsRow W2.heap.size eU32 1 (.slice (some ⟨W2.heap.size, 0, none⟩) nq nq) nq (u32s q) ∧ Below W1.heap.size W1 wr)
    (fun i _ => (intOf i + 1).toNat)
  case atStart =>
    exact ⟨nq, lu, List.replicate nq 0, Nat.le_refl _, vint (by omega), hlu, by simp, hluB, fun d hd => by rw [(List.mem_replicate.1 hd).2]; decide, by rw [hvu]; exact hu0, by rw [List.drop_of_length_le (by simp)]; simp [val, hvu], hou3, by simpa [u32s] using hoq, hB3.out⟩
  case round =>
    clear hoq hou3 hlu hluB hvu hgrow hu0 hE2
    obtain ⟨j, u, q, hj, rfl, hul, hql, huB, hqB, hult, hsum, hou, hoq, hE⟩ := hrel
    have HUB := Lib.hid huB
    have HQB := Lib.hid hqB
    have HULT := Lib.hid hult
    have HSUM := Lib.hid hsum
    have HUL := Lib.hid hul
    have HQL := Lib.hid hql
    clear huB hqB hult hsum hul hql
    have HNN := Lib.hid hnN
    clear hnN
    by_cases hj0 : 0 < j
    · obtain ⟨i, rfl⟩ : ∃ i, j = i + 1 := ⟨j - 1, by omega⟩
      have hsi : ((i + 1 : Nat) : Int) - 1 = i := by omega
      rw [hsi]
      clear hsi
      have hul := HUL.out
      obtain ⟨pre, M, post, hu, hpre, hMl⟩ : ∃ pre M post : List Nat, u = pre ++ M ++ post ∧ pre.length = i ∧ M.length = m + 3 := by
        refine ⟨u.take i, (u.drop i).take (m + 3), (u.drop i).drop (m + 3), ?_, by have := HNN.out; simp; omega, by have := HNN.out; simp; omega⟩
        rw [List.append_assoc, List.take_append_drop, List.take_append_drop]
      subst hpre hu
      have hMB : ∀ d ∈ M, d < B := fun d hd => HUB.out d (by simp [hd])
      have hPB : ∀ d ∈ pre, d < B := fun d hd => HUB.out d (by simp [hd])
      have hval : val B (pre ++ M ++ post) = val B pre + B ^ pre.length * (val B M + B ^ (m + 3) * val B post) := by
        rw [List.append_assoc, val_append, val_append, hMl]
      have hult := HULT.out
      have hsum := HSUM.out
      rw [hval, Nat.pow_succ] at hult hsum
      have hVB : y * 2 ^ k * B ≤ B ^ (m + 3) := by
        have := Nat.mul_le_mul_right B (Nat.le_of_lt HV1.out)
        rw [← Nat.pow_succ] at this
        exact this
      obtain ⟨hpz, hMV⟩ := long_split hult hVB
      rw [hpz, Nat.mul_zero, Nat.add_zero] at hsum
      have hplt := val_lt pre hPB
      have HPZ := Lib.hid hpz
      have HSUM2 := Lib.hid hsum
      have HPLT := Lib.hid hplt
      obtain ⟨hU, hulo⟩ := top3 hMl hMB
      have c0 := (part_at hou (j := m) (by omega)).1
      have c1 := (part_at hou (j := m + 1) (by omega)).1
      have c2 := (part_at hou (j := m + 2) (by omega)).1
      have hu0 : M[m] < B := hMB _ (List.getElem_mem _)
      have hu1 : M[m + 1] < B := hMB _ (List.getElem_mem _)
      have hMBH := Lib.hid hMB
      have HMl := Lib.hid hMl
      clear hval hult hsum hVB hpz hplt hPB hMB
      have hcu1 := (hE.cell (p := ⟨gv, m + 1, none⟩) hgv).trans hcv1
      have hcu0 := (hE.cell (p := ⟨gv, m, none⟩) hgv).trans hcv0
      have hU2 := hU
      rw [HVE.out] at hMV
      have hu2v : M[m + 2] ≤ v1 := top_le hv0B hvlo (by rw [← hU]; exact hMV)
      have hv1p : 0 < v1 := by unfold B at hhalf; omega
      rw [← HVE.out] at hMV
      have GU := Lib.hid (fun (Wd : World) (n cap : Nat) (hn : 3 ≤ n) (E : Below wr.heap.size wr Wd) => guess_ok (w := Wd) (cap := cap) hn (cellE E c0) (cellE E c1) (cellE E c2) hv1B hv1p hu2v hhalf hv0B hu1 hu0 HVE.out hU hulo hvlo hMV)
      generalize M[m] = u0 at *
      generalize M[m + 1] = u1 at *
      generalize M[m + 2] = u2 at *
      have HMV := Lib.hid hMV
      clear hU hU2 hulo c0 c1 c2 hMl hMV
      have T0 := ext_refl wr
      go_wp2_with fail
      refine wp_region_E (Array.replicate 18 true) 18 0 mixed (by rfl) ?_
      have kE0 := ext_trans T0 (ext_drew _)
      have hg0 := Gr.cell kE0 hcu1
      have hg1 := Gr.cell kE0 hcu0
      have hle : pre.length + (m + 2) + 1 ≤ N + 1 := by have := HNN.out; omega
      have ew : pre.length + (m + 2) - 2 = pre.length + m := by omega
      refine wpE_seg' [0, 1, 2, 3, 4, 5, 6, 7, 8, 9, 10, 11, 12, 13, 14, 15] 2 rfl (by kernel_rfl) ?_
      iterate 16 (refine seg_cons rfl ?_; go_big_quiet_step (rfl))
      refine seg_nil ?_
      clear hg0 hg1
      refine wpE_one 16 (by kernel_rfl) rfl ?_
      go_wp2_with fail
      refine (GU.out _ _ _ (by omega) kE0).mono ?_
      rintro e k1w ⟨d, rfl, hd1, hdB, hd2, k1b⟩
      have HD1 := Lib.hid hd1
      have HD2 := Lib.hid hd2
      clear hd1 hd2
      go_wp2_with fail
      refine QE_intro k1b ?_
      have k1E := ext_trans kE0 k1b
      refine wpE_seg' [17] 0 rfl (by kernel_rfl) ?_
      refine seg_cons rfl ?_; go_big_quiet_step (rfl)
      refine seg_nil ?_
      refine wpE_tail [] (by kernel_rfl) ?_
      refine tail_nil ?_
      have hou1 := own_ext hou k1E
      have hoq1 := own_ext hoq k1E
      have hE1 := hE.trans (k1E.mono hE.size)
      have TK := Lib.hid (fun (cap' : Nat) => take_ok (cap' := cap') SVH.out hE1 hou1 (by rw [HMl.out, hvl]) HVB.out hMBH.out hdB (by rw [HMl.out]; omega))
      rw [HMl.out, HVV.out] at TK
      have ew2 : pre.length + (m + 2) + 1 - pre.length = m + 3 := by omega
      have HOQ1 := Lib.hid hoq1
      have HE1 := Lib.hid hE1
      clear hou hoq hE T0 kE0 k1b k1E GU ew hcu1 hcu0 hoq1 hE1 hou1
      go_wp2_with fail
      refine (TK.out _).mono ?_
      rintro e W4 ⟨b, M1, rfl, hb, hM1l, hM1B, hM1v, ho4, hg4⟩
      have hoq4 := HOQ1.out.kept hg4 (.inr (by simp only [Value.ownBlock, ne_eq, Option.some.injEq]; omega))
      have hE4 := HE1.out.grown hg4 HE1.out.size (fun k e => by cases e; exact hgu1)
      have hVp : 0 < y * 2 ^ k := by
        have := HV2.out
        have := Nat.pow_pos (a := B) (n := m + 1) (by decide)
        omega
      have FIN : ∀ (d' : Nat) (M2 : List Nat) (W5 : World), M2.length = m + 3 → (∀ z ∈ M2, z < B) → d' < B → val B M = d' * (y * 2 ^ k) + val B M2 → val B M2 < y * 2 ^ k →
          W5.ownsRow W1.heap.size eU32 1 (.slice (some ⟨gu, 0, none⟩) (N + 1) capu) (N + 1) (u32s (pre ++ M2 ++ post)) → W5.ownsRow W2.heap.size eU32 1 (.slice (some ⟨W2.heap.size, 0, none⟩) nq nq) nq (u32s q) → Below W1.heap.size W1 W5 →
          ∃ (j : Nat) (u q : List Nat), j ≤ nq ∧ Value.int .i64 ((pre.length : Int) - 1) = .int .i64 ((j : Int) - 1) ∧ u.length = N + 1 ∧ q.length = nq ∧ (∀ d ∈ u, d < B) ∧ (∀ d ∈ q, d < B) ∧ val B u < y * 2 ^ k * B ^ j ∧ val B u + y * 2 ^ k * B ^ j * val B (q.drop j) = x * 2 ^ k ∧
            (W5.setCell ⟨W2.heap.size, pre.length, none⟩ (.int .u32 ((d' : Int) % 4294967296))).ownsRow W1.heap.size eU32 1 (.slice (some ⟨gu, 0, none⟩) (N + 1) capu) (N + 1) (u32s u) ∧ (W5.setCell ⟨W2.heap.size, pre.length, none⟩ (.int .u32 ((d' : Int) % 4294967296))).ownsRow W2.heap.size eU32 1 (.slice (some ⟨W2.heap.size, 0, none⟩) nq nq) nq (u32s q) ∧ Below W1.heap.size W1 (W5.setCell ⟨W2.heap.size, pre.length, none⟩ (.int .u32 ((d' : Int) % 4294967296))) := by
        intro d' M2 W5 g1 g2 g3 g4 g5 g6 g7 g8
        obtain ⟨hnx1, hnx2⟩ := long_next HSUM2.out g4 HPLT.out g5
        have e1 : (d' : Int) % 4294967296 = (d' : Int) := by unfold B at g3; omega
        rw [e1]
        obtain ⟨s1, s2⟩ := g7.stored pre.length (.int .u32 (d' : Int))
        have hql := HQL.out
        have hul2 := HUL.out
        simp only [List.length_append] at hul2
        have hvn : val B (pre ++ M2 ++ post) = val B pre + B ^ pre.length * val B M2 := by
          rw [List.append_assoc, val_append, val_append, HPZ.out, Nat.mul_zero, Nat.add_zero]
        refine ⟨pre.length, pre ++ M2 ++ post, q.set pre.length d', by omega, rfl, ?_, by simp; exact hql, ?_, lt_of_mem_set HQB.out g3, by rw [hvn]; exact hnx1, ?_, g6.kept s2 (.inr (by simp only [Value.ownBlock, ne_eq, Option.some.injEq]; omega)), by rw [← u32s_set]; exact s1, below_put g8 (by have := hgu1; omega)⟩
        · have := HMl.out
          simp only [List.length_append]; omega
        · intro z hz
          simp only [List.mem_append] at hz
          rcases hz with (hz | hz) | hz
          · exact HUB.out z (by simp [hz])
          · exact g2 z hz
          · exact HUB.out z (by simp [hz])
        · rw [hvn, drop_val B _ _ (by simp; omega), List.getElem_set_self, List.drop_set_of_lt (by omega)]
          exact hnx2
      have HFIN := Lib.hid FIN
      clear FIN
      by_cases hb0 : b = 0
      · subst hb0
        have hcor := corr0 hVp HD1.out (by rw [hM1v]; simp)
        have HR := Lib.hid (HFIN.out d M1 W4 (by rw [hM1l]) hM1B hdB hcor.1 hcor.2 ho4 hoq4 hE4)
        obtain ⟨hcell, hfr⟩ := own_at hoq4 (j := pre.length) (by have := HQL.out; simp; omega)
        clear hcor hM1v hM1B ho4 hoq4 hE4 hg4
        go_wp2
        go_roundw
        case rel => exact HR.out
        case measure => simp [intOf]
      · obtain rfl : b = 1 := by omega
        have ho5 := ho4
        rw [← hM1l] at hM1v
        have BK := Lib.hid (fun (cap' : Nat) => back_ok (cap' := cap') SVH.out hE4 ho5 (by rw [hM1l, hvl]) HVB.out hM1B (by omega))
        rw [hM1l, HVV.out] at BK
        rw [hM1l] at hM1v
        have HM1v := Lib.hid hM1v
        have HM1B := Lib.hid hM1B
        have HOQ4 := Lib.hid hoq4
        have HE4 := Lib.hid hE4
        have HM1l := Lib.hid hM1l
        clear hM1v hM1B ho4 ho5 hoq4 hE4 hM1l hg4
        go_wp2_with fail
        refine (BK.out _).mono ?_
        rintro e W5 ⟨b2', M2, r, rfl, hM2l, hM2B, hM2v, ho5, hg5⟩
        have hm1 := val_lt M1 HM1B.out
        have hm2 := val_lt M2 hM2B
        rw [HM1l.out] at hm1
        rw [hM2l] at hm2
        have hcor := corr1 (by have := HV1.out; have : B ^ (m + 2) ≤ B ^ (m + 3) := Nat.pow_le_pow_right (by decide) (by omega); omega) HD2.out (by have := HM1v.out; rw [Nat.one_mul] at this; exact this) hm1 hM2v hm2
        obtain ⟨hd0, hc1, hc2'⟩ := hcor
        have hdw : IntKind.u64.wrap ((d : Int) - 1) = ((d - 1 : Nat) : Int) := by rw [IntKind.wrap_u64]; unfold B at hdB; omega
        have hoq5 := HOQ4.out.kept hg5 (.inr (by simp only [Value.ownBlock, ne_eq, Option.some.injEq]; omega))
        have hE5 := HE4.out.grown hg5 HE4.out.size (fun k e => by cases e; exact hgu1)
        have HR := Lib.hid (HFIN.out (d - 1) M2 W5 hM2l hM2B (by omega) hc1 hc2' ho5 hoq5 hE5)
        obtain ⟨hcell, hfr⟩ := own_at hoq5 (j := pre.length) (by have := HQL.out; simp; omega)
        clear hc1 hc2' hm1 hm2 hM2v hM2B ho5 hoq5 hE5 hg5
        go_wp2
        go_roundw
        case rel => exact HR.out
        case measure => simp [intOf]
    · obtain rfl : j = 0 := by omega
      have hult := HULT.out
      have hsum := HSUM.out
      rw [Nat.pow_zero, Nat.mul_one] at hult hsum
      rw [List.drop_zero] at hsum
      obtain ⟨hq1, hq2⟩ := div_scale (Nat.two_pow_pos k) (by rw [← hsum]) hult
      have hszr := hE.size
      have hoq2 := own_ext hoq (below_new (.cells #[.int .u32 0] eU32))
      have hou2 := hou.alloc (.cells #[.int .u32 0] eU32)
      have HOQ := Lib.hid hoq2
      have HEE := Lib.hid hE
      clear hult hsum hoq2 hE
      go_wp2_with (at_builtin; refine wpList_append_sl rfl _ _ 22 rfl W1.heap.size eU32 _ 4 elemU32 (.slice (some ⟨gu, 0, none⟩) (N + 1) capu) (N + 1) (u32s u) rfl hou2 _ [.int .u32 0] rfl (sla_new _ #[.int .u32 0] _) (by simp [Value.oneCell']) (by simp [maxLen]; omega) (by simp; omega) (by simp; omega) ?_; intro v6 W6 ho6 hg6)
      have hu6 : u32s u ++ [.int .u32 0] = u32s (u ++ [0]) := by simp [u32s]
      rw [hu6] at ho6
      have hoq6 := HOQ.out.kept hg6 (.inr (fun e => by simp [Value.ownBlock] at e; omega))
      have hE6 := (HEE.out.trans ((below_new (.cells #[.int .u32 0] eU32)).mono HEE.out.size)).grown hg6 (by have := HEE.out.size; simp; omega) (fun k e => by cases e; exact hgu1)
      have RG := Lib.hid (right_ok (n := m + 2) (k := k) (Sl.of_own ho6) (fun d hd => by rcases List.mem_append.1 hd with h | h; exact HUB.out d h; rw [List.mem_singleton.1 h]; decide) (by simp; have := HUL.out; have := HNN.out; omega) hk31 (by simp; have := HUL.out; have := HNN.out; omega))
      have hv0' : val B (u ++ [0]) = val B u := by rw [val_append]; simp [val]
      rw [hv0', hq2, show ((m + 2 : Nat) : Int) = (m : Int) + 2 from by omega] at RG
      have HQ1 := Lib.hid hq1
      have HOQ6 := Lib.hid hoq6
      have HE6 := Lib.hid hE6
      clear hq1 hq2 hu6 hv0' hoq6 hE6 ho6 hg6 hou2 hou hoq
      go_wp2_with fail
      refine RG.out.mono ?_
      rintro e W7 ⟨r, rfl, ho7, hb7⟩
      have hxy : x % y < B ^ (m + 2) := by
        have hy0 : 0 < y := by
          rcases Nat.eq_zero_or_pos y with h | h
          · have h1 := HV2.out; rw [h, Nat.zero_mul] at h1
            have := Nat.pow_pos (a := B) (n := m + 1) (by decide)
            omega
          · exact h
        have h1 := Nat.mod_lt x hy0
        have h2 := Nat.le_mul_of_pos_right y (Nat.two_pow_pos k)
        have := HV1.out
        omega
      have hr7 : val B (digL B (x % y) (m + 2)) = x % y := by rw [val_digL, Nat.mod_eq_of_lt hxy]
      have HR7 := Lib.hid hr7
      clear hr7 hxy
      go_wp2
      go_ret2
      exact ⟨_, _, q, digL B (x % y) (m + 2), rfl, (Sl.of_own HOQ6.out).mono hb7, Sl.of_own ho7, HQB.out, digL_lt two_le_B _ _, by have := HQL.out; have := HNN.out; omega, by simp; omega, HQ1.out, HR7.out, (HE1.out.trans (HE6.out.mono HE1.out.size)).trans (hb7.mono (by have := HE6.out.size; have := HE1.out.size; omega))⟩
end Go.Proofs.YtcabmibcgedhhaaDoor

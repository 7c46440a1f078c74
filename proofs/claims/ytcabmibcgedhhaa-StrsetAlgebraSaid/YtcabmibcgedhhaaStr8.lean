/-
  The walk of the document's list of two lists: ref.Sorted. (Written by genStr8.py.)
-/
import Derived.Test.YtcabmibcgedhhaaStr7
namespace Go.Proofs.Ytcabmibcgedhhaa
open Go.RowKit Go.Cd

theorem str_less {s t : Txt} (h : s < t) : Op.bytesLess (sv s).toList (sv t).toList = true := by rw [bytesLess_eq, sv_toList, sv_toList]; exact decide_eq_true h
theorem str_nless {s t : Txt} (h : ¬ s < t) : Op.bytesLess (sv s).toList (sv t).toList = false := by rw [bytesLess_eq, sv_toList, sv_toList]; exact decide_eq_false h
theorem sla_none (w : World) : SlA w (.slice none 0 0) [] := ⟨none, 0, rfl, Nat.le_refl _, .inl ⟨rfl, fun _ => rfl⟩⟩
theorem sla_zero (w : World) (g : Addr) : SlA w (.slice (some g) 0 0) [] := ⟨some g, 0, rfl, Nat.le_refl _, .inl ⟨rfl, fun e => by cases e⟩⟩
theorem cont_succ {ks : List Nat} {i K : Nat} (hi : i < ks.length) : (ks.take (i + 1)).contains K = ((ks.take i).contains K || (K == ks[i])) := by
  rw [List.take_succ_eq_append_getElem hi, List.contains_eq_any_beq, List.any_append, ← List.contains_eq_any_beq]
  simp
def nis (l : List Nat) : List Value := l.map fun d : Nat => Value.int .i64 d
theorem SlA.outN {w : World} {v : Value} {l : List Nat} (h : SlA w v (nis l)) : ∃ a cap, v = .slice a l.length cap ∧ l.length ≤ cap ∧
    ∀ i (hi : i < l.length), ∃ b off, a = some ⟨b, off, none⟩ ∧ b < w.heap.size ∧ w.cell? ⟨b, off + i, none⟩ = some (.int .i64 (l[i] : Nat)) := by
  obtain ⟨a, cap, rfl, hc, hx⟩ := Go.Cd.SlA.out h
  have el : (nis l).length = l.length := by simp [nis]
  refine ⟨a, cap, by rw [el], by omega, fun i hi => ?_⟩
  obtain ⟨b, off, h1, h2, h3⟩ := hx i (by omega)
  exact ⟨b, off, h1, h2, by rw [h3]; simp [nis]⟩

set_option maxRecDepth 100000 in
set_option maxHeartbeats 6400000 in
theorem sorted_ok {w : World} {va vb vk : Value} {a b : List Txt} {ks : List Nat} (ha : SlA w va (txs a)) (hb : SlA w vb (txs b)) (hk : SlA w vk (nis ks)) (ma : a.length < 1000000) (mb : b.length < 1000000) (mk : ks.length < 1000000) :
    Calls Try.prog 58 #[va, vb, vk] w fun e w' => ∃ r m, e = .returned r ∧ SlA w' r (txs m) ∧ MgS ks a b m ∧ m.length ≤ a.length + b.length ∧ Below w.heap.size w w' := by
  obtain ⟨aa, ca, rfl, _, _⟩ := SlA.outT ha
  obtain ⟨ab, cb, rfl, _, _⟩ := SlA.outT hb
  obtain ⟨ak, ck, rfl, hck, hxk⟩ := SlA.outN hk
  have HA := Lib.hid ha
  have HB := Lib.hid hb
  obtain ⟨nk, hnk⟩ : ∃ n, n = ks.length := ⟨_, rfl⟩
  have HK := Lib.hid hxk
  rw [← hnk] at mk ⊢
  have HNK := Lib.hid hnk
  clear ha hb hk hxk hnk hck
  go_enter Try.func58, Try.ntmps58
  obtain ⟨N, hN⟩ : ∃ N, N = (a ++ b).length := ⟨_, rfl⟩
  have HN := Lib.hid hN
  have hNN : N < 2000000 := by rw [hN, List.length_append]; omega
  have HLC := Lib.hid (hN.trans List.length_append)
  clear hN
  have OE : ((w.alloc (.cells #[] eStr)).alloc (.cells #[] eStr)).ownsRow (w.heap.size + 1) eStr 1 (.slice (some ⟨w.heap.size + 1, 0, none⟩) 0 0) 0 [] := by have := own_empty (w.alloc (.cells #[] eStr)) eStr; simpa [World.size_alloc] using this
  have hE0 := below2 (w := w) (.cells #[] eStr) (.cells #[] eStr)
  go_wp2_with (at_builtin; first
    | (refine wpList_append_sl rfl _ _ 71 rfl (w.heap.size + 1) eStr _ 16 elemStr (.slice (some ⟨w.heap.size + 1, 0, none⟩) 0 0) 0 [] rfl OE _ (txs a) rfl (HA.out.mono hE0) (oneCell_txs _) (by rw [length_txs]; unfold maxLen; omega) (by rw [length_txs]; omega) (by simp) ?_; intro v1 w1 hown1 hgrow1; have hE1 := hE0.grown hgrow1 (by simp; omega) (fun k hk => by have := Option.some.inj hk; simp at this; omega))
    | (refine wpList_append_sl rfl _ _ 71 rfl (w.heap.size + 1) eStr _ 16 elemStr v1 _ _ rfl hown1 _ (txs b) rfl (HB.out.mono hE1) (oneCell_txs _) (by rw [length_txs, length_txs]; unfold maxLen; omega) (by rw [length_txs, length_txs]; omega) (by have := hgrow1.size; simp at this; omega) ?_; intro v2 w2 hown2 hgrow2; have hE2 := hE1.grown hgrow2 hE1.size (fun k hk => by have := (hown1.lt k hk).1; omega); have hC := (Sl.of_own hown2).any; rw [List.nil_append, ← txs_append] at hC; obtain ⟨c2, cap2, rfl, _, hxc⟩ := SlA.outTn hC HN.out))
  have HXC := Lib.hid hxc
  clear OE hE0 hown1 hgrow1 hE1 hown2 hgrow2 hC hxc
  go_loopw [7, 25] (fun out iv wr => ∃ (j : Nat) (m : List Txt), j ≤ N ∧ iv = .int .i64 j ∧ SoS ks a b (a ++ b) j m ∧ SlA wr out (txs m) ∧ Below w2.heap.size w2 wr) (fun _ iv _ => N - (intOf iv).toNat)
  case atStart => exact ⟨0, [], Nat.zero_le _, rfl, so_start _ _ _ _, sla_zero _ _, Below.refl _ _⟩
  case round =>
    obtain ⟨j, m, hj, rfl, hSo, hout, hE⟩ := hrel
    have hEw := hE2.trans (hE.mono hE2.size)
    by_cases hjN : j < N
    · have hjc : j < (a ++ b).length := by have := HN.out; omega
      obtain ⟨bc, oc, rfl, hbc, hc⟩ := HXC.out j hjc
      have hc := (hE.cell (p := ⟨bc, oc + j, none⟩) hbc).trans hc
      have hml := hSo.2.1
      have hsm := List.getElem_mem hjc
      have SK := Lib.hid (fun h => so_skip hSo hjc h)
      have SP := Lib.hid (fun h h' => so_put hSo hjc h h')
      generalize (a ++ b)[j] = s at *
      obtain ⟨o, co, rfl, _, hxo⟩ := SlA.outT hout
      have HXO := Lib.hid hxo
      have RA := Lib.hid (refHas_ok (HA.out.mono hEw) (by omega) s)
      have RB := fun (W : World) (E : Below w.heap.size w W) => Lib.hid (refHas_ok (HB.out.mono E) (by omega) s)
      have RO := fun (W : World) (E : Below wr.heap.size wr W) => Lib.hid (refHas_ok (hout.mono E) (by omega) s)
      have hab : (decide (s ∈ a) = true ∧ decide (s ∈ b) = false ∧ kd a b s = 1) ∨ (decide (s ∈ a) = false ∧ decide (s ∈ b) = true ∧ kd a b s = 2) ∨ (decide (s ∈ a) = true ∧ decide (s ∈ b) = true ∧ kd a b s = 3) := by
        unfold kd
        rcases List.mem_append.1 hsm with h | h
        · by_cases h' : s ∈ b <;> simp [h, h']
        · by_cases h' : s ∈ a <;> simp [h, h']
      have hout := Lib.hid hout
      clear hSo hxo hsm
      rcases hab with ⟨hda, hdb, hkd⟩ | ⟨hda, hdb, hkd⟩ | ⟨hda, hdb, hkd⟩
      · go_wp2_with fail
        refine RA.out.mono ?_
        rintro e w3 ⟨rfl, h3⟩
        rw [hda]
        have RB' := RB _ (hEw.trans (h3.mono hEw.size))
        clear RA RB
        go_wp2_with fail
        refine RB'.out.mono ?_
        rintro e w4 ⟨rfl, h4⟩
        rw [hdb]
        have hE4 := ext_trans h3 h4
        have hE4w := hEw.trans (hE4.mono hEw.size)
        clear RB' h3 h4
        go_wp2_with fail
        go_loopw [11, 41] (fun x iv wq => ∃ (j2 : Nat), j2 ≤ nk ∧ iv = .int .i64 j2 ∧ x = .bool ((ks.take j2).contains 1) ∧ wq = w4) (fun _ iv _ => nk - (intOf iv).toNat)
        case atStart => exact ⟨0, Nat.zero_le _, rfl, rfl, rfl⟩
        case round =>
          obtain ⟨j2, hj2, rfl, rfl, rfl⟩ := hrel
          by_cases hjk : j2 < nk
          · have hjk' : j2 < ks.length := by have := HNK.out; omega
            obtain ⟨bk, ok, rfl, hbk, hck⟩ := HK.out j2 hjk'
            have hck := (hE4w.cell (p := ⟨bk, ok + j2, none⟩) hbk).trans hck
            have CS := Lib.hid (cont_succ (K := 1) hjk')
            generalize ks[j2] = q at *
            cases hcw : (ks.take j2).contains 1
            · by_cases hq : q = 1
              · have hqi : ((q : Int) == 1) = true := by subst hq; rfl
                have CS' := Lib.hid (CS.out.trans (by rw [hcw, hq]; rfl) : (ks.take (j2 + 1)).contains 1 = true)
                clear hcw hq
                go_wp2
                go_roundw
                case rel => exact ⟨j2 + 1, by omega, rfl, by rw [CS'.out], trivial⟩
                case measure => simp [intOf]; omega
              · have hqi : ((q : Int) == 1) = false := by simp; omega
                have CS' := Lib.hid (CS.out.trans (by rw [hcw, Bool.false_or]; simp; omega) : (ks.take (j2 + 1)).contains 1 = false)
                clear hcw hq
                go_wp2
                go_roundw
                case rel => exact ⟨j2 + 1, by omega, rfl, by rw [CS'.out], trivial⟩
                case measure => simp [intOf]; omega
            · have CS' := Lib.hid (CS.out.trans (by rw [hcw]; rfl) : (ks.take (j2 + 1)).contains 1 = true)
              clear hcw
              go_wp2
              go_roundw
              case rel => exact ⟨j2 + 1, by omega, rfl, by rw [CS'.out], trivial⟩
              case measure => simp [intOf]; omega
          · obtain rfl : j2 = nk := by omega
            rw [List.take_of_length_le (by have := HNK.out; omega)]
            cases hW : ks.contains 1
            · have hnot : kd a b s ∉ ks := by rw [hkd]; intro h; rw [List.contains_iff_mem.2 h] at hW; cases hW
              have SK' := Lib.hid (SK.out (.inl hnot))
              clear hW hnot
              go_wp2
              go_roundw
              case rel => exact ⟨j + 1, m, by omega, rfl, SK'.out, hout.out.mono hE4, ext_trans hE hE4⟩
              case measure => simp [intOf]; omega
            · have hin : kd a b s ∈ ks := by rw [hkd]; exact List.contains_iff_mem.1 hW
              have HIN := Lib.hid hin
              have RO' := RO _ hE4
              clear hW hin RO
              go_wp2_with fail
              refine RO'.out.mono ?_
              rintro e w5 ⟨rfl, h5⟩
              have hE5 := ext_trans hE4 h5
              clear RO' h5 hE4w
              by_cases hsm : s ∈ m
              · rw [decide_eq_true hsm]
                have SK' := Lib.hid (SK.out (.inr hsm))
                clear hsm
                go_wp2
                go_roundw
                case rel => exact ⟨j + 1, m, by omega, rfl, SK'.out, hout.out.mono hE5, ext_trans hE hE5⟩
                case measure => simp [intOf]; omega
              · rw [decide_eq_false hsm]
                have SP' := Lib.hid (SP.out HIN.out hsm)
                have OE := own_empty w5 eStr
                have hEb := below_new (w := w5) (.cells #[] eStr)
                clear hsm
                go_wp2_with fail
                go_loopw [14, 15, 62] (fun nv dv iv wq => ∃ (j3 : Nat) (d : Bool) (nx : List Txt), j3 ≤ m.length ∧ iv = .int .i64 j3 ∧ dv = .bool d ∧ InS s m j3 d nx ∧ wq.ownsRow w5.heap.size eStr 1 nv nx.length (txs nx) ∧ Below w5.heap.size w5 wq) (fun _ _ iv _ => m.length - (intOf iv).toNat)
                case atStart => exact ⟨0, false, [], Nat.zero_le _, rfl, rfl, in_start _ _, OE, hEb⟩
                case round =>
                  clear OE hEb
                  obtain ⟨j3, d, nx, hj3, rfl, rfl, hIn, ho, hq⟩ := hrel
                  have hE6 := ext_trans hE5 hq
                  have hnx := in_len hIn
                  by_cases hjm : j3 < m.length
                  · obtain ⟨bo, oo, rfl, hbo, hco⟩ := HXO.out j3 hjm
                    have hco := (hE6.cell (p := ⟨bo, oo + j3, none⟩) hbo).trans hco
                    cases d
                    · by_cases hst : s < m[j3]
                      · have IS := Lib.hid (in_put hIn hjm hst)
                        have hlt := str_less hst
                        generalize m[j3] = t at *
                        clear hst hIn
                        go_wp2_with (at_builtin; first
                          | (refine pushT rfl _ _ rfl w5.heap.size _ nx.length nx rfl ho s rfl (by omega) w5 hq (Nat.le_refl _) ?_; intro v6 w6 ho6 hE7 _)
                          | (refine pushT rfl _ _ rfl w5.heap.size v6 _ (nx ++ [s]) rfl ho6 t rfl (by omega) w5 hE7 (Nat.le_refl _) ?_; intro v7 w7 ho7 hE8 _))
                        go_roundw
                        case rel => exact ⟨j3 + 1, true, _, by omega, rfl, rfl, IS.out, by simpa using ho7, hE8⟩
                        case measure => simp [intOf]; omega
                      · have IS := Lib.hid (in_skip hIn hjm hst)
                        have hlt := str_nless hst
                        generalize m[j3] = t at *
                        clear hst hIn
                        go_wp2_with (at_builtin; refine pushT rfl _ _ rfl w5.heap.size _ nx.length nx rfl ho t rfl (by omega) w5 hq (Nat.le_refl _) ?_; intro v6 w6 ho6 hE7 _)
                        go_roundw
                        case rel => exact ⟨j3 + 1, false, _, by omega, rfl, rfl, IS.out, by simpa using ho6, hE7⟩
                        case measure => simp [intOf]; omega
                    · have IS := Lib.hid (in_done hIn hjm)
                      generalize m[j3] = t at *
                      clear hIn
                      go_wp2_with (at_builtin; refine pushT rfl _ _ rfl w5.heap.size _ nx.length nx rfl ho t rfl (by omega) w5 hq (Nat.le_refl _) ?_; intro v6 w6 ho6 hE7 _)
                      go_roundw
                      case rel => exact ⟨j3 + 1, true, _, by omega, rfl, rfl, IS.out, by simpa using ho6, hE7⟩
                      case measure => simp [intOf]; omega
                  · obtain rfl : j3 = m.length := by omega
                    cases d
                    · have IS := Lib.hid (in_end' hIn)
                      clear hIn
                      go_wp2_with (at_builtin; refine pushT rfl _ _ rfl w5.heap.size _ nx.length nx rfl ho s rfl (by omega) w5 hq (Nat.le_refl _) ?_; intro v6 w6 ho6 hE7 _)
                      go_roundw
                      case rel => exact ⟨j + 1, _, by omega, rfl, SP'.out, by rw [← IS.out]; exact (Sl.of_own ho6).any, ext_trans hE (ext_trans hE5 hE7)⟩
                      case measure => simp [intOf]; omega
                    · have IS := Lib.hid (in_end hIn)
                      clear hIn
                      go_wp2
                      go_roundw
                      case rel => exact ⟨j + 1, _, by omega, rfl, SP'.out, by rw [← IS.out]; exact (Sl.of_own ho).any, ext_trans hE hE6⟩
                      case measure => simp [intOf]; omega
      · go_wp2_with fail
        refine RA.out.mono ?_
        rintro e w3 ⟨rfl, h3⟩
        rw [hda]
        have RB' := RB _ (hEw.trans (h3.mono hEw.size))
        clear RA RB
        go_wp2_with fail
        refine RB'.out.mono ?_
        rintro e w4 ⟨rfl, h4⟩
        rw [hdb]
        have hE4 := ext_trans h3 h4
        have hE4w := hEw.trans (hE4.mono hEw.size)
        clear RB' h3 h4
        go_wp2_with fail
        go_loopw [11, 41] (fun x iv wq => ∃ (j2 : Nat), j2 ≤ nk ∧ iv = .int .i64 j2 ∧ x = .bool ((ks.take j2).contains 2) ∧ wq = w4) (fun _ iv _ => nk - (intOf iv).toNat)
        case atStart => exact ⟨0, Nat.zero_le _, rfl, rfl, rfl⟩
        case round =>
          obtain ⟨j2, hj2, rfl, rfl, rfl⟩ := hrel
          by_cases hjk : j2 < nk
          · have hjk' : j2 < ks.length := by have := HNK.out; omega
            obtain ⟨bk, ok, rfl, hbk, hck⟩ := HK.out j2 hjk'
            have hck := (hE4w.cell (p := ⟨bk, ok + j2, none⟩) hbk).trans hck
            have CS := Lib.hid (cont_succ (K := 2) hjk')
            generalize ks[j2] = q at *
            cases hcw : (ks.take j2).contains 2
            · by_cases hq : q = 2
              · have hqi : ((q : Int) == 2) = true := by subst hq; rfl
                have CS' := Lib.hid (CS.out.trans (by rw [hcw, hq]; rfl) : (ks.take (j2 + 1)).contains 2 = true)
                clear hcw hq
                go_wp2
                go_roundw
                case rel => exact ⟨j2 + 1, by omega, rfl, by rw [CS'.out], trivial⟩
                case measure => simp [intOf]; omega
              · have hqi : ((q : Int) == 2) = false := by simp; omega
                have CS' := Lib.hid (CS.out.trans (by rw [hcw, Bool.false_or]; simp; omega) : (ks.take (j2 + 1)).contains 2 = false)
                clear hcw hq
                go_wp2
                go_roundw
                case rel => exact ⟨j2 + 1, by omega, rfl, by rw [CS'.out], trivial⟩
                case measure => simp [intOf]; omega
            · have CS' := Lib.hid (CS.out.trans (by rw [hcw]; rfl) : (ks.take (j2 + 1)).contains 2 = true)
              clear hcw
              go_wp2
              go_roundw
              case rel => exact ⟨j2 + 1, by omega, rfl, by rw [CS'.out], trivial⟩
              case measure => simp [intOf]; omega
          · obtain rfl : j2 = nk := by omega
            rw [List.take_of_length_le (by have := HNK.out; omega)]
            cases hW : ks.contains 2
            · have hnot : kd a b s ∉ ks := by rw [hkd]; intro h; rw [List.contains_iff_mem.2 h] at hW; cases hW
              have SK' := Lib.hid (SK.out (.inl hnot))
              clear hW hnot
              go_wp2
              go_roundw
              case rel => exact ⟨j + 1, m, by omega, rfl, SK'.out, hout.out.mono hE4, ext_trans hE hE4⟩
              case measure => simp [intOf]; omega
            · have hin : kd a b s ∈ ks := by rw [hkd]; exact List.contains_iff_mem.1 hW
              have HIN := Lib.hid hin
              have RO' := RO _ hE4
              clear hW hin RO
              go_wp2_with fail
              refine RO'.out.mono ?_
              rintro e w5 ⟨rfl, h5⟩
              have hE5 := ext_trans hE4 h5
              clear RO' h5 hE4w
              by_cases hsm : s ∈ m
              · rw [decide_eq_true hsm]
                have SK' := Lib.hid (SK.out (.inr hsm))
                clear hsm
                go_wp2
                go_roundw
                case rel => exact ⟨j + 1, m, by omega, rfl, SK'.out, hout.out.mono hE5, ext_trans hE hE5⟩
                case measure => simp [intOf]; omega
              · rw [decide_eq_false hsm]
                have SP' := Lib.hid (SP.out HIN.out hsm)
                have OE := own_empty w5 eStr
                have hEb := below_new (w := w5) (.cells #[] eStr)
                clear hsm
                go_wp2_with fail
                go_loopw [14, 15, 62] (fun nv dv iv wq => ∃ (j3 : Nat) (d : Bool) (nx : List Txt), j3 ≤ m.length ∧ iv = .int .i64 j3 ∧ dv = .bool d ∧ InS s m j3 d nx ∧ wq.ownsRow w5.heap.size eStr 1 nv nx.length (txs nx) ∧ Below w5.heap.size w5 wq) (fun _ _ iv _ => m.length - (intOf iv).toNat)
                case atStart => exact ⟨0, false, [], Nat.zero_le _, rfl, rfl, in_start _ _, OE, hEb⟩
                case round =>
                  clear OE hEb
                  obtain ⟨j3, d, nx, hj3, rfl, rfl, hIn, ho, hq⟩ := hrel
                  have hE6 := ext_trans hE5 hq
                  have hnx := in_len hIn
                  by_cases hjm : j3 < m.length
                  · obtain ⟨bo, oo, rfl, hbo, hco⟩ := HXO.out j3 hjm
                    have hco := (hE6.cell (p := ⟨bo, oo + j3, none⟩) hbo).trans hco
                    cases d
                    · by_cases hst : s < m[j3]
                      · have IS := Lib.hid (in_put hIn hjm hst)
                        have hlt := str_less hst
                        generalize m[j3] = t at *
                        clear hst hIn
                        go_wp2_with (at_builtin; first
                          | (refine pushT rfl _ _ rfl w5.heap.size _ nx.length nx rfl ho s rfl (by omega) w5 hq (Nat.le_refl _) ?_; intro v6 w6 ho6 hE7 _)
                          | (refine pushT rfl _ _ rfl w5.heap.size v6 _ (nx ++ [s]) rfl ho6 t rfl (by omega) w5 hE7 (Nat.le_refl _) ?_; intro v7 w7 ho7 hE8 _))
                        go_roundw
                        case rel => exact ⟨j3 + 1, true, _, by omega, rfl, rfl, IS.out, by simpa using ho7, hE8⟩
                        case measure => simp [intOf]; omega
                      · have IS := Lib.hid (in_skip hIn hjm hst)
                        have hlt := str_nless hst
                        generalize m[j3] = t at *
                        clear hst hIn
                        go_wp2_with (at_builtin; refine pushT rfl _ _ rfl w5.heap.size _ nx.length nx rfl ho t rfl (by omega) w5 hq (Nat.le_refl _) ?_; intro v6 w6 ho6 hE7 _)
                        go_roundw
                        case rel => exact ⟨j3 + 1, false, _, by omega, rfl, rfl, IS.out, by simpa using ho6, hE7⟩
                        case measure => simp [intOf]; omega
                    · have IS := Lib.hid (in_done hIn hjm)
                      generalize m[j3] = t at *
                      clear hIn
                      go_wp2_with (at_builtin; refine pushT rfl _ _ rfl w5.heap.size _ nx.length nx rfl ho t rfl (by omega) w5 hq (Nat.le_refl _) ?_; intro v6 w6 ho6 hE7 _)
                      go_roundw
                      case rel => exact ⟨j3 + 1, true, _, by omega, rfl, rfl, IS.out, by simpa using ho6, hE7⟩
                      case measure => simp [intOf]; omega
                  · obtain rfl : j3 = m.length := by omega
                    cases d
                    · have IS := Lib.hid (in_end' hIn)
                      clear hIn
                      go_wp2_with (at_builtin; refine pushT rfl _ _ rfl w5.heap.size _ nx.length nx rfl ho s rfl (by omega) w5 hq (Nat.le_refl _) ?_; intro v6 w6 ho6 hE7 _)
                      go_roundw
                      case rel => exact ⟨j + 1, _, by omega, rfl, SP'.out, by rw [← IS.out]; exact (Sl.of_own ho6).any, ext_trans hE (ext_trans hE5 hE7)⟩
                      case measure => simp [intOf]; omega
                    · have IS := Lib.hid (in_end hIn)
                      clear hIn
                      go_wp2
                      go_roundw
                      case rel => exact ⟨j + 1, _, by omega, rfl, SP'.out, by rw [← IS.out]; exact (Sl.of_own ho).any, ext_trans hE hE6⟩
                      case measure => simp [intOf]; omega
      · go_wp2_with fail
        refine RA.out.mono ?_
        rintro e w3 ⟨rfl, h3⟩
        rw [hda]
        have RB' := RB _ (hEw.trans (h3.mono hEw.size))
        clear RA RB
        go_wp2_with fail
        refine RB'.out.mono ?_
        rintro e w4 ⟨rfl, h4⟩
        rw [hdb]
        have hE4 := ext_trans h3 h4
        have hE4w := hEw.trans (hE4.mono hEw.size)
        clear RB' h3 h4
        go_wp2_with fail
        go_loopw [11, 41] (fun x iv wq => ∃ (j2 : Nat), j2 ≤ nk ∧ iv = .int .i64 j2 ∧ x = .bool ((ks.take j2).contains 3) ∧ wq = w4) (fun _ iv _ => nk - (intOf iv).toNat)
        case atStart => exact ⟨0, Nat.zero_le _, rfl, rfl, rfl⟩
        case round =>
          obtain ⟨j2, hj2, rfl, rfl, rfl⟩ := hrel
          by_cases hjk : j2 < nk
          · have hjk' : j2 < ks.length := by have := HNK.out; omega
            obtain ⟨bk, ok, rfl, hbk, hck⟩ := HK.out j2 hjk'
            have hck := (hE4w.cell (p := ⟨bk, ok + j2, none⟩) hbk).trans hck
            have CS := Lib.hid (cont_succ (K := 3) hjk')
            generalize ks[j2] = q at *
            cases hcw : (ks.take j2).contains 3
            · by_cases hq : q = 3
              · have hqi : ((q : Int) == 3) = true := by subst hq; rfl
                have CS' := Lib.hid (CS.out.trans (by rw [hcw, hq]; rfl) : (ks.take (j2 + 1)).contains 3 = true)
                clear hcw hq
                go_wp2
                go_roundw
                case rel => exact ⟨j2 + 1, by omega, rfl, by rw [CS'.out], trivial⟩
                case measure => simp [intOf]; omega
              · have hqi : ((q : Int) == 3) = false := by simp; omega
                have CS' := Lib.hid (CS.out.trans (by rw [hcw, Bool.false_or]; simp; omega) : (ks.take (j2 + 1)).contains 3 = false)
                clear hcw hq
                go_wp2
                go_roundw
                case rel => exact ⟨j2 + 1, by omega, rfl, by rw [CS'.out], trivial⟩
                case measure => simp [intOf]; omega
            · have CS' := Lib.hid (CS.out.trans (by rw [hcw]; rfl) : (ks.take (j2 + 1)).contains 3 = true)
              clear hcw
              go_wp2
              go_roundw
              case rel => exact ⟨j2 + 1, by omega, rfl, by rw [CS'.out], trivial⟩
              case measure => simp [intOf]; omega
          · obtain rfl : j2 = nk := by omega
            rw [List.take_of_length_le (by have := HNK.out; omega)]
            cases hW : ks.contains 3
            · have hnot : kd a b s ∉ ks := by rw [hkd]; intro h; rw [List.contains_iff_mem.2 h] at hW; cases hW
              have SK' := Lib.hid (SK.out (.inl hnot))
              clear hW hnot
              go_wp2
              go_roundw
              case rel => exact ⟨j + 1, m, by omega, rfl, SK'.out, hout.out.mono hE4, ext_trans hE hE4⟩
              case measure => simp [intOf]; omega
            · have hin : kd a b s ∈ ks := by rw [hkd]; exact List.contains_iff_mem.1 hW
              have HIN := Lib.hid hin
              have RO' := RO _ hE4
              clear hW hin RO
              go_wp2_with fail
              refine RO'.out.mono ?_
              rintro e w5 ⟨rfl, h5⟩
              have hE5 := ext_trans hE4 h5
              clear RO' h5 hE4w
              by_cases hsm : s ∈ m
              · rw [decide_eq_true hsm]
                have SK' := Lib.hid (SK.out (.inr hsm))
                clear hsm
                go_wp2
                go_roundw
                case rel => exact ⟨j + 1, m, by omega, rfl, SK'.out, hout.out.mono hE5, ext_trans hE hE5⟩
                case measure => simp [intOf]; omega
              · rw [decide_eq_false hsm]
                have SP' := Lib.hid (SP.out HIN.out hsm)
                have OE := own_empty w5 eStr
                have hEb := below_new (w := w5) (.cells #[] eStr)
                clear hsm
                go_wp2_with fail
                go_loopw [14, 15, 62] (fun nv dv iv wq => ∃ (j3 : Nat) (d : Bool) (nx : List Txt), j3 ≤ m.length ∧ iv = .int .i64 j3 ∧ dv = .bool d ∧ InS s m j3 d nx ∧ wq.ownsRow w5.heap.size eStr 1 nv nx.length (txs nx) ∧ Below w5.heap.size w5 wq) (fun _ _ iv _ => m.length - (intOf iv).toNat)
                case atStart => exact ⟨0, false, [], Nat.zero_le _, rfl, rfl, in_start _ _, OE, hEb⟩
                case round =>
                  clear OE hEb
                  obtain ⟨j3, d, nx, hj3, rfl, rfl, hIn, ho, hq⟩ := hrel
                  have hE6 := ext_trans hE5 hq
                  have hnx := in_len hIn
                  by_cases hjm : j3 < m.length
                  · obtain ⟨bo, oo, rfl, hbo, hco⟩ := HXO.out j3 hjm
                    have hco := (hE6.cell (p := ⟨bo, oo + j3, none⟩) hbo).trans hco
                    cases d
                    · by_cases hst : s < m[j3]
                      · have IS := Lib.hid (in_put hIn hjm hst)
                        have hlt := str_less hst
                        generalize m[j3] = t at *
                        clear hst hIn
                        go_wp2_with (at_builtin; first
                          | (refine pushT rfl _ _ rfl w5.heap.size _ nx.length nx rfl ho s rfl (by omega) w5 hq (Nat.le_refl _) ?_; intro v6 w6 ho6 hE7 _)
                          | (refine pushT rfl _ _ rfl w5.heap.size v6 _ (nx ++ [s]) rfl ho6 t rfl (by omega) w5 hE7 (Nat.le_refl _) ?_; intro v7 w7 ho7 hE8 _))
                        go_roundw
                        case rel => exact ⟨j3 + 1, true, _, by omega, rfl, rfl, IS.out, by simpa using ho7, hE8⟩
                        case measure => simp [intOf]; omega
                      · have IS := Lib.hid (in_skip hIn hjm hst)
                        have hlt := str_nless hst
                        generalize m[j3] = t at *
                        clear hst hIn
                        go_wp2_with (at_builtin; refine pushT rfl _ _ rfl w5.heap.size _ nx.length nx rfl ho t rfl (by omega) w5 hq (Nat.le_refl _) ?_; intro v6 w6 ho6 hE7 _)
                        go_roundw
                        case rel => exact ⟨j3 + 1, false, _, by omega, rfl, rfl, IS.out, by simpa using ho6, hE7⟩
                        case measure => simp [intOf]; omega
                    · have IS := Lib.hid (in_done hIn hjm)
                      generalize m[j3] = t at *
                      clear hIn
                      go_wp2_with (at_builtin; refine pushT rfl _ _ rfl w5.heap.size _ nx.length nx rfl ho t rfl (by omega) w5 hq (Nat.le_refl _) ?_; intro v6 w6 ho6 hE7 _)
                      go_roundw
                      case rel => exact ⟨j3 + 1, true, _, by omega, rfl, rfl, IS.out, by simpa using ho6, hE7⟩
                      case measure => simp [intOf]; omega
                  · obtain rfl : j3 = m.length := by omega
                    cases d
                    · have IS := Lib.hid (in_end' hIn)
                      clear hIn
                      go_wp2_with (at_builtin; refine pushT rfl _ _ rfl w5.heap.size _ nx.length nx rfl ho s rfl (by omega) w5 hq (Nat.le_refl _) ?_; intro v6 w6 ho6 hE7 _)
                      go_roundw
                      case rel => exact ⟨j + 1, _, by omega, rfl, SP'.out, by rw [← IS.out]; exact (Sl.of_own ho6).any, ext_trans hE (ext_trans hE5 hE7)⟩
                      case measure => simp [intOf]; omega
                    · have IS := Lib.hid (in_end hIn)
                      clear hIn
                      go_wp2
                      go_roundw
                      case rel => exact ⟨j + 1, _, by omega, rfl, SP'.out, by rw [← IS.out]; exact (Sl.of_own ho).any, ext_trans hE hE6⟩
                      case measure => simp [intOf]; omega
    · obtain rfl : j = N := by omega
      go_wp2
      go_ret
      exact ⟨_, m, rfl, hout, so_end (by rw [← HN.out]; exact hSo), by have := hSo.2.1; have := HLC.out; omega, hEw⟩
end Go.Proofs.Ytcabmibcgedhhaa

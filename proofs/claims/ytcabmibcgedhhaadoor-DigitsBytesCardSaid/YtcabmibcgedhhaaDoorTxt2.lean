/-
  The walk of digits.Text.
-/
import Derived.Test.YtcabmibcgedhhaaDoorTxt
namespace Go.Proofs.YtcabmibcgedhhaaDoor
open Go.RowKit Go.Cd

def lenV : Value → Nat
  | .slice _ n _ => n
  | _ => 0

theorem len10 {x n : Nat} (h : (digs B x).length ≤ n) : (digs 10 x).length ≤ 10 * n := by
  refine (len_digs_le (by omega)).2 ?_
  have h1 := (len_digs_le two_le_B).1 h
  rw [Nat.pow_mul]
  exact Nat.lt_of_lt_of_le h1 (Nat.pow_le_pow_left (by decide) n)

theorem chunk_dig {x t k : Nat} (hk : k < 9) : x / 10 ^ (9 * t) % 1000000000 / 10 ^ k % 10 = dig 10 x (9 * t + k) := by
  have e : 1000000000 = 10 ^ k * 10 ^ (9 - k) := by rw [← Nat.pow_add, show k + (9 - k) = 9 by omega]
  rw [e, Nat.mod_mul_right_div_self, Nat.mod_mod_of_dvd, Nat.div_div_eq_div_mul, ← Nat.pow_add]
  · rfl
  · rw [show 9 - k = (8 - k) + 1 by omega, Nat.pow_succ]
    exact Nat.dvd_mul_left _ _

theorem lets_snoc (x n : Nat) : bys (lets (digL 10 x (n + 1))) = bys (lets (digL 10 x n)) ++ [.int .u8 ((48 + dig 10 x n : Nat) : Int)] := by
  rw [digL_succ]; simp [bys, lets]

set_option maxRecDepth 100000 in
set_option maxHeartbeats 3200000 in
theorem text_ok {w : World} {v : Value} {x : Nat} (h : NatV w v x) (hx : (digs B x).length < 1000000) :
    Calls Tryd.prog 11 #[v] w fun e w' => e = .returned (.string (str (decT x))) ∧ Below w.heap.size w w' := by
  obtain ⟨a, n, cap, rfl, h⟩ := h.out
  have hb := below_new (w := w) (.cells #[.slice a n cap] tNat)
  have hbox : (w.alloc (.cells #[.slice a n cap] tNat)).heap[w.heap.size]? = some (.cells #[.slice a n cap] tNat) := heap_alloc_new _ _
  have c1 : (w.alloc (.cells #[.slice a n cap] tNat)).cell? ⟨w.heap.size, 0, none⟩ = some (.slice a n cap) := by unfold World.cell?; rw [hbox]; rfl
  have h0 := h.mono hb
  have ZR := Lib.hid (zero_ok h0)
  have hL := len10 (Nat.le_of_lt hx)
  clear h
  by_cases hx0 : x = 0
  · subst hx0
    have hs : (Value.string (str (decT 0))) = .string ⟨#[48]⟩ := rfl
    rw [hs]
    clear hbox h0
    go_enter Tryd.func11, Tryd.ntmps11
    go_wp2_with fail
    refine ZR.out.mono ?_
    rintro e w2 ⟨rfl, h2⟩
    go_wp2
    go_ret
    exact ⟨rfl, ext_trans hb h2⟩
  · have hxb : (x == 0) = false := beq_eq_false_iff_ne.2 hx0
    rw [hxb] at ZR
    go_enter Tryd.func11, Tryd.ntmps11
    go_wp2_with fail
    refine ZR.out.mono ?_
    rintro e w2 ⟨rfl, h2⟩
    have hb2 := ext_trans hb h2
    have hbox2 := (h2.block _ (by simp)).trans hbox
    have h02 := h0.mono h2
    clear ZR hb h2 hbox c1 h0
    go_wp2_with fail
    go_loopw [3] (fun b wr => ∃ (t : Nat) (ac : Option Addr) (nc cc : Nat), wr.ownsRow w.heap.size eU8 1 b (9 * t) (bys (lets (digL 10 x (9 * t)))) ∧ wr.heap[w.heap.size]? = some (.cells #[.slice ac nc cc] tNat) ∧ NatV wr (.agg #[.slice ac nc cc]) (x / 10 ^ (9 * t)) ∧
        9 * t ≤ (digs 10 x).length + 9 ∧ Below w.heap.size w wr)
      (fun b _ => (digs 10 x).length + 9 - lenV b)
    case atStart => exact ⟨0, a, n, cap, ⟨by simp [bys, lets, digL], .inl (by simp)⟩, hbox2, by simpa using h02, by omega, hb2⟩
    case round =>
      clear hbox2 h02 hb2
      obtain ⟨t, ac, nc, cc, ho, hbx, hN, ht, hE⟩ := hrel
      have hcell : wr.cell? ⟨w.heap.size, 0, none⟩ = some (.slice ac nc cc) := by unfold World.cell?; rw [hbx]; rfl
      have ZR := Lib.hid (zero_ok hN)
      obtain ⟨ab, cb, rfl, _⟩ := SlA.outB (Sl.of_own ho).any
      have el : (lets (digL 10 x (9 * t))).length = 9 * t := by simp [lets]
      rw [el]
      by_cases hX : x / 10 ^ (9 * t) = 0
      · rw [hX] at ZR
        have hlen : (digs 10 x).length ≤ 9 * t := by
          refine (len_digs_le (by omega)).2 ?_
          rcases Nat.div_eq_zero_iff.1 hX with h | h
          · exact absurd h (Nat.pos_iff_ne_zero.1 (Nat.pow_pos (by omega)))
          · exact h
        have TR := Lib.hid (trim_text hx0 hlen)
        have LT := Lib.hid (lets_lt (digL_lt (by omega) x (9 * t)))
        clear hN hX
        rw [el] at ho
        generalize digL 10 x (9 * t) = D at *
        go_wp2_with fail
        refine ZR.out.mono ?_
        rintro e w3 ⟨rfl, h3⟩
        have ho3 := own_ext ho h3
        rw [← el] at ho3
        have hE3 := hE.trans (h3.mono hE.size)
        have RV := Lib.hid (reverseB_ok ho3 (by omega))
        rw [el] at RV
        clear ho ho3 ZR h3
        go_wp2_with fail
        refine RV.out.mono ?_
        rintro e w4 ⟨rfl, ho4, h4⟩
        have hcv := conv_str (w := w4) (Sl.of_own ho4).any (fun d hd => LT.out d (List.mem_reverse.1 hd))
        have hE4 := hE3.trans h4
        go_wp2_with fail
        refine (Tryd.strings_TrimLeft_one _ 48 (by decide) w4).mono ?_
        rintro e w5 ⟨rfl, rfl⟩
        rw [TR.out]
        go_wp2
        go_ret
        exact ⟨rfl, hE4⟩
      · have hXb : (x / 10 ^ (9 * t) == 0) = false := beq_eq_false_iff_ne.2 hX
        rw [hXb] at ZR
        have hlt9 : 9 * t < (digs 10 x).length := by
          refine Nat.lt_of_not_le fun hc => hX ?_
          exact Nat.div_eq_of_lt ((len_digs_le (by omega)).1 hc)
        have hXd : x / 10 ^ (9 * (t + 1)) = x / 10 ^ (9 * t) / 1000000000 := by
          rw [Nat.div_div_eq_div_mul, show 9 * (t + 1) = 9 * t + 9 by omega, Nat.pow_add]
        have hlX : (digs B (x / 10 ^ (9 * t))).length < 1000000 := Nat.lt_of_le_of_lt (len_mono two_le_B (Nat.div_le_self _ _)) hx
        have HXD := Lib.hid hXd
        have CD := Lib.hid (fun k (hk : k < 9) => chunk_dig (x := x) (t := t) hk)
        have LS := Lib.hid (fun k => lets_snoc x (9 * t + k))
        obtain ⟨X, hXe⟩ : ∃ X, X = x / 10 ^ (9 * t) := ⟨_, rfl⟩
        rw [← hXe] at hN HXD CD hlX
        have l1 : (digs B 1000000000).length ≤ 1 := (len_digs_le two_le_B).2 (by decide)
        have OF := Lib.hid (of_ok 1000000000 (by omega))
        have DM := Lib.hid (fun (W : World) (v u : Value) (h : NatV W v X) (g : NatV W u 1000000000) => divMod_ok h g (by omega) (by omega) (by omega) (fun h2 _ => absurd h2 (by omega)))
        have HN := Lib.hid hN
        rw [el] at ho
        clear hX hXe hXb hXd hN
        go_wp2_with fail
        refine ZR.out.mono ?_
        rintro e w3 ⟨rfl, h3⟩
        have ho3 := own_ext ho h3
        have hbx3 := (h3.block _ (block_lt hbx)).trans hbx
        have hN3 := HN.out.mono h3
        have hE3 := hE.trans (h3.mono hE.size)
        have hcell3 : w3.cell? ⟨w.heap.size, 0, none⟩ = some (.slice ac nc cc) := by unfold World.cell?; rw [hbx3]; rfl
        clear ho hbx hE hcell ZR h3 HN
        go_wp2_with fail
        refine wp_region_M #[true, true, true, true, false, false, false, false, false, false, false, false] [7, 8] [4, 5, 6] (fun _ v W => ∃ k, v = .pointer (some ⟨k, 0, none⟩) ∧ W.heap[k]? = some (.cells #[.slice none 0 0] tNat)) blkOf 4 6 mixed (by rfl) (by kernel_rfl) (fun _ _ _ _ hb h => blk_mono hb h) ?_ ?_
        · intro i hi o ho
          simp only [List.mem_cons, List.not_mem_nil, or_false] at hi
          rcases hi with rfl | rfl
          · cases ho
            exact mk_alloc rfl rfl (fun W => by go_simp)
          · cases ho
            exact mk_alloc rfl rfl (fun W => by go_simp)
        have sE0 := ext_drew w3
        have hg0 := Gr.cell sE0 hcell3
        refine wpH_seg' [0] 3 rfl (by kernel_rfl) ?_
        iterate 1 (refine seg_cons rfl ?_; go_big_quiet_step (rfl))
        refine seg_nil ?_
        clear hg0
        refine wpH_one 1 (by kernel_rfl) rfl ?_
        intro s1v s1c
        have s1D := ext_trans sE0 s1c
        go_wp2_with fail
        refine (OF.out _).mono ?_
        rintro e s1w ⟨r1, rfl, u1, s1b⟩
        go_wp2_with fail
        refine QE_intro s1b ?_
        have s1E := ext_trans s1D s1b
        refine wpH_one 2 (by kernel_rfl) rfl ?_
        intro s2v s2c
        have s2D := ext_trans s1E s2c
        go_wp2_with fail
        refine (DM.out _ _ _ (hN3.mono s2D) (u1.mono s2c)).mono ?_
        rintro e s2w ⟨r3, r4, rfl, u3, u4, s2b⟩
        go_wp2_with fail
        refine QE_intro s2b ?_
        have s2E := ext_trans s2D s2b
        refine wpH_seg' [3] 0 rfl (by kernel_rfl) ?_
        iterate 1 (refine seg_cons rfl ?_; go_big_quiet_step (rfl))
        refine seg_nil ?_
        refine wpH_tail [4, 5, 6, 9, 10, 11] (by kernel_rfl) ?_
        intro W Wb vs hR hD
        have WE := ext_trans s2E Wb
        have hk1 := hR 7 (by simp)
        have hk2 := hR 8 (by simp)
        have hkd := hD 7 (by simp) 8 (by simp) (by omega)
        obtain ⟨⟨k1, hv1, hh1⟩, hN1, hb1⟩ := hk1
        obtain ⟨⟨k2, hv2, hh2⟩, hN2, hb2⟩ := hk2
        rw [hv1] at hkd hN1 hb1
        rw [hv2] at hkd hN2 hb2
        simp only [blkOf] at hkd hN1 hN2 hb1 hb2
        rw [putS_two (d := some 4) (e := some 5) rfl rfl, hv1, hv2]
        have hu3 := u3.mono Wb
        have hu4 := u4.mono Wb
        obtain ⟨a8, n8, cap8, rfl, hu3⟩ := hu3.out
        obtain ⟨a9, n9, cap9, rfl, hu4⟩ := hu4.out
        obtain ⟨q1, q2, M1, M2⟩ := box2 (w := W) hh1 hh2 (by decide) (by omega) hu3 hu4
        have hf1 : W.cell? ⟨k1, 0, none⟩ = some (.slice none 0 0) := by unfold World.cell?; rw [hh1]; rfl
        have hg1 : W.frozen? ⟨k1, 0, none⟩ = false := by unfold World.frozen?; rw [hh1]; rfl
        have hf2 : W.cell? ⟨k2, 0, none⟩ = some (.slice none 0 0) := by unfold World.cell?; rw [hh2]; rfl
        have hg2 : W.frozen? ⟨k2, 0, none⟩ = false := by unfold World.frozen?; rw [hh2]; rfl
        have hkk1 : w3.heap.size ≤ k1 := by simp only [World.drew] at hN1; omega
        have hkk2 : w3.heap.size ≤ k2 := by simp only [World.drew] at hN2; omega
        have EF : Below w3.heap.size w3 ((W.setCell ⟨k1, 0, none⟩ (.slice a8 n8 cap8)).setCell ⟨k2, 0, none⟩ (.slice a9 n9 cap9)) := below_put (below_put WE hkk1) hkk2
        have hbk1 : ((W.setCell ⟨k1, 0, none⟩ (.slice a8 n8 cap8)).setCell ⟨k2, 0, none⟩ (.slice a9 n9 cap9)).heap[k1]? = some (.cells #[.slice a8 n8 cap8] tNat) := by
          rw [Below.heap_setCell _ _ _ _ (by simp only; omega)]
          exact heap_setCell_same W k1 0 _ _ _ hh1
        have ho5 := own_ext ho3 EF
        have hbx5 := (EF.block _ (block_lt hbx3)).trans hbx3
        have hE5 := hE3.trans (EF.mono hE3.size)
        clear hh1 hh2 hR hD hv1 hv2 hu3 hu4 u1 u3 u4 WE Wb s1b s2b s1c s2c s1D s2D s1E s2E sE0 ho3 hbx3 hN3 hcell3 EF hE3
        refine tail_l (os := [_, _, _, _, _, _]) rfl ?_
        go_wp2_with fail
        refine qp_nil ?_
        clear hf1 hg1 hf2 hg2
        generalize (World.setCell _ _ _) = W5 at *
        have hR64 : X % 1000000000 < 18446744073709551616 := Nat.lt_trans (Nat.mod_lt _ (by omega)) (by omega)
        have UI := Lib.hid (uint64_ok M2 hR64)
        clear M2 hR64
        go_wp2_with fail
        refine UI.out.mono ?_
        rintro e w6 ⟨rfl, h6⟩
        have ho6 := own_ext ho5 h6
        have hbx6 := (h6.block _ (block_lt hbx5)).trans hbx5
        have hbk6 := (h6.block _ (block_lt hbk1)).trans hbk1
        have hE6 := hE5.trans (h6.mono hE5.size)
        have N6 := M1.mono h6
        clear UI h6 ho5 hbx5 hbk1 hE5 M1 q1 q2
        go_wp2_with fail
        have hD0 : 9 * t + 0 = 9 * t := by omega
        go_loopw [3, 7, 26] (fun b d i wr => ∃ k : Nat, k ≤ 9 ∧ i = .int .i64 k ∧ d = .int .u64 (X % 1000000000 / 10 ^ k : Nat) ∧ wr.ownsRow w.heap.size eU8 1 b (9 * t + k) (bys (lets (digL 10 x (9 * t + k)))) ∧
            wr.heap[w.heap.size]? = some (.cells #[.slice ac nc cc] tNat) ∧ wr.heap[k1]? = some (.cells #[.slice a8 n8 cap8] tNat) ∧ NatV wr (.agg #[.slice a8 n8 cap8]) (X / 1000000000) ∧ Below w.heap.size w wr)
          (fun _ _ i _ => 9 - (intOf i).toNat)
        case atStart => exact ⟨0, by omega, rfl, congrArg (Value.int .u64) (by rw [Nat.pow_zero, Nat.div_one]; omega), ho6, hbx6, hbk6, N6, hE6⟩
        case round =>
          clear ho6 hbx6 hbk6 N6 hE6
          obtain ⟨k, hk, rfl, rfl, ho, hbx, hbk, hN, hE⟩ := hrel
          by_cases hk9 : k < 9
          · have hdig := CD.out k hk9
            have hd10 : X % 1000000000 / 10 ^ (k + 1) = X % 1000000000 / 10 ^ k / 10 := by rw [Nat.div_div_eq_div_mul, Nat.pow_succ]
            have hdB : X % 1000000000 / 10 ^ k < 1000000000 := Nat.lt_of_le_of_lt (Nat.div_le_self _ _) (Nat.mod_lt _ (by omega))
            have HD10 := Lib.hid hd10
            have hLS := LS.out k
            generalize X % 1000000000 / 10 ^ k = D at *
            have hdl := dig_lt (b := 10) (by omega) x (9 * t + k)
            generalize dig 10 x (9 * t + k) = c at *
            have hm : (D : Int) % 10 = (c : Int) := by omega
            have HLS := Lib.hid hLS
            have HO := Lib.hid ho
            have HBX := Lib.hid hbx
            have HBK := Lib.hid hbk
            have HN := Lib.hid hN
            clear hLS hd10 hdig hbx hbk hN
            go_wp2_with (at_builtin; refine wpList_pushG rfl _ _ 39 rfl w.heap.size eU8 _ 1 elemU8 _ (9 * t + k) _ rfl ho _ rfl rfl (by omega) (by unfold maxLen; omega) w hE (Nat.le_refl _) ?_; intro v' w' hown' hb' hoA hgr)
            have hbxA := ((below_new (w := wr) (.cells #[.int .u8 (48 + (c : Int))] eU8)).block _ (block_lt HBX.out)).trans HBX.out
            have hbkA := ((below_new (w := wr) (.cells #[.int .u8 (48 + (c : Int))] eU8)).block _ (block_lt HBK.out)).trans HBK.out
            have hNA := HN.out.mono (below_new (w := wr) (.cells #[.int .u8 (48 + (c : Int))] eU8))
            go_roundw
            case rel =>
              refine ⟨k + 1, by omega, rfl, congrArg (Value.int .u64) (by rw [HD10.out]; omega), ?_, heap_grown hoA hgr hbxA (by decide), heap_grown hoA hgr hbkA (by decide), nat_grown hoA hgr hNA (by decide), hb'⟩
              show World.ownsRow _ _ _ _ _ (9 * t + k + 1) (bys (lets (digL 10 x (9 * t + k + 1))))
              have e : ((48 + c : Nat) : Int) = 48 + (c : Int) := by omega
              rw [HLS.out, e]
              exact hown'
            case measure => simp [intOf]; omega
          · obtain rfl : k = 9 := by omega
            have hck : wr.cell? ⟨k1, 0, none⟩ = some (.slice a8 n8 cap8) := by unfold World.cell?; rw [hbk]; rfl
            have hcx : wr.cell? ⟨w.heap.size, 0, none⟩ = some (.slice ac nc cc) := by unfold World.cell?; rw [hbx]; rfl
            have hfx : wr.frozen? ⟨w.heap.size, 0, none⟩ = false := by unfold World.frozen?; rw [hbx]; rfl
            have hN2 := (box_nat hbx (by decide) hN).2
            have ho2 := own_put (k := w.heap.size) (off := 0) (u := .slice a8 n8 cap8) ho hbx (by decide)
            have hbx2 := heap_setCell_same wr w.heap.size 0 _ _ (.slice a8 n8 cap8) hbx
            have hE2 := below_put (off := 0) (u := .slice a8 n8 cap8) hE (Nat.le_refl _)
            obtain ⟨ab2, cb2, rfl, _⟩ := SlA.outB (Sl.of_own ho).any
            have el9 : (lets (digL 10 x (9 * t + 9))).length = 9 * t + 9 := by simp [lets]
            rw [el9] at ho2 ⊢
            clear hbx hbk hN ho hE
            go_wp2_with fail
            go_roundw
            case rel =>
              exact ⟨t + 1, a8, n8, cap8, ho2, hbx2, by rw [HXD.out]; exact hN2, by omega, hE2⟩
            case measure =>
              simp [lenV]
              omega
end Go.Proofs.YtcabmibcgedhhaaDoor

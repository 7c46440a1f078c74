/-
  The walk of digits.Take.
-/
import Derived.Test.YtcabmibcgedhhaaDoorDgT
namespace Go.Proofs.YtcabmibcgedhhaaDoor
open Go.RowKit Go.Cd

/-- What Take takes: the error, the bytes, what is left. -/
def tk (L : List Nat) : Nat × List Nat × List Nat :=
  if L.length < 4 then (2, [], []) else
  if L.length - 4 < nb (L.take 4) then (2, [], []) else
  if 0 < nb (L.take 4) ∧ L[4]?.getD 0 = 0 then (3, [], []) else (0, (L.drop 4).take (nb (L.take 4)), L.drop (4 + nb (L.take 4)))

theorem bts_extract (s : ByteArray) (a b : Nat) : bts (s.extract a b) = ((bts s).drop a).take (b - a) := by
  unfold bts
  rw [ByteArray.data_extract, Array.toList_extract, List.extract_eq_take_drop, List.map_take, List.map_drop]
theorem extract_str (s : ByteArray) (a b : Nat) : s.extract a b = str (((bts s).drop a).take (b - a)) := by
  rw [← bts_extract, str_bts]

theorem or_i64 {N c : Nat} (hN : N < 16777216) (hc : c < 256) : bits .or .i64 ((N : Int) * 256) (c : Int) = ((N * 256 + c : Nat) : Int) := by
  rw [bits_join .i64 63 (by decide) (fun n h0 h1 => by rw [IntKind.wrap_i64]; omega) 8 _ _ (by omega) (by omega) (by omega) (by omega) (by omega) (by omega)]
  omega

theorem nil_nat (w : World) : NatV w (.agg #[.slice none 0 0]) (nb []) := ⟨_, rfl, by rw [show nb [] = 0 from rfl, digs_zero]; exact .nil _ _ _ _ (fun _ => rfl)⟩

set_option maxRecDepth 100000 in
set_option maxHeartbeats 3200000 in
theorem digTake_ok {w : World} (s : ByteArray) (hs : s.size < 1000000) :
    Calls Tryd.prog 13 #[.string s] w fun e w' => ∃ r, e = .returned (.tuple #[r, .string (str (tk (bts s)).2.2), .int .i64 (tk (bts s)).1]) ∧ NatV w' r (nb (tk (bts s)).2.1) ∧ Below w.heap.size w w' := by
  have hb := below_new (w := w) (.cells #[.slice none 0 0] tNat)
  have c0 : (w.alloc (.cells #[.slice none 0 0] tNat)).cell? ⟨w.heap.size, 0, none⟩ = some (.slice none 0 0) := by unfold World.cell?; rw [heap_alloc_new]; rfl
  have f0 : (w.alloc (.cells #[.slice none 0 0] tNat)).frozen? ⟨w.heap.size, 0, none⟩ = false := by unfold World.frozen?; rw [heap_alloc_new]; rfl
  by_cases h4 : s.size < 4
  · go_enter Tryd.func13, Tryd.ntmps13
    go_wp2
    have htk : tk (bts s) = (2, [], []) := by unfold tk; rw [if_pos (by simpa using h4)]
    rw [htk]
    exact bodyPost_ret (v := .tuple #[.agg #[.slice none 0 0], .string ⟨#[]⟩, .int .i64 2]) (by simp [results, Tryd.results13, go_sem, c0]) rfl ⟨_, rfl, ⟨_, rfl, by rw [show nb [] = 0 from rfl, digs_zero]; exact .nil _ _ _ _ (fun _ => rfl)⟩, hb⟩
  · go_enter Tryd.func13, Tryd.ntmps13
    go_wp2_with fail
    go_loopw [5, 14] (fun n i wr => ∃ j : Nat, j ≤ 4 ∧ i = .int .i64 j ∧ n = .int .i64 (nb ((bts s).take j) : Nat) ∧ wr = w.alloc (.cells #[.slice none 0 0] tNat))
      (fun _ i _ => 4 - (intOf i).toNat)
    case atStart => exact ⟨0, Nat.zero_le _, rfl, rfl, rfl⟩
    case round =>
      obtain ⟨j, hj, rfl, rfl, rfl⟩ := hrel
      by_cases hj4 : j < 4
      · have hjs : j < s.size := by omega
        have hc := bts_lt s _ (List.getElem_mem (show j < (bts s).length by simpa using hjs))
        rw [bts_get s j hjs] at hc
        have hnb := nb_lt (l := (bts s).take j) (fun d hd => bts_lt s d (List.mem_of_mem_take hd))
        have HS := Lib.hid (List.take_succ_eq_append_getElem (show j < (bts s).length by simpa using hjs))
        rw [bts_get s j hjs] at HS
        have hN3 : nb ((bts s).take j) < 16777216 := by
          refine Nat.lt_of_lt_of_le hnb ?_
          rw [List.length_take, length_bts]
          exact Nat.pow_le_pow_right (n := 256) (by omega) (show min j s.size ≤ 3 by omega)
        have hor := or_i64 hN3 hc
        have HNB := Lib.hid (nb_snoc ((bts s).take j) s[j].toNat)
        generalize nb ((bts s).take j) = N at *
        clear hnb
        go_wp2_with fail
        go_roundw
        case rel => exact ⟨j + 1, by omega, rfl, by rw [HS.out, HNB.out]; exact congrArg (Value.int .i64) (by omega), trivial⟩
        case measure => simp [intOf]; omega
      · obtain rfl : j = 4 := by omega
        have hN4 : nb ((bts s).take 4) < 4294967296 := by
          have hnb := nb_lt (l := (bts s).take 4) (fun d hd => bts_lt s d (List.mem_of_mem_take hd))
          refine Nat.lt_of_lt_of_le hnb ?_
          rw [List.length_take, length_bts]
          exact Nat.pow_le_pow_right (n := 256) (by omega) (show min 4 s.size ≤ 4 by omega)
        have hlen : (bts s).length = s.size := length_bts s
        by_cases hN : s.size - 4 < nb ((bts s).take 4)
        · have htk : tk (bts s) = (2, [], []) := by unfold tk; rw [if_neg (by omega), if_pos (by omega)]
          generalize nb ((bts s).take 4) = N at *
          have hd1 : decide (((s.size - 4 : Nat) : Int) < (N : Int)) = true := decide_eq_true (by omega)
          have hd2 : decide (s.size - 4 < N) = true := decide_eq_true hN
          go_wp2
          rw [htk]
          exact bodyPost_ret (v := .tuple #[.agg #[.slice none 0 0], .string ⟨#[]⟩, .int .i64 2]) (by simp [results, Tryd.results13, go_sem, c0]) rfl ⟨_, rfl, nil_nat _, hb⟩
        · by_cases hz : 0 < nb ((bts s).take 4) ∧ (bts s)[4]?.getD 0 = 0
          · have htk : tk (bts s) = (3, [], []) := by unfold tk; rw [if_neg (by omega), if_neg (by omega), if_pos hz]
            obtain ⟨hz1, hz2⟩ := hz
            generalize nb ((bts s).take 4) = N at *
            have hd1 : decide (((s.size - 4 : Nat) : Int) < (N : Int)) = false := decide_eq_false (by omega)
            have hd2 : decide (s.size - 4 < N) = false := decide_eq_false hN
            have hd3 : decide ((0 : Int) < (N : Int)) = true := decide_eq_true (by omega)
            have hd4 : decide (0 < N) = true := decide_eq_true hz1
            have h5 : 4 < s.size := by omega
            have hxs : (s.extract 4 s.size).size = s.size - 4 := by simp
            have hx0 : ((s.extract 4 s.size)[0]'(by omega)).toNat = 0 := by
              rw [← bts_get _ 0 (by omega)]
              have : (bts (s.extract 4 s.size))[0]? = some 0 := by
                rw [bts_extract, List.getElem?_take_of_lt (by omega), List.getElem?_drop]
                rw [List.getElem?_eq_getElem (by omega)] at hz2 ⊢
                simpa using hz2
              rw [List.getElem?_eq_getElem (by simp; omega)] at this
              exact Option.some.inj this
            go_wp2
            rw [htk]
            exact bodyPost_ret (v := .tuple #[.agg #[.slice none 0 0], .string ⟨#[]⟩, .int .i64 3]) (by simp [results, Tryd.results13, go_sem, c0]) rfl ⟨_, rfl, nil_nat _, hb⟩
          · have htk : tk (bts s) = (0, ((bts s).drop 4).take (nb ((bts s).take 4)), (bts s).drop (4 + nb ((bts s).take 4))) := by unfold tk; rw [if_neg (by omega), if_neg (by omega), if_neg hz]
            have HTK := Lib.hid htk
            have hxs : (s.extract 4 s.size).size = s.size - 4 := by simp
            have hx0 : ∀ h : 0 < s.size - 4, 0 < nb ((bts s).take 4) → ((((s.extract 4 s.size)[0]'(by omega)).toNat : Int) == 0) = false := by
              intro h hp
              refine beq_eq_false_iff_ne.2 fun hc => hz ⟨hp, ?_⟩
              have h0 : ((s.extract 4 s.size)[0]'(by omega)).toNat = 0 := by omega
              rw [← bts_get _ 0 (by omega)] at h0
              have h1 : (bts (s.extract 4 s.size))[0]? = (bts s)[4]? := by
                rw [bts_extract, List.getElem?_take_of_lt (by omega), List.getElem?_drop]
              rw [← h1, List.getElem?_eq_getElem (by simp; omega), Option.getD_some]
              exact h0
            generalize nb ((bts s).take 4) = N at *
            have hd1 : decide (((s.size - 4 : Nat) : Int) < (N : Int)) = false := decide_eq_false (by omega)
            have hd2 : decide (s.size - 4 < N) = false := decide_eq_false hN
            clear hz htk
            by_cases hN0 : 0 < N
            · have hx1 := hx0 (by omega) hN0
              have hd3 : decide ((0 : Int) < (N : Int)) = true := decide_eq_true (by omega)
              have hd4 : decide (0 < N) = true := decide_eq_true hN0
              clear hx0
              have hbx0 : (w.alloc (.cells #[.slice none 0 0] tNat)).heap[w.heap.size]? = some (.cells #[.slice none 0 0] tNat) := heap_alloc_new _ _
              have hMe : ((N : Int) + 4 - 1) / 4 = (((N + 3) / 4 : Nat) : Int) := by omega
              obtain ⟨M, hM⟩ : ∃ M, M = (N + 3) / 4 := ⟨_, rfl⟩
              rw [← hM] at hMe
              have hM4 : N ≤ 4 * M := by omega
              have hMs : M < 1000000 := by omega
              clear hM
              generalize (w.alloc (.cells #[.slice none 0 0] tNat)) = W0 at *
              go_wp2_with (at_make; refine wpList_make_sl _ rfl _ _ 22 rfl W0.heap.size eU32 (.int .u32 0) 4 elemU32 rfl .i64 .i64 _ _ M rfl rfl (by omega) (by omega) (by omega) (by unfold maxLen; omega) (Nat.le_refl _) ?_; intro w6 hown6 hgrow6)
              have hE6 := grown_ext hgrow6
              obtain ⟨rv, hrv⟩ : ∃ rv, rv = (((bts s).drop 4).take N).reverse := ⟨_, rfl⟩
              have hrl : rv.length = N := by rw [hrv]; simp; omega
              have hrb : ∀ d ∈ rv, d < 256 := fun d hd => bts_lt s d (by rw [hrv] at hd; exact List.mem_of_mem_drop (List.mem_of_mem_take (List.mem_reverse.1 hd)))
              have IDX := Lib.hid (show ∀ (j k : Nat) (h : k < (s.extract 4 s.size).size) (h' : j < rv.length), k + j + 1 = N → ((s.extract 4 s.size)[k]'h).toNat = rv[j] from by
                intro j k h h' hk
                rw [← bts_get _ k h]
                have h1 : (bts (s.extract 4 s.size))[k]? = rv[j]? := by
                  rw [hrv, List.getElem?_reverse (by rw [hrv] at h'; simpa using h'), bts_extract, List.getElem?_take_of_lt (by omega), List.getElem?_take_of_lt (by simp; omega)]
                  congr 1
                  simp
                  omega
                rw [List.getElem?_eq_getElem (by simpa using h), List.getElem?_eq_getElem h'] at h1
                exact Option.some.inj h1)
              have hr0 : List.replicate M (Value.int .u32 0) = u32s (List.replicate M 0) := by simp [u32s]
              rw [hr0] at hown6
              have HRB := Lib.hid hrb
              clear hr0 hrb hgrow6 hx1
              go_wp2_with fail
              go_loopw [48] (fun i wr => ∃ (j : Nat) (R : List Nat), j ≤ N ∧ i = .int .i64 j ∧ R.length = M ∧ val B R = val 256 (rv.take j) ∧ (∀ d ∈ R, d < B) ∧ (∀ t, t < M → j ≤ 4 * t + 3 → R[t]?.getD 0 < 256 ^ (j - 4 * t)) ∧
                  wr.ownsRow W0.heap.size eU32 1 (.slice (some ⟨W0.heap.size, 0, none⟩) M M) M (u32s R) ∧ Below W0.heap.size W0 wr)
                (fun i _ => N - (intOf i).toNat)
              case atStart =>
                refine ⟨0, List.replicate M 0, Nat.zero_le _, rfl, by simp, by rw [val_zeros]; rfl, fun d hd => ?_, fun t ht _ => ?_, hown6, hE6⟩
                · rw [List.eq_of_mem_replicate hd]; decide
                · rw [List.getElem?_replicate, if_pos ht]; simp
              case round =>
                clear hown6 hE6
                obtain ⟨j, R, hj, rfl, hRl, hRv, hRB, hRi, ho, hE⟩ := hrel
                by_cases hjN : j < N
                · obtain ⟨k, hk⟩ : ∃ k : Nat, (N : Int) - 1 - (j : Int) = (k : Int) := ⟨N - 1 - j, by omega⟩
                  have hkj : k + j + 1 = N := by omega
                  have hks : k < s.size - 4 := by omega
                  have hjr : j < rv.length := by omega
                  have hidx := IDX.out j k (by omega) hjr hkj
                  have HVT := Lib.hid (val_take_succ 256 rv j hjr)
                  have hc := HRB.out _ (List.getElem_mem hjr)
                  obtain ⟨q, hq⟩ : ∃ q, q = j / 4 := ⟨_, rfl⟩
                  obtain ⟨r, hr⟩ : ∃ r, r = j % 4 := ⟨_, rfl⟩
                  have hqi : (j : Int) / 4 = (q : Int) := by omega
                  have hri : (j : Int) % 4 = (r : Int) := by omega
                  have hqM : q < M := by omega
                  have hqr : j = 4 * q + r := by omega
                  have hr4 : r < 4 := by omega
                  obtain ⟨hcell, hfr⟩ := own_at ho (j := q) (by simp; omega)
                  have hcl : (u32s R)[q]'(by simp; omega) = .int .u32 (R[q]'(by omega) : Nat) := by simp [u32s]
                  rw [hcl] at hcell
                  have hRq := hRi q hqM (by omega)
                  rw [List.getElem?_eq_getElem (by omega), Option.getD_some, show j - 4 * q = r by omega] at hRq
                  have hvs := val_set B R q (R[q]'(by omega) + rv[j] * 256 ^ r) (by omega)
                  rw [List.getElem?_eq_getElem (by omega), Option.getD_some, Nat.add_mul] at hvs
                  have HVS := Lib.hid hvs
                  have HRI := Lib.hid hRi
                  have HRVV := Lib.hid hRv
                  have HRBB := Lib.hid hRB
                  have HS := Lib.hid (fun (u : Value) => (ho.stored q u).1)
                  generalize hO : R[q]'(by omega) = o at *
                  generalize hC : rv[j] = c at *
                  have e8 : (2 : Nat) ^ (8 * r) = 256 ^ r := by rw [Nat.pow_mul]
                  have hP : c * 256 ^ r + o < 256 ^ (r + 1) := by
                    rw [Nat.pow_succ]
                    have : (c + 1) * 256 ^ r ≤ 256 * 256 ^ r := Nat.mul_le_mul_right _ hc
                    rw [Nat.add_mul, Nat.one_mul] at this
                    omega
                  have hP4 : 256 ^ (r + 1) ≤ 4294967296 := Nat.le_trans (Nat.pow_le_pow_right (n := 256) (by omega) (show r + 1 ≤ 4 by omega)) (by decide)
                  have hor : bits .or .u32 (o : Int) ((c : Int) * 2 ^ (8 * r) % 4294967296) = ((o + c * 256 ^ r : Nat) : Int) := by
                    rw [or_u32 (by omega) (by rw [e8]; exact hRq) (by unfold B; omega), e8, Nat.mod_eq_of_lt (by unfold B; omega)]
                  have HOR := Lib.hid hor
                  have HP := Lib.hid hP
                  have HP4 := Lib.hid hP4
                  have HQR := Lib.hid hqr
                  have HKJ := Lib.hid hkj
                  have HR4 := Lib.hid hr4
                  clear hO hC hvs hRi hRv hRB hP hP4 hor hcl hRq e8 hqr hkj hr4 hq hr
                  go_wp2_with fail
                  refine wp_region_E #[true, true, true, true, true, true, true, true, true, true, true, true, true, true, true, false] 15 1 mixed (by rfl) ?_
                  have hg0 := Gr.cell (ext_drew wr) hcell
                  refine wpE_seg' [0, 1, 2, 3, 4, 5, 6, 7, 8, 9, 10, 11, 12, 13, 14] 0 rfl (by kernel_rfl) ?_
                  refine seg_ex ?_
                  iterate 15 (refine ex_cons rfl ?_)
                  refine ex_nil ?_
                  iterate 15 (go_big_quiet_step (rfl))
                  refine seg_nil ?_
                  clear hg0
                  have hcellD : wr.drew.cell? ⟨W0.heap.size, q, none⟩ = some (.int .u32 (o : Int)) := hcell
                  have hfrD : wr.drew.frozen? ⟨W0.heap.size, q, none⟩ = false := hfr
                  refine wpE_tail [15] (by kernel_rfl) ?_
                  refine tail_cons rfl ?_
                  go_wp2_with fail
                  refine tail_nil ?_
                  go_wp2
                  go_roundw
                  case rel =>
                    have hq0 : 256 ^ r * B ^ q = 256 ^ j := by
                      rw [show B = 256 ^ 4 from rfl, ← Nat.pow_mul, ← Nat.pow_add]
                      congr 1
                      have := HQR.out
                      omega
                    have hv1 := HVS.out
                    have hv2 := HVT.out
                    rw [Nat.mul_assoc, hq0] at hv1
                    have hv3 := HRVV.out
                    have hnew : o + c * 256 ^ r < 256 ^ (r + 1) := by have := HP.out; omega
                    refine ⟨j + 1, R.set q (o + c * 256 ^ r), by omega, rfl, by simp [hRl], by omega, fun d hd => ?_, fun t ht hjt => ?_, ?_, (below_put hE (Nat.le_refl _)).trans (below_drew _)⟩
                    · rcases List.mem_or_eq_of_mem_set hd with h | rfl
                      · exact HRBB.out d h
                      · exact Nat.lt_of_lt_of_le hnew HP4.out
                    · by_cases htq : t = q
                      · subst htq
                        rw [List.getElem?_set_self (by omega), Option.getD_some]
                        have e1 : j + 1 - 4 * t = r + 1 := by have := HQR.out; omega
                        rw [e1]
                        exact hnew
                      · rw [List.getElem?_set_ne (by omega)]
                        exact Nat.lt_of_lt_of_le (HRI.out t ht (by omega)) (Nat.pow_le_pow_right (by omega) (by omega))
                    · rw [HOR.out]
                      have e2 : (u32s R).set q (.int .u32 ((o + c * 256 ^ r : Nat) : Int)) = u32s (R.set q (o + c * 256 ^ r)) := by simp [u32s, List.map_set]
                      rw [← e2]
                      exact own_ext (HS.out _) (ext_drew _)
                  case measure => simp [intOf]; omega
                · obtain rfl : N = j := by omega
                  have hsz0 : w.heap.size < W0.heap.size := block_lt hbx0
                  rw [List.take_of_length_le (by omega)] at hRv
                  have hval : val B R = nb (((bts s).drop 4).take N) := by
                    rw [hRv, hrv, ← nb_val _ _ rfl]
                  have LM := Lib.hid (fun (W : World) (E : Below wr.heap.size wr W) => limbs_ok ((Sl.of_own ho).mono E) hRB (by omega))
                  rw [hval] at LM
                  have hEW := hb.trans (hE.mono hb.size)
                  have hbxr := (hE.block _ hsz0).trans hbx0
                  have hrest : (s.extract 4 s.size).extract N (s.size - 4) = str ((bts s).drop (4 + N)) := by
                    rw [extract_str, bts_extract]
                    congr 1
                    rw [List.take_of_length_le (l := List.drop N _) (by simp), List.take_of_length_le (by simp), List.drop_drop]
                  have HREST := Lib.hid hrest
                  clear hval hRv ho hRi hRB hrest IDX
                  go_wp2_with fail
                  go_region_with (go_at_call 9; refine (LM.out _ (by first | exact ext_drew _ | exact Below.refl _ _)).mono ?_; rintro e k1w ⟨r1, rfl, n1, k1b⟩; have k1E : Below wr.heap.size wr k1w := (by first | exact ext_trans (ext_drew wr) k1b | exact k1b); have hbxk := (k1E.block _ (block_lt hbxr)).trans hbxr; have hck : k1w.cell? ⟨w.heap.size, 0, none⟩ = some (.slice none 0 0) := (by unfold World.cell?; rw [hbxk]; rfl); have hfk : k1w.frozen? ⟨w.heap.size, 0, none⟩ = false := (by unfold World.frozen?; rw [hbxk]; rfl); obtain ⟨ar, nr, cr, rfl, n1⟩ := n1.out; obtain ⟨q1, q2⟩ := box_nat hbxk (by decide) n1; have hEF := below_put (off := 0) (u := .slice ar nr cr) (hEW.trans (k1E.mono hEW.size)) (Nat.le_refl w.heap.size))
                  all_goals go_wp2
                  all_goals rw [HREST.out, HTK.out]
                  all_goals exact bodyPost_ret (v := .tuple #[.agg #[.slice ar nr cr], .string (str ((bts s).drop (4 + N))), .int .i64 0]) (by simp [results, Tryd.results13, go_sem, q1]) rfl ⟨_, rfl, q2, hEF⟩
            · have hd3 : decide ((0 : Int) < (N : Int)) = false := decide_eq_false (by omega)
              have hd4 : decide (0 < N) = false := decide_eq_false hN0
              clear hx0
              have hbx0 : (w.alloc (.cells #[.slice none 0 0] tNat)).heap[w.heap.size]? = some (.cells #[.slice none 0 0] tNat) := heap_alloc_new _ _
              have hMe : ((N : Int) + 4 - 1) / 4 = (((N + 3) / 4 : Nat) : Int) := by omega
              obtain ⟨M, hM⟩ : ∃ M, M = (N + 3) / 4 := ⟨_, rfl⟩
              rw [← hM] at hMe
              have hM4 : N ≤ 4 * M := by omega
              have hMs : M < 1000000 := by omega
              clear hM
              generalize (w.alloc (.cells #[.slice none 0 0] tNat)) = W0 at *
              go_wp2_with (at_make; refine wpList_make_sl _ rfl _ _ 22 rfl W0.heap.size eU32 (.int .u32 0) 4 elemU32 rfl .i64 .i64 _ _ M rfl rfl (by omega) (by omega) (by omega) (by unfold maxLen; omega) (Nat.le_refl _) ?_; intro w6 hown6 hgrow6)
              have hE6 := grown_ext hgrow6
              obtain ⟨rv, hrv⟩ : ∃ rv, rv = (((bts s).drop 4).take N).reverse := ⟨_, rfl⟩
              have hrl : rv.length = N := by rw [hrv]; simp; omega
              have hrb : ∀ d ∈ rv, d < 256 := fun d hd => bts_lt s d (by rw [hrv] at hd; exact List.mem_of_mem_drop (List.mem_of_mem_take (List.mem_reverse.1 hd)))
              have IDX := Lib.hid (show ∀ (j k : Nat) (h : k < (s.extract 4 s.size).size) (h' : j < rv.length), k + j + 1 = N → ((s.extract 4 s.size)[k]'h).toNat = rv[j] from by
                intro j k h h' hk
                rw [← bts_get _ k h]
                have h1 : (bts (s.extract 4 s.size))[k]? = rv[j]? := by
                  rw [hrv, List.getElem?_reverse (by rw [hrv] at h'; simpa using h'), bts_extract, List.getElem?_take_of_lt (by omega), List.getElem?_take_of_lt (by simp; omega)]
                  congr 1
                  simp
                  omega
                rw [List.getElem?_eq_getElem (by simpa using h), List.getElem?_eq_getElem h'] at h1
                exact Option.some.inj h1)
              have hr0 : List.replicate M (Value.int .u32 0) = u32s (List.replicate M 0) := by simp [u32s]
              rw [hr0] at hown6
              have HRB := Lib.hid hrb
              clear hr0 hrb hgrow6 hd3
              go_wp2_with fail
              go_loopw [48] (fun i wr => ∃ (j : Nat) (R : List Nat), j ≤ N ∧ i = .int .i64 j ∧ R.length = M ∧ val B R = val 256 (rv.take j) ∧ (∀ d ∈ R, d < B) ∧ (∀ t, t < M → j ≤ 4 * t + 3 → R[t]?.getD 0 < 256 ^ (j - 4 * t)) ∧
                  wr.ownsRow W0.heap.size eU32 1 (.slice (some ⟨W0.heap.size, 0, none⟩) M M) M (u32s R) ∧ Below W0.heap.size W0 wr)
                (fun i _ => N - (intOf i).toNat)
              case atStart =>
                refine ⟨0, List.replicate M 0, Nat.zero_le _, rfl, by simp, by rw [val_zeros]; rfl, fun d hd => ?_, fun t ht _ => ?_, hown6, hE6⟩
                · rw [List.eq_of_mem_replicate hd]; decide
                · rw [List.getElem?_replicate, if_pos ht]; simp
              case round =>
                clear hown6 hE6
                obtain ⟨j, R, hj, rfl, hRl, hRv, hRB, hRi, ho, hE⟩ := hrel
                by_cases hjN : j < N
                · exact absurd hjN (by omega)
                · obtain rfl : N = j := by omega
                  have hsz0 : w.heap.size < W0.heap.size := block_lt hbx0
                  rw [List.take_of_length_le (by omega)] at hRv
                  have hval : val B R = nb (((bts s).drop 4).take N) := by
                    rw [hRv, hrv, ← nb_val _ _ rfl]
                  have LM := Lib.hid (fun (W : World) (E : Below wr.heap.size wr W) => limbs_ok ((Sl.of_own ho).mono E) hRB (by omega))
                  rw [hval] at LM
                  have hEW := hb.trans (hE.mono hb.size)
                  have hbxr := (hE.block _ hsz0).trans hbx0
                  have hrest : (s.extract 4 s.size).extract N (s.size - 4) = str ((bts s).drop (4 + N)) := by
                    rw [extract_str, bts_extract]
                    congr 1
                    rw [List.take_of_length_le (l := List.drop N _) (by simp), List.take_of_length_le (by simp), List.drop_drop]
                  have HREST := Lib.hid hrest
                  clear hval hRv ho hRi hRB hrest IDX
                  go_wp2_with fail
                  go_region_with (go_at_call 9; refine (LM.out _ (by first | exact ext_drew _ | exact Below.refl _ _)).mono ?_; rintro e k1w ⟨r1, rfl, n1, k1b⟩; have k1E : Below wr.heap.size wr k1w := (by first | exact ext_trans (ext_drew wr) k1b | exact k1b); have hbxk := (k1E.block _ (block_lt hbxr)).trans hbxr; have hck : k1w.cell? ⟨w.heap.size, 0, none⟩ = some (.slice none 0 0) := (by unfold World.cell?; rw [hbxk]; rfl); have hfk : k1w.frozen? ⟨w.heap.size, 0, none⟩ = false := (by unfold World.frozen?; rw [hbxk]; rfl); obtain ⟨ar, nr, cr, rfl, n1⟩ := n1.out; obtain ⟨q1, q2⟩ := box_nat hbxk (by decide) n1; have hEF := below_put (off := 0) (u := .slice ar nr cr) (hEW.trans (k1E.mono hEW.size)) (Nat.le_refl w.heap.size))
                  all_goals go_wp2
                  all_goals rw [HREST.out, HTK.out]
                  all_goals exact bodyPost_ret (v := .tuple #[.agg #[.slice ar nr cr], .string (str ((bts s).drop (4 + N))), .int .i64 0]) (by simp [results, Tryd.results13, go_sem, q1]) rfl ⟨_, rfl, q2, hEF⟩
end Go.Proofs.YtcabmibcgedhhaaDoor

/-
  The walk of prod.Mul.
-/
import Derived.Test.YtcabmibcgedhhaaNat9
namespace Go.Proofs.Ytcabmibcgedhhaa
open Go.RowKit Go.Cd

theorem val_set (b : Nat) : ∀ (l : List Nat) (j v : Nat), j < l.length → val b (l.set j v) + l[j]?.getD 0 * b ^ j = val b l + v * b ^ j
  | [], _, _, h => by simp at h
  | d :: l, 0, v, _ => by simp [val]; omega
  | d :: l, j + 1, v, h => by
    have := val_set b l j v (by simpa using h)
    simp only [List.set_cons_succ, val, List.getElem?_cons_succ, Nat.pow_succ]
    have e : ∀ p q : Nat, p * (q * b) = b * (p * q) := fun p q => by rw [← Nat.mul_assoc, Nat.mul_comm]
    rw [e, e, Nat.add_assoc, Nat.add_assoc, ← Nat.mul_add, ← Nat.mul_add, this]

theorem val_take_succ (b : Nat) (l : List Nat) (j : Nat) (h : j < l.length) : val b (l.take (j + 1)) = val b (l.take j) + l[j] * b ^ j := by
  rw [List.take_succ_eq_append_getElem h, val_append]
  simp [val, Nat.min_eq_left (Nat.le_of_lt h), Nat.mul_comm]

theorem Sl.outU {w : World} {v : Value} {l : List Nat} (h : Sl eU32 w v (u32s l)) : ∃ a cap, v = .slice a l.length cap ∧ l.length ≤ cap ∧ ∀ i (hi : i < l.length), ∃ b off, a = some ⟨b, off, none⟩ ∧ b < w.heap.size ∧ w.cell? ⟨b, off + i, none⟩ = some (.int .u32 (l[i] : Nat)) := by
  obtain ⟨a, cap, hv, hc, hx⟩ := Sl.out h
  refine ⟨a, cap, by rw [hv, length_u32s], by rw [length_u32s] at hc; exact hc, fun i hi => ?_⟩
  obtain ⟨b, off, h1, h2, h3⟩ := hx i (by rw [length_u32s]; exact hi)
  rw [u32s_getElem _ _ hi] at h3
  exact ⟨b, off, h1, h2, h3⟩

theorem mul_step {p q o c : Nat} (hp : p < 4294967296) (hq : q < 4294967296) (ho : o < 4294967296) (hc : c < 4294967296) : p * q + o + c < 18446744073709551616 := by
  have h1 : p * q ≤ 4294967295 * 4294967295 := Nat.mul_le_mul (by omega) (by omega)
  omega

theorem mul_alg {b vs vl A PV W s1 s0 pq o cc : Nat} (h1 : vs + o * W = vl + s0 * W) (h2 : vl + cc * W = A + PV) (h3 : b * s1 + s0 = pq + o + cc) : vs + s1 * (W * b) = A + (PV + pq * W) := by
  have h4 : (b * s1 + s0) * W = (pq + o + cc) * W := by rw [h3]
  rw [Nat.add_mul, Nat.add_mul, Nat.add_mul] at h4
  have h5 : s1 * (W * b) = b * s1 * W := by rw [Nat.mul_comm W b, ← Nat.mul_assoc, Nat.mul_comm s1 b]
  rw [h5]
  omega

theorem getD_set_ne {l : List Nat} {i j v : Nat} (h : i ≠ j) : (l.set i v)[j]?.getD 0 = l[j]?.getD 0 := by rw [List.getElem?_set_ne h]

theorem lt_of_mem_set {l : List Nat} {i v b : Nat} (hl : ∀ d ∈ l, d < b) (hv : v < b) : ∀ d ∈ l.set i v, d < b := fun d hd => by
  rcases List.mem_or_eq_of_mem_set hd with h | rfl
  · exact hl d h
  · exact hv

set_option maxRecDepth 100000 in
set_option maxHeartbeats 1600000 in
theorem mul_ok {w : World} {v u : Value} {x y : Nat} (h : NatV w v x) (k : NatV w u y) (hx : (digs B x).length < 274877906944) (hy : (digs B y).length < 274877906944) :
    Calls Try.prog 52 #[v, u] w fun e w' => ∃ r, e = .returned r ∧ NatV w' r (x * y) ∧ Below w.heap.size w w' := by
  obtain ⟨a, n, cap, rfl, h⟩ := h.out
  obtain ⟨a2, n2, cap2, rfl, k⟩ := k.out
  have hb := (below_new (w := w) (.cells #[.slice a n cap] 42)).alloc (by simp) (.cells #[.slice a2 n2 cap2] 42) |>.alloc (by simp; omega) (.cells #[.slice none 0 0] 42)
  have c1 : (((w.alloc (.cells #[.slice a n cap] 42)).alloc (.cells #[.slice a2 n2 cap2] 42)).alloc (.cells #[.slice none 0 0] 42)).cell? ⟨w.heap.size, 0, none⟩ = some (.slice a n cap) := by go_simp
  have c2 : (((w.alloc (.cells #[.slice a n cap] 42)).alloc (.cells #[.slice a2 n2 cap2] 42)).alloc (.cells #[.slice none 0 0] 42)).cell? ⟨w.heap.size + 1, 0, none⟩ = some (.slice a2 n2 cap2) := by go_simp
  have c3 : (((w.alloc (.cells #[.slice a n cap] 42)).alloc (.cells #[.slice a2 n2 cap2] 42)).alloc (.cells #[.slice none 0 0] 42)).heap[w.heap.size + 1 + 1]? = some (.cells #[.slice none 0 0] 42) := heap_alloc_new' _ _ _ (by simp)
  have N1 := h.mono hb
  have N2 := k.mono hb
  have L1 := Lib.hid (fun (W : World) (E : Below _ _ W) => natLimbs_ok (N1.mono E) (by omega))
  have L2 := Lib.hid (fun (W : World) (E : Below _ _ W) => natLimbs_ok (N2.mono E) (by omega))
  have T0 := ext_refl (((w.alloc (.cells #[.slice a n cap] 42)).alloc (.cells #[.slice a2 n2 cap2] 42)).alloc (.cells #[.slice none 0 0] 42))
  have vx := val_digs two_le_B x
  have vy := val_digs two_le_B y
  have lx := digs_lt two_le_B x
  have ly := digs_lt two_le_B y
  generalize digs B x = X at *
  generalize digs B y = Y at *
  have VX := Lib.hid vx
  have VY := Lib.hid vy
  have LX := Lib.hid lx
  have LY := Lib.hid ly
  have s3 : (((w.alloc (.cells #[.slice a n cap] 42)).alloc (.cells #[.slice a2 n2 cap2] 42)).alloc (.cells #[.slice none 0 0] 42)).heap.size = w.heap.size + 3 := by simp
  have HB := Lib.hid hb
  clear h k N1 N2 vx vy lx ly hb
  go_enter Try.func52, Try.ntmps52
  go_wp2_with fail
  refine wp_region_E (Array.replicate 6 true) 6 0 mixed (by rfl) ?_
  have kE0 := ext_trans T0 (ext_drew _)
  have hg0 := Gr.cell kE0 c1
  have hg1 := Gr.cell kE0 c2
  refine wpE_seg' [0, 2] 4 rfl (by kernel_rfl) ?_
  iterate 2 (refine seg_cons rfl ?_; go_big_quiet_step (rfl))
  refine seg_nil ?_
  clear hg0 hg1
  refine wpE_one 1 (by kernel_rfl) rfl ?_
  go_wp2_with fail
  refine (L1.out _ kE0).mono ?_
  rintro e k1w ⟨r1, rfl, o1, k1b⟩
  go_wp2_with fail
  refine QE_intro k1b ?_
  have k1E := ext_trans kE0 k1b
  refine wpE_one 3 (by kernel_rfl) rfl ?_
  go_wp2_with fail
  refine (L2.out _ k1E).mono ?_
  rintro e k2w ⟨r2, rfl, o2, k2b⟩
  go_wp2_with fail
  refine QE_intro k2b ?_
  have k2E := ext_trans k1E k2b
  have hg0 := Gr.cell k2E c1
  have hg1 := Gr.cell k2E c2
  refine wpE_seg' [4, 5] 0 rfl (by kernel_rfl) ?_
  iterate 2 (refine seg_cons rfl ?_; go_big_quiet_step (rfl))
  refine seg_nil ?_
  clear hg0 hg1
  refine wpE_tail [] (by kernel_rfl) ?_
  refine tail_nil ?_
  have S1 := (Sl.of_own o1).mono k2b
  have S2 := Sl.of_own o2
  have hE := k2E
  obtain ⟨x1, cp1, rfl, _, hx1⟩ := Sl.outU S1
  obtain ⟨x2, cp2, rfl, _, hx2⟩ := Sl.outU S2
  have z3 : k2w.heap[w.heap.size + 1 + 1]? = some (.cells #[.slice none 0 0] 42) := (hE.block _ (by rw [s3]; omega)).trans c3
  have zs : w.heap.size + 3 ≤ k2w.heap.size := by have := hE.size; rw [s3] at this; exact this
  have hBw : Below w.heap.size w k2w := HB.out.trans (hE.mono (by rw [s3]; omega))
  have HX1 := Lib.hid hx1
  have HX2 := Lib.hid hx2
  have Z3 := Lib.hid z3
  clear o1 o2 S1 S2 hx1 hx2 c1 c2 c3 k2E k1b k2b L1 L2 T0 s3 z3 hE HB
  have k2b := hBw
  go_wp2_with (at_make; refine wpList_make_sl _ rfl _ _ 40 rfl k2w.heap.size eU32 _ 4 elemU32 rfl .i64 .i64 _ _ (X.length + Y.length) rfl rfl (by omega) (by omega) (by omega) (by unfold maxLen; omega) (by simp) ?_; intro w3 hown hgrow)
  have hB3 := grown_ext hgrow
  clear hgrow
  go_loopw [26] (fun i wr => ∃ (j : Nat) (l : List Nat), j ≤ X.length ∧ i = .int .i64 j ∧ l.length = X.length + Y.length ∧ (∀ d ∈ l, d < B) ∧ (∀ t, j + Y.length ≤ t → l[t]?.getD 0 = 0) ∧ val B l = val B (X.take j) * y ∧
      wr.ownsRow k2w.heap.size eU32 1 (.slice (some ⟨k2w.heap.size, 0, none⟩) (X.length + Y.length) (X.length + Y.length)) (X.length + Y.length) (u32s l) ∧ Below k2w.heap.size k2w wr)
    (fun i _ => X.length - (intOf i).toNat)
  case atStart =>
    refine ⟨0, List.replicate (X.length + Y.length) 0, Nat.zero_le _, rfl, by simp, ?_, ?_, by simp [val_zeros, val], by simpa [u32s] using hown, hB3⟩
    · intro d hd; rw [(List.mem_replicate.1 hd).2]; decide
    · intro t _
      rw [List.getElem?_replicate]; split <;> rfl
  case round =>
    obtain ⟨j, l, hj, rfl, hl, hlt, hz, hv, hO, hE⟩ := hrel
    by_cases hjX : j < X.length
    · obtain ⟨b1, off1, rfl, hb1, hc1⟩ := HX1.out j hjX
      have hc1 := (hE.cell (p := ⟨b1, off1 + j, none⟩) hb1).trans hc1
      have hp : X[j] < B := LX.out _ (List.getElem_mem _)
      have HV := Lib.hid hv
      have HLT := Lib.hid hlt
      have HZ := Lib.hid hz
      generalize hP : X[j] = p at *
      have HPX := Lib.hid hP
      clear hv hlt hz hP
      go_wp2_with fail
      go_loopw [10, 33] (fun c k wr' => ∃ (cc t : Nat) (l : List Nat), t ≤ Y.length ∧ k = .int .i64 t ∧ c = .int .u64 cc ∧ cc < B ∧ l.length = X.length + Y.length ∧ (∀ d ∈ l, d < B) ∧ (∀ s, j + Y.length ≤ s → l[s]?.getD 0 = 0) ∧
          val B l + cc * B ^ (j + t) = val B (X.take j) * y + p * B ^ j * val B (Y.take t) ∧
          wr'.ownsRow k2w.heap.size eU32 1 (.slice (some ⟨k2w.heap.size, 0, none⟩) (X.length + Y.length) (X.length + Y.length)) (X.length + Y.length) (u32s l) ∧ Below k2w.heap.size k2w wr')
        (fun _ k _ => Y.length - (intOf k).toNat)
      case atStart =>
        exact ⟨0, 0, l, Nat.zero_le _, rfl, rfl, by decide, hl, HLT.out, HZ.out, by simp [val]; exact HV.out, hO, hE⟩
      case round =>
        clear HV HLT HZ hO hE hc1
        obtain ⟨cc, t, l2, ht, rfl, rfl, hcc, hl2, hlt2, hz2, hv2, hO2, hE2⟩ := hrel
        have HV2 := Lib.hid hv2
        have HLT2 := Lib.hid hlt2
        have HZ2 := Lib.hid hz2
        clear hv2 hlt2 hz2
        by_cases htY : t < Y.length
        · obtain ⟨b2, off2, rfl, hb2, hc2⟩ := HX2.out t htY
          have hc2 := (hE2.cell (p := ⟨b2, off2 + t, none⟩) hb2).trans hc2
          have hq : Y[t] < B := LY.out _ (List.getElem_mem _)
          obtain ⟨hcell, hfr⟩ := own_at hO2 (j := j + t) (by simp; omega)
          rw [u32s_getElem _ _ (by omega)] at hcell
          have ho : l2[j + t] < B := HLT2.out _ (List.getElem_mem _)
          have HS := Lib.hid (fun (u : Value) => (hO2.stored (j + t) u).1)
          generalize hQ : Y[t] = q at *
          generalize hOO : l2[j + t] = o at *
          have HQ := Lib.hid hQ
          have HOO := Lib.hid hOO
          have hs := mul_step (p := p) (q := q) (o := o) (c := cc) (by unfold B at hp; exact hp) (by unfold B at hq; exact hq) (by unfold B at ho; exact ho) (by unfold B at hcc; exact hcc)
          clear hQ hOO hO2
          go_wp2
          go_roundw
          case rel =>
            have w1 : IntKind.u64.wrap (p : Int) = p := by rw [IntKind.wrap_u64]; unfold B at hp; omega
            have w2 : IntKind.u64.wrap (q : Int) = q := by rw [IntKind.wrap_u64]; unfold B at hq; omega
            have e0 : IntKind.u64.wrap (IntKind.u64.wrap (IntKind.u64.wrap (IntKind.u64.wrap ↑p * IntKind.u64.wrap ↑q) + ↑o) + ↑cc) = ((p * q + o + cc : Nat) : Int) := by
              rw [w1, w2, ← Int.natCast_mul]
              generalize p * q = pq at hs
              rw [IntKind.wrap_u64, IntKind.wrap_u64, IntKind.wrap_u64]
              omega
            rw [e0]
            have e3 := mul_alg (b := B) (vs := val B (l2.set (j + t) ((p * q + o + cc) % B))) (vl := val B l2) (A := val B (X.take j) * y) (PV := p * B ^ j * val B (Y.take t)) (W := B ^ (j + t)) (s1 := (p * q + o + cc) / B) (s0 := (p * q + o + cc) % B) (pq := p * q) (o := o) (cc := cc)
              (by have := val_set B l2 (j + t) ((p * q + o + cc) % B) (by omega); rw [List.getElem?_eq_getElem (by omega)] at this; simp only [Option.getD_some] at this; rw [HOO.out] at this; exact this)
              HV2.out (Nat.div_add_mod _ _)
            have e4 := val_take_succ B Y t htY
            rw [HQ.out] at e4
            have e5 : p * B ^ j * val B (Y.take (t + 1)) = p * B ^ j * val B (Y.take t) + p * q * B ^ (j + t) := by
              rw [e4, Nat.mul_add, Nat.pow_add]
              congr 1
              rw [Nat.mul_assoc, Nat.mul_assoc, Nat.mul_left_comm (B ^ j)]
            have hsB : (p * q + o + cc) / B < B := Nat.div_lt_of_lt_mul (by unfold B; omega)
            have hsm : (p * q + o + cc) % B < B := Nat.mod_lt _ (by decide)
            generalize p * q + o + cc = s at *
            have e1 : ((s : Nat) : Int) / 4294967296 = ((s / B : Nat) : Int) := by unfold B; omega
            rw [e1]
            refine ⟨s / B, t + 1, l2.set (j + t) (s % B), by omega, rfl, rfl, hsB, by simp; exact hl2, lt_of_mem_set HLT2.out hsm, fun z hz => ?_, ?_, ?_, ?_⟩
            · rw [getD_set_ne (by omega)]; exact HZ2.out z hz
            · rw [e5, show j + (t + 1) = (j + t) + 1 from by omega, Nat.pow_succ]; exact e3
            · have e6 : (s : Int) % 4294967296 = ((s % B : Nat) : Int) := by unfold B; omega
              rw [e6, ← u32s_set]
              exact HS.out _
            · exact below_put hE2 (Nat.le_refl _)
          case measure => simp [intOf]; omega
        · obtain rfl : t = Y.length := by omega
          have e1 : B ^ (j + Y.length) = B ^ (j + Y.length) := rfl
          obtain ⟨hcell, hfr⟩ := own_at hO2 (j := j + Y.length) (by simp; omega)
          rw [u32s_getElem _ _ (by omega)] at hcell
          have HS := Lib.hid (fun (u : Value) => (hO2.stored (j + Y.length) u).1)
          clear hO2
          go_wp2
          go_roundw
          case rel =>
            have hv3 := val_set B l2 (j + Y.length) cc (by omega)
            rw [HZ2.out _ (Nat.le_refl _), Nat.zero_mul, Nat.add_zero, HV2.out, List.take_length, VY.out] at hv3
            have e4 := val_take_succ B X j hjX
            rw [HPX.out] at e4
            refine ⟨j + 1, l2.set (j + Y.length) cc, by omega, rfl, by simp; exact hl2, lt_of_mem_set HLT2.out hcc, fun z hz => ?_, ?_, ?_, ?_⟩
            · rw [getD_set_ne (by omega)]; exact HZ2.out z (by omega)
            · rw [hv3, e4, Nat.add_mul]
            · rw [show (cc : Int) % 4294967296 = cc from by unfold B at hcc; omega, ← u32s_set]; exact HS.out _
            · exact below_put hE2 (Nat.le_refl _)
          case measure => simp [intOf]; omega
    · obtain rfl : j = X.length := by omega
      rw [List.take_length, VX.out] at hv
      go_wp2_with fail
      refine (limbs_ok (Sl.of_own hO) hlt (by omega)).mono ?_
      rintro e w4 ⟨r4, rfl, hr4, hb4⟩
      rw [hv] at hr4
      obtain ⟨a3, n3, cap3, rfl, hN⟩ := hr4.out
      have hBw4 := ext_trans (hBw.trans (hE.mono (by omega))) hb4
      have hk : w4.heap[w.heap.size + 1 + 1]? = some (.cells #[.slice none 0 0] 42) := (hb4.block _ (by have := hE.size; omega)).trans ((hE.block _ (by omega)).trans Z3.out)
      obtain ⟨hcs, hR⟩ := box_nat hk (by decide) hN
      have hB := below_put (off := 0) (u := .slice a3 n3 cap3) hBw4 (b := w.heap.size + 1 + 1) (by omega)
      have hcell : w4.cell? ⟨w.heap.size + 1 + 1, 0, none⟩ = some (.slice none 0 0) := by unfold World.cell?; rw [hk]; rfl
      have hfr : w4.frozen? ⟨w.heap.size + 1 + 1, 0, none⟩ = false := by unfold World.frozen?; rw [hk]; rfl
      clear hk hb4 hr4 hN hO hE hBw hBw4 hv hlt hz
      go_wp2
      exact bodyPost_ret (v := .agg #[.slice a3 n3 cap3]) (by simp [results, Try.results52, go_sem, hcs]) rfl ⟨_, rfl, hR, hB⟩
end Go.Proofs.Ytcabmibcgedhhaa

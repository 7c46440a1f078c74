/-
  The walk of digits.bytes.
-/
import Derived.Test.YtcabmibcgedhhaaDoorBwU
import Derived.Test.YtcabmibcgedhhaaDoorTxt
namespace Go.Proofs.YtcabmibcgedhhaaDoor
open Go.RowKit Go.Cd Go.Shelf

attribute [local go_sem] Oper.semAt_some

/-- A number's bytes, the highest first. -/
def bb (x : Nat) : List Nat := (digs 256 x).reverse
theorem bb_lt (x : Nat) : ∀ d ∈ bb x, d < 256 := fun d hd => digs_lt (by omega) x d (List.mem_reverse.1 hd)
theorem bb_step (V c : Nat) (hc : c < 256) : bb (V * 256 + c) = if V * 256 + c = 0 then [] else bb V ++ [c] := by
  by_cases h : V * 256 + c = 0
  · rw [if_pos h, h]; simp [bb, digs_zero]
  · rw [if_neg h]
    unfold bb
    rw [digs_pos (by omega) h, show (V * 256 + c) % 256 = c by omega, show (V * 256 + c) / 256 = V by omega, List.reverse_cons]
theorem bb_nil {V : Nat} : (bb V).length = 0 ↔ V = 0 := by
  unfold bb
  rw [List.length_reverse, List.length_eq_zero_iff]
  exact digs_eq_nil (by omega)

/-- A limb and its place. -/
abbrev LU : Type := { p : Nat × Nat // p.2 < B }
def elU (x j : Nat) : LU := ⟨(j, dig B x j), dig_lt two_le_B x j⟩
/-- The number of the limbs so far. -/
def VB (pre : List LU) : Nat := pre.foldl (fun V p => V * B + p.1.2) 0
theorem VB_snoc (pre : List LU) (p : LU) : VB (pre ++ [p]) = VB pre * B + p.1.2 := by simp [VB]
theorem VB_lt_n : ∀ (n : Nat) (pre : List LU), pre.length = n → VB pre < B ^ n
  | 0, pre, h => by
    obtain rfl := List.length_eq_zero_iff.1 h
    simp [VB]
  | n + 1, pre, h => by
    rcases List.eq_nil_or_concat pre with rfl | ⟨q, p, rfl⟩
    · simp at h
    · rw [List.concat_eq_append] at h ⊢
      rw [VB_snoc]
      have h1 := VB_lt_n n q (by simpa using h)
      have h2 := p.2
      have h3 : (VB q + 1) * B ≤ B ^ n * B := Nat.mul_le_mul_right B h1
      rw [Nat.add_mul, Nat.one_mul] at h3
      rw [Nat.pow_succ]
      omega
theorem VB_lt (pre : List LU) : VB pre < B ^ pre.length := VB_lt_n _ pre rfl
theorem VB_bw (x n : Nat) (hn : (digs B x).length ≤ n) : ∀ k, k ≤ n → VB (bwUp (elU x) n k) = x / B ^ (n - k)
  | 0, _ => by
    have h := (len_digs_le two_le_B).1 hn
    simp [bwUp, VB, Nat.div_eq_of_lt h]
  | k + 1, hk => by
    rw [bwUp_succ, VB_snoc, VB_bw x n hn k (by omega)]
    have h := div_succ (b := B) x (n - (k + 1))
    rw [show n - (k + 1) + 1 = n - k by omega] at h
    rw [h, Nat.mul_comm]
    show _ + dig B x (n - 1 - k) = _
    rw [show n - 1 - k = n - (k + 1) by omega]
theorem len_bb {V n : Nat} (h : V < B ^ n) : (bb V).length ≤ 4 * n := by
  unfold bb
  rw [List.length_reverse]
  refine (len_digs_le (by omega)).2 ?_
  rw [Nat.pow_mul]
  exact h

/-- The next byte of a limb. -/
theorem byte_step {V d j k : Nat} (hd : d < B) (hk : k + j = 3) : V * 256 ^ (j + 1) + d / 256 ^ (4 - (j + 1)) = (V * 256 ^ j + d / 256 ^ (4 - j)) * 256 + d / 2 ^ (8 * k) % 256 ∧ d / 256 ^ (4 - j) < 256 ^ j := by
  have e1 : 4 - (j + 1) = k := by omega
  have e2 : 4 - j = k + 1 := by omega
  have e3 : (2 : Nat) ^ (8 * k) = 256 ^ k := by rw [Nat.pow_mul]
  constructor
  · rw [e1, e2, e3, Nat.pow_succ, Nat.pow_succ, ← Nat.div_div_eq_div_mul, Nat.add_mul, Nat.mul_assoc, Nat.add_assoc]
    congr 1
    have := Nat.div_add_mod (d / 256 ^ k) 256
    omega
  · rw [e2]
    refine Nat.div_lt_of_lt_mul ?_
    rw [← Nat.pow_add, show k + 1 + j = 4 by omega]
    exact hd
theorem len_part {V d j n : Nat} (hV : V < B ^ n) (hj : j ≤ 4) (hd : d < 256 ^ j) : (bb (V * 256 ^ j + d)).length ≤ 4 * (n + 1) := by
  refine len_bb ?_
  have h1 : (V + 1) * 256 ^ j ≤ B ^ n * 256 ^ j := Nat.mul_le_mul_right _ hV
  have h2 : B ^ n * 256 ^ j ≤ B ^ n * B := Nat.mul_le_mul_left _ (Nat.pow_le_pow_right (n := 256) (by omega) hj)
  rw [Nat.add_mul, Nat.one_mul] at h1
  rw [Nat.pow_succ]
  omega

/-- A block of another kind behind an append and the store of the slice. -/
theorem keep_app {W w1 : World} {base n k B' : Nat} {e T : TypeId} {o v : Value} {xs : List Value} {tmp : Obj} {cs : Array Value} {fr : Nat × Nat} (hk : W.heap[k]? = some (.cells cs T fr)) (hT : T ≠ e) (hkB : k ≠ B') (hrow : W.ownsRow base e 1 o n xs) (hg : (W.alloc tmp).grownBy w1 o.ownBlock) :
    (w1.setCell ⟨B', 0, none⟩ v).heap[k]? = W.heap[k]? := by
  rw [Below.heap_setCell _ _ _ _ (by simpa using hkB), hk]
  exact heap_grown (hrow.alloc tmp) hg (((below_new tmp).block _ (block_lt hk)).trans hk) hT

set_option maxRecDepth 100000 in
set_option maxHeartbeats 3200000 in
theorem bytes_ok {w : World} {v : Value} {x : Nat} (h : NatV w v x) (hx : (digs B x).length < 1000000) :
    Calls Tryd.prog 37 #[v] w fun e w' => ∃ r, e = .returned r ∧ w'.ownsRow w.heap.size eU8 1 r (bb x).length (bys (bb x)) ∧ Below w.heap.size w w' := by
  obtain ⟨a, n, cap, rfl, h⟩ := h.out
  have hb := below2 (w := w) (.cells #[.slice a n cap] tNat) (.cells #[.slice none 0 0] 39)
  have hbox : ((w.alloc (.cells #[.slice a n cap] tNat)).alloc (.cells #[.slice none 0 0] 39)).heap[w.heap.size]? = some (.cells #[.slice a n cap] tNat) := ((below_new _).block _ (by simp)).trans (heap_alloc_new' _ _ _ rfl)
  have hout : Boxed ((w.alloc (.cells #[.slice a n cap] tNat)).alloc (.cells #[.slice none 0 0] 39)) (w.heap.size + 1) 39 (.slice none 0 0) := heap_alloc_new' _ _ _ (by simp)
  have c1 : ((w.alloc (.cells #[.slice a n cap] tNat)).alloc (.cells #[.slice none 0 0] 39)).cell? ⟨w.heap.size, 0, none⟩ = some (.slice a n cap) := by unfold World.cell?; rw [hbox]; rfl
  have LM := Lib.hid (natLimbs_ok (h.mono hb) (by omega))
  have HX := Lib.hid hx
  obtain ⟨_, ht, i0, hi, hz, hsize, hby⟩ := elemU8
  clear h hbox hx
  refine calls_of_marks Tryd.func37 rfl ?_
  simp only [Tryd.ntmps37, List.size_toArray, List.length_cons, List.length_nil, Nat.reduceAdd, Nat.reduceSub, Array.replicate_succ, Array.replicate_zero, List.push_toArray, List.append_toArray, List.nil_append, List.cons_append]
  go_wp2_with fail
  refine LM.out.mono ?_
  rintro e W0 ⟨r, rfl, o1, h2⟩
  have hout2 : Boxed W0 (w.heap.size + 1) 39 (.slice none 0 0) := (h2.block _ (by simp)).trans hout
  have EB := hb.trans (h2.mono hb.size)
  have hsz0 : w.heap.size + 2 ≤ W0.heap.size := by have := h2.size; simp at this; omega
  have hs1 : Sl eU32 W0 r (u32s (digs B x)) := Sl.of_own o1
  obtain ⟨a1, c1', rfl, _⟩ := SlA.out hs1.any
  rw [length_u32s] at *
  clear hb hout c1 LM h2 o1
  go_wp2_with fail
  refine (backwardU_ok _ W0 ⟨_, _, _, rfl⟩).mono ?_
  rintro e w5 ⟨rfl, rfl⟩
  go_wp2_with fail
  have hXN := HX.out
  obtain ⟨kb, hkb, hIA, hkT⟩ : ∃ kb, kb ≤ W0.heap.size ∧ U32sAt kb (W0.alloc (.cells #[.slice a1 (digs B x).length c1'] 22)) (.slice a1 (digs B x).length c1') (digs B x).length (fun j => (dig B x j : Int)) ∧ (0 < (digs B x).length → ∃ cs fr, W0.heap[kb]? = some (.cells cs eU32 fr)) := by
    obtain ⟨a', cap', hv, hc, hr⟩ := hs1
    rw [length_u32s] at hv hc
    cases hv
    rcases hr with ⟨hn, _⟩ | ⟨b, off, cs, fr, rfl, hh, hx⟩
    · have hl : (digs B x).length = 0 := by rw [← length_u32s, hn]; rfl
      exact ⟨0, Nat.zero_le _, .inl ⟨hl, a1, c1', by rw [hl]⟩, fun h => by omega⟩
    · refine ⟨b, Nat.le_of_lt (block_lt hh), .inr ⟨off, c1', rfl, by simp; have := block_lt hh; omega, fun j hj => ?_⟩, fun _ => ⟨cs, fr, hh⟩⟩
      rw [(below_new _).cell (p := ⟨b, off + j, none⟩) (block_lt hh)]
      have h1 := hx j (by rw [length_u32s]; exact hj)
      unfold World.cell?
      rw [hh]
      have e1 : (u32s (digs B x))[j]'(by rw [length_u32s]; exact hj) = .int .u32 ((dig B x j : Nat) : Int) := by
        rw [← dig_eq two_le_B, List.getElem?_eq_getElem hj]
        simp [u32s]
      rw [e1] at h1
      simpa using h1
  refine (wpIn_wide (n := 5)).1 ?_
  refine wpIn_rangeFunc_ownG (F := Fence.wide) rfl (by omega) (gf := 62) (lb := #[.pointer (some ⟨W0.heap.size, 0, none⟩)]) rfl trivial (enters_of Tryd.func62 (by kernel_rfl) rfl)
    (backU_stops Fence.wide 4 trivial rfl (by omega) W0.heap.size kb (.slice a1 (digs B x).length c1') (digs B x).length (by omega) (elU x) (fun p => #[.int .i64 (p.1.1 : Int), .int .u32 (p.1.2 : Int)]) (fun j => (dig B x j : Int))
      (fun j hj => rfl) (W0.alloc (.cells #[.slice a1 (digs B x).length c1'] 22)) (by simp) (by go_simp) hIA)
    (fun h k => h.trans k) (fun W l o o' hl ho hc _ => by
      have hl' : W0.heap.size + 1 ≤ l := by simpa using hl
      exact ⟨World.putObj_heap_other (by omega), World.putObj_heap_other (by omega)⟩) (Below.refl _ _) (fun _ => rfl)
    (fun pre W => ((∃ v, Boxed W (w.heap.size + 1) 39 v ∧ W.ownsRow w.heap.size eU8 1 v (bb (VB pre)).length (bys (bb (VB pre))) ∧ True) ∧ W.heap[W0.heap.size]? = some (.cells #[.slice a1 (digs B x).length c1'] 22) ∧ (0 < (digs B x).length → ∃ cs fr, W.heap[kb]? = some (.cells cs eU32 fr))) ∧ Below w.heap.size w W)
    (fun _ _ _ => False)
    (OwnFrom.and (Own.from (fun s A B row hs hg hr => ⟨holdsRow_own w.heap.size (w.heap.size + 1) 39 eU8 1 (fun pre => (bb (VB pre)).length) (fun pre => bys (bb (VB pre))) (fun _ _ => True) s A B row hs.1 hg hr, keepC hg hr hs.2.1, fun h0 => by obtain ⟨cs, fr, hh⟩ := hs.2.2 h0; exact ⟨cs, fr, keepC hg hr hh⟩⟩) _) (ownFrom_below (Nat.le_refl _) (by have := EB.size; simp; omega)))
    (fun _ _ _ _ _ hs _ _ => hs)
    ⟨⟨⟨_, hout2.alloc _, by rw [show VB [] = 0 from rfl, show bb 0 = [] from by simp [bb, digs_zero]]; exact World.ownsRow_nil _ _ _ _, trivial⟩, heap_alloc_new _ _, fun h0 => by obtain ⟨cs, fr, hh⟩ := hkT h0; exact ⟨cs, fr, ((below_new _).block _ (block_lt hh)).trans hh⟩⟩, EB.alloc EB.size _⟩
    (fun p => { tmps := #[.agg #[.slice a n cap], .pointer (some ⟨w.heap.size, 0, none⟩), .slice none 0 0, .pointer (some ⟨w.heap.size + 1, 0, none⟩), undef, .int .u32 (p.1.2 : Int), undef, undef, .agg #[.slice a n cap], .slice a1 (digs B x).length c1',
      .func (.func 62) #[] #[.pointer (some ⟨W0.heap.size, 0, none⟩)], .int .i64 (p.1.1 : Int), .int .u32 (p.1.2 : Int), undef, undef, undef, undef, undef, undef, undef, undef, undef, undef, undef, undef, undef, undef, undef, undef, undef, undef, undef, undef, undef], defers := [] }) ?assign ?body ?done ?stop
  case assign =>
    intro l x W K hK
    gi_wp2
    exact hK
  case body =>
    rintro l pre ⟨⟨i, d⟩, hdB⟩ Wr ⟨⟨⟨v, hv, hrow, _⟩, hbx, hkd⟩, hB⟩ hlt
    obtain ⟨cs, fr, hkd⟩ := hkd (by omega)
    have hVs := VB_snoc pre ⟨(i, d), hdB⟩
    have hVl := VB_lt pre
    simp only at hdB hVs
    have HVS := Lib.hid hVs
    clear hVs
    generalize VB pre = V at *
    have hP : V < B ^ (digs B x).length := Nat.lt_of_lt_of_le hVl (Nat.pow_le_pow_right (by decide) (by omega))
    gi_wp2_with fail
    gi_loopw [6] (fun kk wr => ∃ (j : Nat) (v : Value), j ≤ 4 ∧ kk = .int .i64 (3 - (j : Int)) ∧ Boxed wr (w.heap.size + 1) 39 v ∧ wr.ownsRow w.heap.size eU8 1 v (bb (V * 256 ^ j + d / 256 ^ (4 - j))).length (bys (bb (V * 256 ^ j + d / 256 ^ (4 - j)))) ∧
        KeepsFrom (W0.alloc (.cells #[.slice a1 (digs B x).length c1'] 22)).heap.size Wr wr ∧ Keep2 W0.heap.size kb Wr wr ∧ Below w.heap.size w wr)
      (fun kk _ => (intOf kk + 1).toNat)
    case atStart =>
      refine ⟨0, v, by omega, rfl, hv, ?_, KeepsFrom.refl _ _, Keep2.refl _ _ _, hB⟩
      have : d / 256 ^ 4 = 0 := Nat.div_eq_of_lt hdB
      rw [Nat.pow_zero, Nat.mul_one, show 4 - 0 = 4 from rfl, this, Nat.add_zero]
      exact hrow
    case round =>
      obtain ⟨j, v', hj, rfl, hv', hrow', hkf, hkp, hB'⟩ := hrel
      by_cases hj4 : j < 4
      · obtain ⟨k, hk⟩ : ∃ k : Nat, (3 : Int) - (j : Int) = (k : Int) := ⟨3 - j, by omega⟩
        rw [hk]
        obtain ⟨av, cv, rfl, _⟩ := SlA.outB (Sl.of_own hrow').any
        have hc := hv'.cell
        have hf := hv'.frozen
        obtain ⟨hM1, hdj⟩ := byte_step (V := V) (d := d) (j := j) (k := k) hdB (by omega)
        have hL := len_part hP (by omega : j ≤ 4) hdj
        have HM1 := Lib.hid hM1
        have hbxr : wr.heap[W0.heap.size]? = some (.cells #[.slice a1 (digs B x).length c1'] 22) := hkp.1.trans hbx
        have hkdr : wr.heap[kb]? = some (.cells cs eU32 fr) := hkp.2.trans hkd
        have hkne : kb ≠ w.heap.size + 1 := fun e => by
          rw [e] at hkdr
          have h1 : wr.heap[w.heap.size + 1]? = _ := hv'
          rw [h1] at hkdr
          have h3 := congrArg (fun o => match o with | some (Obj.cells _ T _) => T | _ => 0) hkdr
          simp only at h3
          exact absurd h3 (by decide)
        clear hM1 hdj
        generalize V * 256 ^ j + d / 256 ^ (4 - j) = M at *
        obtain ⟨E, hE⟩ : ∃ E, E = d / 2 ^ (8 * k) := ⟨_, rfl⟩
        rw [← hE] at HM1
        have hEi : (d : Int) / 2 ^ (8 * k) = (E : Int) := by rw [hE, Int.natCast_ediv, Int.natCast_pow]; rfl
        have hEB : E < 4294967296 := by rw [hE]; exact Nat.lt_of_le_of_lt (Nat.div_le_self _ _) hdB
        obtain ⟨c, hc0⟩ : ∃ c, c = E % 256 := ⟨_, rfl⟩
        rw [← hc0] at HM1
        have hci : (E : Int) % 256 = (c : Int) := by omega
        have hc256 : c < 256 := by omega
        obtain ⟨L, hL0⟩ : ∃ L, L = (bb M).length := ⟨_, rfl⟩
        rw [← hL0] at hrow' hL hc hv'
        have HL := Lib.hid hL0
        have hML : L = 0 ↔ M = 0 := by rw [hL0]; exact bb_nil
        clear hE hc0 hL0 hbx hkd
        by_cases hc1 : c = 0
        · subst hc1
          by_cases hM0 : M = 0
          · have hLz : L = 0 := hML.2 hM0
            subst hLz
            gi_wp2
            go_roundw
            case rel =>
              refine ⟨j + 1, _, by omega, congrArg (Value.int .i64) (by omega), hv', ?_, hkf, hkp, hB'⟩
              rw [HM1.out, hM0]
              rw [hM0] at hrow' HL
              rw [show 0 * 256 + 0 = 0 from rfl, ← HL.out]
              exact hrow'
            case measure => simp [intOf]
          · have hLp : 0 < L := Nat.pos_of_ne_zero fun h => hM0 (hML.1 h)
            have hLd : decide ((0 : Int) < (L : Int)) = true := decide_eq_true (by omega)
            have hLd2 : decide (0 < L) = true := decide_eq_true hLp
            gi_wp2_with (gi_at_builtin; refine wpListIn_append_own _ rfl _ _ 39 rfl w.heap.size eU8 i0 (.int .u8 0) 1 1 ht hi hz hsize hby rfl (by decide) _ L (bys (bb M)) rfl (hrow'.alloc _) ⟨wr.heap.size, 0, none⟩ 1 1 [.int .u8 0] rfl rfl (cell_one_new _ _ _) (by simp [Value.oneCell']) (by unfold maxLen; omega) (by omega) (by have := hB'.size; simp; omega) ?_; intro v1 w1 hown' hgrow _; obtain ⟨g', cap', rfl⟩ := ownsRow_succ hown'; obtain ⟨hv1, hv2, hr2, hk2, hb2⟩ := hv'.appended (by decide) hrow' hB'.size (by omega) hown' hgrow; have hc1 := hv1.cell; have hf1 := hv1.frozen)
            have hkx := keep_app (T := 22) (B' := w.heap.size + 1) (v := .slice (some ⟨g', 0, none⟩) (L + 1) cap') hbxr (by decide) (by omega) hrow' hgrow
            have hkk := keep_app (T := eU32) (B' := w.heap.size + 1) (v := .slice (some ⟨g', 0, none⟩) (L + 1) cap') hkdr (by decide) hkne hrow' hgrow
            go_roundw
            case rel =>
              have hst := bb_step M 0 (by omega)
              rw [if_neg (by omega)] at hst
              refine ⟨j + 1, _, by omega, congrArg (Value.int .i64) (by omega), hv2, ?_, hkf.trans (hk2.from _), hkp.trans ⟨hkx, hkk⟩, hB'.trans hb2⟩
              rw [HM1.out, hst, List.length_append, bys_append, ← HL.out]
              exact hr2
            case measure => simp [intOf]
        · have hcb : ((c : Int) == 0) = false := beq_eq_false_iff_ne.2 (by omega)
          have hcb2 : (c == 0) = false := beq_eq_false_iff_ne.2 hc1
          gi_wp2_with (gi_at_builtin; refine wpListIn_append_own _ rfl _ _ 39 rfl w.heap.size eU8 i0 (.int .u8 0) 1 1 ht hi hz hsize hby rfl (by decide) _ L (bys (bb M)) rfl (hrow'.alloc _) ⟨wr.heap.size, 0, none⟩ 1 1 [.int .u8 (c : Int)] rfl rfl (cell_one_new _ _ _) (by simp [Value.oneCell']) (by unfold maxLen; omega) (by omega) (by have := hB'.size; simp; omega) ?_; intro v1 w1 hown' hgrow _; obtain ⟨g', cap', rfl⟩ := ownsRow_succ hown'; obtain ⟨hv1, hv2, hr2, hk2, hb2⟩ := hv'.appended (by decide) hrow' hB'.size (by omega) hown' hgrow; have hcc1 := hv1.cell; have hf1 := hv1.frozen)
          have hkx := keep_app (T := 22) (B' := w.heap.size + 1) (v := .slice (some ⟨g', 0, none⟩) (L + 1) cap') hbxr (by decide) (by omega) hrow' hgrow
          have hkk := keep_app (T := eU32) (B' := w.heap.size + 1) (v := .slice (some ⟨g', 0, none⟩) (L + 1) cap') hkdr (by decide) hkne hrow' hgrow
          go_roundw
          case rel =>
            have hst := bb_step M c (by omega)
            rw [if_neg (by omega)] at hst
            refine ⟨j + 1, _, by omega, congrArg (Value.int .i64) (by omega), hv2, ?_, hkf.trans (hk2.from _), hkp.trans ⟨hkx, hkk⟩, hB'.trans hb2⟩
            rw [HM1.out, hst, List.length_append, bys_append, ← HL.out]
            exact hr2
          case measure => simp [intOf]
      · obtain rfl : j = 4 := by omega
        gi_wp2
        refine ⟨hkf, hkp, ?_⟩
        dsimp only
        rw [HVS.out]
        rw [show 256 ^ 4 = B from rfl, Nat.sub_self, Nat.pow_zero, Nat.div_one] at hrow'
        exact ⟨⟨⟨_, hv', hrow', trivial⟩, hkp.1.trans hbx, fun _ => ⟨cs, fr, hkp.2.trans hkd⟩⟩, hB'⟩
  case done =>
    rintro D ys Wd hD rfl ⟨⟨⟨v, hv, hrow, _⟩, hbx, hkd⟩, hB⟩ hK
    rw [VB_bw x _ (Nat.le_refl _) _ (Nat.le_refl _), Nat.sub_self, Nat.pow_zero, Nat.div_one] at hrow
    obtain ⟨av, cv, rfl, _⟩ := SlA.outB (Sl.of_own hrow).any
    have hc := hv.cell
    go_wp2
    refine ⟨by simp, .inl ⟨_, _, rfl, run_takeDeferred hK, ?_⟩⟩
    exact ⟨_, results_tmp rfl _ _ _, _, rfl, ownsRow_putObj hrow _ hK rfl, hB.trans (belowK_b (w := w) (Nat.le_refl _) Wd D _ _ (by have := EB.size; simp at hD; omega) hK rfl rfl)⟩
  case stop =>
    rintro D c pre W _ _ h _
    exact h.elim
end Go.Proofs.YtcabmibcgedhhaaDoor

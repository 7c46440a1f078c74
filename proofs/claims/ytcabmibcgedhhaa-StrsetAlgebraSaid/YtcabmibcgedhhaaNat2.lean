/-
  The walks of the layer nat: Clone, Limbs, Limbs(), Of, Few.
-/
import Derived.Test.YtcabmibcgedhhaaNat1
namespace Go.Proofs.Ytcabmibcgedhhaa
open Go.RowKit Go.Cd

theorem eqlNil40 (w : World) (a : Option Addr) (n c : Nat) : (Go.binOp .eql 40 (.slice a n c) (.slice none 0 0)).run Try.prog w = .ok (.bool a.isNone) w :=
  Lib.run_eql_slice_nil w 40 57 a n c 0 0 Try.underlying40

set_option maxHeartbeats 400000 in
/-- slices.Clone: nil for nil, else a row of its own that reads the same. -/
theorem clone_ok {w : World} {v : Value} {l : List Nat} (h : SlA w v (u32s l)) (hmax : l.length < 1099511627776) :
    Calls Try.prog 80 #[v] w fun e w' => ∃ r, e = .returned r ∧ w'.ownsRow w.heap.size eU32 1 r l.length (u32s l) ∧ Below w.heap.size w w' := by
  obtain ⟨a, cap, rfl, hc, hr⟩ := id h
  have hl := length_u32s l
  rw [hl] at h hc
  rw [hl]
  have hnil := eqlNil40
  cases a with
  | none =>
    have h0 : l = [] ∧ cap = 0 := by
      rcases hr with hr | ⟨b, off, cs, _, fr, ha, _⟩
      · exact ⟨by simpa [u32s] using hr.1, hr.2 rfl⟩
      · cases ha
    obtain ⟨rfl, rfl⟩ := h0
    clear hr h hl
    go_enter Try.func80, Try.ntmps80
    go_wp2
    go_ret
    exact ⟨_, rfl, World.ownsRow_nil _ _ _ _, Below.refl _ _⟩
  | some ad =>
    have H := Lib.hid h
    clear hr h hl
    go_enter Try.func80, Try.ntmps80
    go_wp2_with (at_builtin; refine wpList_append_sl rfl _ _ 40 rfl w.heap.size eU32 _ 4 elemU32 (.slice (some ⟨w.heap.size, 0, none⟩) 0 0) 0 [] rfl (own_empty _ _) _ (u32s l) rfl (H.out.mono (below_new _)) (oneCell_u32s l) (by rw [length_u32s]; unfold maxLen; omega) (by rw [length_u32s]; omega) (by simp) ?_; intro v' w' hown' hgrow)
    rw [length_u32s, Nat.zero_add, List.nil_append] at hown'
    go_wp2
    go_ret
    exact ⟨_, rfl, hown', (below_new _).grown hgrow (by simp) (fun k hk => Nat.le_of_eq (Option.some.inj hk))⟩

/-- What a row of the call's own reads as, and that it is digits. -/
theorem u32s_inj {l m : List Nat} (h : u32s l = u32s m) : l = m := by
  have : (u32s l).map (fun v => match v with | .int _ n => n.toNat | _ => 0) = (u32s m).map (fun v => match v with | .int _ n => n.toNat | _ => 0) := by rw [h]
  simpa [u32s, Function.comp_def] using this

set_option maxHeartbeats 400000 in
theorem limbs_ok {w : World} {v : Value} {l : List Nat} (h : Sl eU32 w v (u32s l)) (hl : ∀ d ∈ l, d < B) (hmax : l.length < 1099511627776) :
    Calls Try.prog 30 #[v] w fun e w' => ∃ r, e = .returned r ∧ NatV w' r (val B l) ∧ Below w.heap.size w w' := by
  go_enter Try.func30, Try.ntmps30
  go_wp2_with fail
  refine (clone_ok (h.any.mono (below_new _)) hmax).mono ?_
  rintro e w1 ⟨r, rfl, hown, hb1⟩
  go_wp2_with fail
  refine (trim_ok (Sl.of_own hown) hl hmax).mono ?_
  rintro e w2 ⟨r2, rfl, hr2, hb2⟩
  obtain ⟨a, n, cap, rfl, hN⟩ := hr2.out
  have hb12 := ext_trans hb1 hb2
  have hk : w2.heap[w.heap.size]? = some (.cells #[.slice none 0 0] 42) := (hb12.block _ (by simp)).trans (heap_at _ _)
  have hR := hN.put (o := 0) (u := .slice a n cap) hk (by decide)
  have hB := below_put (off := 0) (u := .slice a n cap) ((below_new _).trans (hb12.mono (by simp))) (Nat.le_refl _)
  have hcs := cell_put (o := 0) (u := .slice a n cap) hk (by decide)
  obtain ⟨hc, hf⟩ := bcell hb12
  clear hk hown hb1 hb2 hb12 hN hr2 h
  go_wp2
  exact bodyPost_ret (v := .agg #[.slice a n cap]) (by simp [results, Try.results30, go_sem, hcs]) rfl ⟨_, rfl, hR, hB⟩
set_option maxHeartbeats 400000 in
theorem of_ok (x : Nat) (hx : x < 18446744073709551616) (w : World) :
    Calls Try.prog 46 #[.int .u64 x] w fun e w' => ∃ r, e = .returned r ∧ NatV w' r x ∧ Below w.heap.size w w' := by
  have hdl : ∀ d ∈ [x % B, x / B % B], d < B := by
    intro d hd
    simp only [List.mem_cons, List.not_mem_nil, or_false] at hd
    rcases hd with rfl | rfl <;> exact Nat.mod_lt _ (by decide)
  have hv : val B [x % B, x / B % B] = x := by
    simp only [val, B]
    omega
  have HV := Lib.hid hv
  have HD := Lib.hid hdl
  clear hv hdl
  go_enter Try.func46, Try.ntmps46
  go_wp2_with fail
  refine (trim_ok (l := [x % B, x / B % B]) ⟨_, 2, rfl, Nat.le_refl _, .inr ⟨_, 0, _, _, rfl, heap_alloc_new' _ _ _ (by simp), ?_⟩⟩ HD.out (by simp)).mono ?_
  · intro i hi
    match i, hi with
    | 0, _ => simp [u32s, B]
    | 1, _ => simp [u32s, B]; omega
  rintro e w2 ⟨r2, rfl, hr2, hb⟩
  rw [HV.out] at hr2
  obtain ⟨a, n, cap, rfl, hN⟩ := hr2.out
  have hk : w2.heap[w.heap.size]? = some (.cells #[.slice none 0 0] 42) := (hb.block _ (by simp; omega)).trans ((heap_alloc_old _ _ (by simp)).trans (heap_at _ _))
  obtain ⟨hcs, hR⟩ := box_nat hk (by decide) hN
  have hB := below_put (off := 0) (u := .slice a n cap) ((below2 _ _).trans (hb.mono (by simp; omega))) (Nat.le_refl _)
  obtain ⟨hc, hf⟩ := bcell hb
  clear hk hb hN hr2 HV HD
  go_wp2
  exact bodyPost_ret (v := .agg #[.slice a n cap]) (by simp [results, Try.results46, go_sem, hcs]) rfl ⟨_, rfl, hR, hB⟩

set_option maxHeartbeats 400000 in
theorem natLimbs_ok {w : World} {v : Value} {x : Nat} (h : NatV w v x) (hmax : (digs B x).length < 1099511627776) :
    Calls Try.prog 50 #[v] w fun e w' => ∃ r, e = .returned r ∧ w'.ownsRow (w.heap.size + 1) eU32 1 r (digs B x).length (u32s (digs B x)) ∧ Below w.heap.size w w' := by
  obtain ⟨s, rfl, hs⟩ := h
  obtain ⟨a, cap, rfl, _⟩ := id hs
  rw [length_u32s] at *
  have H := Lib.hid hs
  clear hs
  go_enter Try.func50, Try.ntmps50
  go_wp2_with fail
  refine (clone_ok (H.out.any.mono (below_new _)) hmax).mono ?_
  rintro e w1 ⟨r, rfl, hown, hb1⟩
  go_wp2
  go_ret
  exact ⟨_, rfl, by simpa using hown, (below_new _).trans (hb1.mono (by simp))⟩

set_option maxHeartbeats 400000 in
theorem zero_ok {w : World} {v : Value} {x : Nat} (h : NatV w v x) :
    Calls Try.prog 44 #[v] w fun e w' => e = .returned (.bool (x == 0)) ∧ Below w.heap.size w w' := by
  obtain ⟨a, n, cap, rfl, h⟩ := h.out
  have hn := h.len
  have hz : ((n : Int) == 0) = (x == 0) := by
    rw [Bool.eq_iff_iff]; simp [hn, ← digs_eq_nil two_le_B (x := x)]
  have HZ := Lib.hid hz
  clear h hn hz
  go_enter Try.func44, Try.ntmps44
  go_wp2
  go_ret
  exact ⟨ret_bool HZ.out, below_new _⟩


end Go.Proofs.Ytcabmibcgedhhaa

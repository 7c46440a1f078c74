/-
  Limbs once more: the number's limbs lie in a row of its own.
-/
import Derived.Test.YtcabmibcgedhhaaNat5
import Derived.Test.YtcabmibcgedhhaaZeros
namespace Go.Proofs.Ytcabmibcgedhhaa
open Go.RowKit Go.Cd

/-- A number whose limbs lie at or beyond block n. -/
def NatF (n : Nat) (w : World) (v : Value) (x : Nat) : Prop := ∃ a m c, v = .agg #[.slice a m c] ∧ NatV w v x ∧ ∀ p, a = some p → n ≤ p.block

theorem NatF.mono {n : Nat} {w w' : World} {v : Value} {x : Nat} (h : NatF n w v x) (hb : Below w.heap.size w w') : NatF n w' v x := by
  obtain ⟨a, m, c, hv, hN, hf⟩ := h
  exact ⟨a, m, c, hv, hN.mono hb, hf⟩

theorem NatF.put {n : Nat} {w : World} {v u : Value} {x k o : Nat} (h : NatF n w v x) (hk : k < n) : NatF n (w.setCell ⟨k, o, none⟩ u) v x := by
  obtain ⟨a, m, c, rfl, hN, hf⟩ := h
  refine ⟨a, m, c, rfl, ?_, hf⟩
  obtain ⟨s, hs, a', cap, rfl, hc, hr⟩ := hN
  simp only [Value.agg.injEq, Array.mk.injEq, List.cons.injEq, and_true, Value.slice.injEq] at hs
  obtain ⟨rfl, rfl, rfl⟩ := hs
  refine ⟨_, rfl, _, _, rfl, hc, hr.imp id ?_⟩
  rintro ⟨b, off, cs, fr, rfl, hh, hx⟩
  refine ⟨b, off, cs, fr, rfl, ?_, hx⟩
  have := hf _ rfl
  simp only at this
  rw [Below.heap_setCell _ _ _ _ (by simp only; omega)]
  exact hh

theorem NatF.val {n : Nat} {w : World} {v : Value} {x : Nat} (h : NatF n w v x) : NatV w v x := by
  obtain ⟨a, m, c, rfl, hN, hf⟩ := h
  exact hN

theorem trim_own {base n : Nat} {w : World} {v : Value} {l : List Nat} (h : w.ownsRow base eU32 1 v n (u32s l)) (hl : ∀ d ∈ l, d < B) (hmax : l.length < 1099511627776) :
    Calls Try.prog 79 #[v] w fun e w' => ∃ r, e = .returned r ∧ NatF base w' r (val B l) ∧ Below w.heap.size w w' := by
  have hn : n = l.length := by have := h.1; simp at this; omega
  subst hn
  rcases h.2 with ⟨rfl, h0⟩ | ⟨g, cap, cur, rfl, hg, hh, hc, hm, hs, ht⟩
  · obtain rfl : l = [] := List.length_eq_zero_iff.1 h0
    refine (trim_none none 0 w).mono ?_
    rintro e w' ⟨rfl, hb⟩
    exact ⟨_, rfl, ⟨_, _, _, rfl, ⟨_, rfl, by rw [show val B [] = 0 from rfl, digs_zero]; exact .nil _ _ _ _ (fun _ => rfl)⟩, fun p hp => by cases hp⟩, hb⟩
  · have hx : ∀ i (hi : i < l.length), cur[i]? = some (.int .u32 (l[i] : Nat)) := fun i hi => by
      have h1 : (u32s l)[i]? = some (.int .u32 (l[i] : Nat)) := by rw [List.getElem?_eq_getElem (by simpa using hi), u32s_getElem _ _ hi]
      rw [← ht, List.getElem?_take, if_pos (by omega)] at h1
      simpa using h1
    refine (trim_block g 0 l.length cap l w rfl hmax (block_lt hh) hc fun i hi => ?_).mono ?_
    · unfold World.cell?
      rw [hh]
      simpa using hx i hi
    · rintro e w' ⟨n, hn, hz, h0, rfl, hb⟩
      have e1 : digs B (val B l) = l.take n := digs_val_take two_le_B l n hl (fun d hd => by
        obtain ⟨j, hj, rfl⟩ := List.mem_iff_getElem.1 hd
        rw [List.getElem_drop]
        exact hz _ (by omega) _) hn h0
      refine ⟨_, rfl, ⟨_, _, _, rfl, ⟨_, rfl, ?_⟩, fun p hp => by cases hp; exact hg⟩, hb⟩
      rw [e1]
      have hlen : (u32s (l.take n)).length = n := by simp; omega
      refine ⟨_, n, by rw [hlen], by rw [hlen]; exact Nat.le_refl _, .inr ⟨g, 0, cur, (0, 0), rfl, by rw [hb.block g (block_lt hh)]; exact hh, fun i hi => ?_⟩⟩
      rw [hlen] at hi
      rw [Nat.zero_add, hx i (by omega)]
      simp [u32s]

set_option maxHeartbeats 400000 in
theorem limbs_fresh {w : World} {v : Value} {l : List Nat} (h : Sl eU32 w v (u32s l)) (hl : ∀ d ∈ l, d < B) (hmax : l.length < 1099511627776) :
    Calls Try.prog 30 #[v] w fun e w' => ∃ r, e = .returned r ∧ NatF w.heap.size w' r (val B l) ∧ Below w.heap.size w w' := by
  go_enter Try.func30, Try.ntmps30
  go_wp2_with fail
  refine (clone_ok (h.any.mono (below_new _)) hmax).mono ?_
  rintro e w1 ⟨r, rfl, hown, hb1⟩
  go_wp2_with fail
  refine (trim_own hown hl hmax).mono ?_
  rintro e w2 ⟨r2, rfl, hr2, hb2⟩
  obtain ⟨a, n, cap, rfl, hN, hf⟩ := hr2
  have hb12 := ext_trans hb1 hb2
  have hk : w2.heap[w.heap.size]? = some (.cells #[.slice none 0 0] 42) := (hb12.block _ (by simp)).trans (heap_at _ _)
  have hR := hN.put (o := 0) (u := .slice a n cap) hk (by decide)
  have hB := below_put (off := 0) (u := .slice a n cap) ((below_new _).trans (hb12.mono (by simp))) (Nat.le_refl _)
  have hcs := cell_put (o := 0) (u := .slice a n cap) hk (by decide)
  have hF : ∀ p, a = some p → w.heap.size ≤ p.block := fun p hp => Nat.le_trans (by simp) (hf p hp)
  have HF := Lib.hid hF
  obtain ⟨hc, hfz⟩ := bcell hb12
  clear hk hown hb1 hb2 hb12 hN h hF hf
  go_wp2
  exact bodyPost_ret (v := .agg #[.slice a n cap]) (by simp [results, Try.results30, go_sem, hcs]) rfl ⟨_, rfl, ⟨_, _, _, rfl, hR, HF.out⟩, hB⟩

end Go.Proofs.Ytcabmibcgedhhaa

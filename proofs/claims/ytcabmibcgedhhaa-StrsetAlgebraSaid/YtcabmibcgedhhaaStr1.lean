/-
  Rows of texts: what they read as; cuts of them; sets of texts. No condition.
-/
import Derived.Test.YtcabmibcgedhhaaBase
import Derived.Test.YtcabmibcgedhhaaSeg
import Derived.Test.YtcabmibcgedhhaaStrO
import Derived.Laws.IdiomStrings
namespace Go.Cd
open Go.RowKit

abbrev eStr : TypeId := 9
abbrev tSet : TypeId := 75
def sv (t : Txt) : ByteArray := ⟨t.toArray⟩
@[simp] theorem sv_data (t : Txt) : (sv t).data.toList = t := by simp [sv]
theorem sv_toList (t : Txt) : (sv t).toList = t := by rw [ByteArray.toList_eq]; simp [sv]
theorem sv_of (s : ByteArray) : sv s.data.toList = s := by
  apply ByteArray.ext; simp [sv]
theorem sv_inj {a b : Txt} (h : sv a = sv b) : a = b := by have := congrArg (fun s : ByteArray => s.data.toList) h; simpa using this
theorem size_sv (t : Txt) : (sv t).size = t.length := by simp [sv, ByteArray.size]
/-- texts as values -/
def txs (l : List Txt) : List Value := l.map fun t => Value.string (sv t)
@[simp] theorem length_txs (l : List Txt) : (txs l).length = l.length := by simp [txs]
theorem txs_getElem (l : List Txt) (i : Nat) (h : i < l.length) : (txs l)[i]'(by simpa using h) = .string (sv l[i]) := by simp [txs]
theorem txs_append (l m : List Txt) : txs (l ++ m) = txs l ++ txs m := by simp [txs]
theorem txs_take (l : List Txt) (k : Nat) : txs (l.take k) = (txs l).take k := by simp [txs, List.map_take]
theorem txs_drop (l : List Txt) (k : Nat) : txs (l.drop k) = (txs l).drop k := by simp [txs, List.map_drop]
theorem oneCell_txs (l : List Txt) : ∀ u ∈ txs l, u.oneCell' = true := by
  intro u hu; obtain ⟨d, _, rfl⟩ := List.mem_map.1 hu; rfl
theorem elemStr : Elem Go.Proofs.Try.prog 71 eStr (.string ⟨#[]⟩) 16 := ⟨rfl, Go.Proofs.Try.underlying71, info_parts (by kernel_rfl)⟩

theorem SlA.outT {w : World} {v : Value} {l : List Txt} (h : SlA w v (txs l)) : ∃ a cap, v = .slice a l.length cap ∧ l.length ≤ cap ∧
    ∀ i (hi : i < l.length), ∃ b off, a = some ⟨b, off, none⟩ ∧ b < w.heap.size ∧ w.cell? ⟨b, off + i, none⟩ = some (.string (sv l[i])) := by
  obtain ⟨a, cap, rfl, hc, hx⟩ := SlA.out h
  have el : (txs l).length = l.length := length_txs _
  refine ⟨a, cap, by rw [el], by omega, fun i hi => ?_⟩
  obtain ⟨b, off, h1, h2, h3⟩ := hx i (by omega)
  exact ⟨b, off, h1, h2, by rw [h3, txs_getElem _ _ hi]⟩

/-- A cut of a row: from its place k on. -/
theorem SlA.from {w : World} {b off n cap k : Nat} {xs : List Value} (h : SlA w (.slice (some ⟨b, off, none⟩) n cap) xs) (hk : k ≤ xs.length) :
    SlA w (.slice (some ⟨b, off + k, none⟩) (n - k) (cap - k)) (xs.drop k) := by
  obtain ⟨a', cap', hv, hc, hx⟩ := h
  simp only [Value.slice.injEq] at hv
  obtain ⟨rfl, rfl, rfl⟩ := hv
  refine ⟨_, _, by rw [List.length_drop], by rw [List.length_drop]; omega, ?_⟩
  rcases hx with ⟨rfl, h0⟩ | ⟨b', off', cs, e, fr, ha, hh, hx⟩
  · exact .inl ⟨by simp, fun e => by cases e⟩
  · cases ha
    refine .inr ⟨b, off + k, cs, e, fr, rfl, hh, fun i hi => ?_⟩
    rw [List.length_drop] at hi
    rw [List.getElem_drop, Nat.add_assoc]
    exact hx (k + i) (by omega)
/-- A cut of a row: its first k places. -/
theorem SlA.upto {w : World} {a : Option Addr} {n cap k : Nat} {xs : List Value} (h : SlA w (.slice a n cap) xs) (hk : k ≤ xs.length) : SlA w (.slice a k cap) (xs.take k) := by
  obtain ⟨a', cap', hv, hc, hx⟩ := h
  simp only [Value.slice.injEq] at hv
  obtain ⟨rfl, rfl, rfl⟩ := hv
  have hl : (xs.take k).length = k := by rw [List.length_take]; omega
  refine ⟨_, _, by rw [hl], by rw [hl]; omega, ?_⟩
  rcases hx with ⟨rfl, h0⟩ | ⟨b', off', cs, e, fr, ha, hh, hx⟩
  · exact .inl ⟨by simp, h0⟩
  · refine .inr ⟨b', off', cs, e, fr, ha, hh, fun i hi => ?_⟩
    rw [hl] at hi
    rw [List.getElem_take]
    exact hx i (by omega)

/-- A row of texts none of which a string shares. -/
def Sl0 (w : World) (v : Value) (xs : List Value) : Prop :=
  ∃ a cap, v = .slice a xs.length cap ∧ xs.length ≤ cap ∧ (xs = [] ∧ (a = none → cap = 0) ∨ ∃ b off cs, a = some ⟨b, off, none⟩ ∧ w.heap[b]? = some (.cells cs eStr (0, 0)) ∧ ∀ i (h : i < xs.length), cs[off + i]? = some xs[i])
theorem Sl0.sl {w : World} {v : Value} {xs : List Value} (h : Sl0 w v xs) : Sl eStr w v xs := by
  obtain ⟨a, cap, hv, hc, h⟩ := h
  exact ⟨a, cap, hv, hc, h.imp id fun ⟨b, off, cs, r⟩ => ⟨b, off, cs, (0, 0), r⟩⟩
theorem Sl0.any {w : World} {v : Value} {xs : List Value} (h : Sl0 w v xs) : SlA w v xs := h.sl.any
theorem Sl0.nil (w : World) (a : Option Addr) (cap : Nat) (h : a = none → cap = 0) : Sl0 w (.slice a 0 cap) [] := ⟨a, cap, rfl, Nat.zero_le _, .inl ⟨rfl, h⟩⟩
theorem Sl0.of_own {w : World} {base : Nat} {v : Value} {n : Nat} {xs : List Value} (h : w.ownsRow base eStr 1 v n xs) : Sl0 w v xs := by
  obtain ⟨h1, h2⟩ := h
  simp only [Nat.mul_one] at h1 h2
  rcases h2 with ⟨rfl, rfl⟩ | ⟨g, cap, cur, rfl, hg, hh, hc, hm, hs, ht⟩
  · obtain rfl := List.length_eq_zero_iff.1 h1
    exact .nil _ _ _ (fun _ => rfl)
  · refine ⟨_, cap, by rw [h1], by rw [h1]; exact hc, .inr ⟨g, 0, cur, rfl, hh, fun i hi => ?_⟩⟩
    subst ht
    rw [List.length_take] at hi
    rw [Nat.zero_add, List.getElem_take, ← Array.getElem?_toList]
    exact List.getElem?_eq_getElem _
theorem Sl0.mono {w w' : World} {v : Value} {xs : List Value} (h : Sl0 w v xs) (hb : Below w.heap.size w w') : Sl0 w' v xs := by
  obtain ⟨a, cap, hv, hc, h⟩ := h
  refine ⟨a, cap, hv, hc, h.imp id ?_⟩
  rintro ⟨b, off, cs, ha, hh, hx⟩
  exact ⟨b, off, cs, ha, by rw [hb.block b (block_lt hh)]; exact hh, hx⟩
theorem Sl0.put {w : World} {v : Value} {xs : List Value} (h : Sl0 w v xs) {k o : Nat} {u : Value} {cs : Array Value} {T : TypeId} {fr : Nat × Nat} (hk : w.heap[k]? = some (.cells cs T fr)) (hT : T ≠ eStr) : Sl0 (w.setCell ⟨k, o, none⟩ u) v xs := by
  obtain ⟨a, cap, hv, hc, h⟩ := h
  refine ⟨a, cap, hv, hc, h.imp id ?_⟩
  rintro ⟨b, off, cs', ha, hh, hx⟩
  refine ⟨b, off, cs', ha, ?_, hx⟩
  rw [Below.heap_setCell _ _ _ _ (fun e' => ?_)]
  · exact hh
  · simp only at e'
    subst e'
    rw [hk] at hh
    cases hh
    exact hT rfl
theorem Sl0.upto {w : World} {a : Option Addr} {n cap k : Nat} {xs : List Value} (h : Sl0 w (.slice a n cap) xs) (hk : k ≤ xs.length) : Sl0 w (.slice a k cap) (xs.take k) := by
  obtain ⟨a', cap', hv, hc, hx⟩ := h
  simp only [Value.slice.injEq] at hv
  obtain ⟨rfl, rfl, rfl⟩ := hv
  have hl : (xs.take k).length = k := by rw [List.length_take]; omega
  refine ⟨_, _, by rw [hl], by rw [hl]; omega, ?_⟩
  rcases hx with ⟨rfl, h0⟩ | ⟨b', off', cs, ha, hh, hx⟩
  · exact .inl ⟨by simp, h0⟩
  · refine .inr ⟨b', off', cs, ha, hh, fun i hi => ?_⟩
    rw [hl] at hi
    rw [List.getElem_take]
    exact hx i (by omega)
/-- A row with something in it: its cells, none of them frozen. -/
theorem Sl0.holds {w : World} {v : Value} {l : List Txt} (h : Sl0 w v (txs l)) : (l = [] ∧ ∃ a cap, v = .slice a 0 cap) ∨ ∃ b off cap, v = .slice (some ⟨b, off, none⟩) l.length cap ∧ b < w.heap.size ∧
    ∀ j (hj : j < l.length), w.cell? ⟨b, off + j, none⟩ = some (.string (sv l[j])) ∧ w.frozen? ⟨b, off + j, none⟩ = false := by
  obtain ⟨a, cap, rfl, hc, h⟩ := h
  rcases h with ⟨h1, h0⟩ | ⟨b, off, cs, rfl, hh, hx⟩
  · have : l = [] := by simpa [txs] using h1
    subst this
    exact .inl ⟨rfl, a, cap, rfl⟩
  · refine .inr ⟨b, off, cap, by rw [length_txs], block_lt hh, fun j hj => ⟨?_, ?_⟩⟩
    · have := hx j (by rw [length_txs]; exact hj)
      rw [txs_getElem _ _ hj] at this
      unfold World.cell?
      rw [hh]
      simpa using this
    · unfold World.frozen?
      rw [hh]
      simp

/-- A value of type strset.Set holds these. -/
def SetV (w : World) (v : Value) (l : List Txt) : Prop := ∃ s, v = .agg #[s] ∧ Sl0 w s (txs l)
theorem SetV.mono {w w' : World} {v : Value} {l : List Txt} (h : SetV w v l) (hb : Below w.heap.size w w') : SetV w' v l := by
  obtain ⟨s, hv, hs⟩ := h
  exact ⟨s, hv, hs.mono hb⟩
theorem SetV.out {w : World} {v : Value} {l : List Txt} (h : SetV w v l) : ∃ a n cap, v = .agg #[.slice a n cap] ∧ Sl0 w (.slice a n cap) (txs l) ∧ n = l.length := by
  obtain ⟨s, rfl, hs⟩ := h
  obtain ⟨a, cap, rfl, _⟩ := SlA.outT hs.any
  exact ⟨a, _, cap, rfl, hs, rfl⟩
/-- A store into a block leaves a row that lies in a block of another element type. -/
theorem SlA.put {w : World} {v : Value} {xs : List Value} (h : SlA w v xs) {k o : Nat} {u : Value} (hk : w.heap.size ≤ k ∨ ∀ b, v.ownBlock = some b → b ≠ k) : SlA (w.setCell ⟨k, o, none⟩ u) v xs := by
  obtain ⟨a, cap, hv, hc, h⟩ := h
  refine ⟨a, cap, hv, hc, h.imp id ?_⟩
  rintro ⟨b, off, cs, e, fr, ha, hh, hx⟩
  refine ⟨b, off, cs, e, fr, ha, ?_, hx⟩
  rw [Below.heap_setCell _ _ _ _ (fun e' => ?_)]
  · exact hh
  · subst hv ha
    rcases hk with hk | hk
    · have := block_lt hh; simp only at e'; omega
    · exact hk b rfl e'
end Go.Cd

/-
  Rows of bytes: what they read as, their text; slices.Reverse and slices.Clone at bytes. No condition.
-/
import Derived.Test.YtcabmibcgedhhaaDoorBase
import Derived.Test.YtcabmibcgedhhaaDoorSeg
import Derived.Laws.IdiomStrings
namespace Go.Cd
open Go.RowKit

abbrev eU8 : TypeId := 5
/-- bytes as values -/
def bys (l : List Nat) : List Value := l.map fun d : Nat => Value.int .u8 (d : Int)
@[simp] theorem length_bys (l : List Nat) : (bys l).length = l.length := by simp [bys]
theorem bys_getElem (l : List Nat) (i : Nat) (h : i < l.length) : (bys l)[i]'(by simpa using h) = .int .u8 (l[i] : Nat) := by simp [bys]
theorem bys_append (l m : List Nat) : bys (l ++ m) = bys l ++ bys m := by simp [bys]
theorem bys_set (l : List Nat) (i d : Nat) : (bys l).set i (.int .u8 d) = bys (l.set i d) := by simp [bys, List.map_set]
theorem oneCell_bys (l : List Nat) : ∀ u ∈ bys l, u.oneCell' = true := by
  intro u hu; obtain ⟨d, _, rfl⟩ := List.mem_map.1 hu; rfl
theorem elemU8 : Elem Go.Proofs.Tryd.prog 39 eU8 (.int .u8 0) 1 := ⟨rfl, Go.Proofs.Tryd.underlying39, info_parts (by kernel_rfl)⟩

/-- The text of bytes. -/
def str (l : List Nat) : ByteArray := ⟨(l.map UInt8.ofNat).toArray⟩

theorem toNat_ofNat {d : Nat} (h : d < 256) : (UInt8.ofNat d).toNat = d := by simp [UInt8.toNat_ofNat]; omega

theorem SlA.outB {w : World} {v : Value} {L : List Nat} (h : SlA w v (bys L)) : ∃ a cap, v = .slice a L.length cap ∧ L.length ≤ cap ∧
    ∀ i (hi : i < L.length), ∃ b off, a = some ⟨b, off, none⟩ ∧ b < w.heap.size ∧ w.cell? ⟨b, off + i, none⟩ = some (.int .u8 (L[i] : Nat)) := by
  obtain ⟨a, cap, rfl, hc, hx⟩ := SlA.out h
  have el : (bys L).length = L.length := length_bys _
  refine ⟨a, cap, by rw [el], by omega, fun i hi => ?_⟩
  obtain ⟨b, off, h1, h2, h3⟩ := hx i (by omega)
  exact ⟨b, off, h1, h2, by rw [h3, bys_getElem _ _ hi]⟩

/-- 'string(b)'. -/
theorem conv_str {w : World} {a : Option Addr} {n cap : Nat} {L : List Nat} (h : SlA w (.slice a n cap) (bys L)) (hL : ∀ d ∈ L, d < 256) :
    (convert 39 9 (.slice a n cap)).run Go.Proofs.Tryd.prog w = .ok (.string (str L)) w := by
  rcases h.cases with ⟨hn, a', cap', hv, _⟩ | ⟨b, off, cap', hv, _, hlen, _, hx⟩
  · have hL0 : L = [] := by simpa [bys] using hn
    subst hL0
    simp only [Value.slice.injEq] at hv
    obtain ⟨rfl, rfl, rfl⟩ := hv
    cases a with
    | none =>
      rw [run_convert_bytes_string w _ _ 5 none 0 cap Go.Proofs.Tryd.underlying39 Go.Proofs.Tryd.underlying5 Go.Proofs.Tryd.underlying9]
      go_simp
      rfl
    | some ad => exact run_convert_bytes_back w _ _ 5 ad cap [] Go.Proofs.Tryd.underlying39 Go.Proofs.Tryd.underlying5 Go.Proofs.Tryd.underlying9 (fun j hj => absurd hj (by simp))
  · simp only [Value.slice.injEq] at hv
    obtain ⟨rfl, rfl, rfl⟩ := hv
    have hc := run_convert_bytes_back w 39 9 5 ⟨b, off, none⟩ cap (L.map UInt8.ofNat) Go.Proofs.Tryd.underlying39 Go.Proofs.Tryd.underlying5 Go.Proofs.Tryd.underlying9 (fun j hj => by
      have hj' : j < L.length := by simpa using hj
      have h1 := hx j (by simpa using hj')
      rw [bys_getElem _ _ hj'] at h1
      rw [List.getElem_map, toNat_ofNat (hL _ (List.getElem_mem _))]
      unfold Addr.add
      by_cases hj0 : j = 0
      · subst hj0; simpa using h1
      · rw [if_neg hj0]; exact h1)
    simpa [str] using hc
end Go.Cd

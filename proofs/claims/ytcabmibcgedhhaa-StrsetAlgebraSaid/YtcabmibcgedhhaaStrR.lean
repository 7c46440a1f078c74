/-
  From what a row's reading gives of a slice of strings to what the walks ask. No condition.
-/
import Derived.Test.YtcabmibcgedhhaaStr1
import Derived.Test.YtcabmibcgedhhaaRow
import Derived.SliceStrings
namespace Go.Cd
open Go.RowKit

theorem strs_of_row {w : World} {a : Option Addr} {len cap : Nat} {zs : List ByteArray}
    (h : (a = none ∧ len = 0 ∧ cap = 0 ∧ zs = []) ∨ ∃ x, a = some x ∧ len ≤ cap ∧ cap ≤ maxLen ∧ zs.length = cap ∧ ∀ i, i < zs.length → w.cell? (x.add i) = some (.string (zs.getD i ByteArray.empty))) :
    ∃ l : List Txt, SlA w (.slice a len cap) (txs l) ∧ l.length = len := by
  rcases h with ⟨rfl, rfl, rfl, rfl⟩ | ⟨x, rfl, hlc, hcm, hz, hcell⟩
  · exact ⟨[], ⟨none, 0, rfl, Nat.le_refl _, .inl ⟨rfl, fun _ => rfl⟩⟩, rfl⟩
  · have hlen : ((zs.take len).map fun s => s.data.toList).length = len := by simp; omega
    refine ⟨(zs.take len).map fun s => s.data.toList, ⟨some x, cap, by rw [length_txs, hlen], by rw [length_txs, hlen]; exact hlc, ?_⟩, hlen⟩
    by_cases h0 : len = 0
    · subst h0; exact .inl ⟨by simp [txs], fun e => by cases e⟩
    · right
      have h1 := hcell 0 (by omega)
      have e0 : x.add 0 = x := by unfold Addr.add; simp
      rw [e0] at h1
      unfold World.cell? at h1
      split at h1
      · rename_i c e f hb
        have hs : x.spot.isSome = false := by
          cases hs : x.spot.isSome with
          | false => rfl
          | true => simp [hs] at h1
        have hsp : x = ⟨x.block, x.off, none⟩ := by
          cases x with
          | mk b o s => cases s with
            | none => rfl
            | some s => simp at hs
        refine ⟨x.block, x.off, c, e, f, by rw [← hsp], hb, fun i hi => ?_⟩
        rw [length_txs, hlen] at hi
        have h2 := hcell i (by omega)
        rw [hsp] at h2
        unfold World.cell? Addr.add at h2
        have hg : zs.getD i ByteArray.empty = zs[i]'(by omega) := by rw [List.getD_eq_getElem?_getD, List.getElem?_eq_getElem (by omega)]; rfl
        rw [hg] at h2
        have hr : (txs ((zs.take len).map fun s => s.data.toList))[i]'(by rw [length_txs, hlen]; exact hi) = .string (zs[i]'(by omega)) := by simp [txs, sv_of]
        rw [hr]
        by_cases hi0 : i = 0
        · subst hi0
          simp only [if_true] at h2
          rw [hb] at h2
          simpa using h2
        · rw [if_neg hi0] at h2
          simp only at h2
          rw [hb] at h2
          simpa using h2
      · simp at h1
end Go.Cd

/-
  From what a row's reading gives of a slice to what the walks ask. No condition.
-/
import Derived.Test.YtcabmibcgedhhaaBase
import Derived.OpenShut
import Derived.DataShut
namespace Go.Cd
open Go.RowKit

theorem sl_of_row {k : IntKind} {w : World} {a : Option Addr} {len cap : Nat} {zs : List Int}
    (h : (a = none ∧ len = 0 ∧ cap = 0 ∧ zs = []) ∨ ∃ x, a = some x ∧ len ≤ cap ∧ cap ≤ maxLen ∧ zs.length = cap ∧ (∀ i, i < zs.length → w.cell? (x.add i) = some (.int k (zs.getD i 0))) ∧ ∀ n ∈ zs, (Lit.int k n).wf = true) :
    SlA w (.slice a len cap) ((zs.take len).map (Value.int k)) ∧ len ≤ maxLen ∧ (zs.take len).length = len ∧ ∀ n ∈ zs, (Lit.int k n).wf = true := by
  rcases h with ⟨rfl, rfl, rfl, rfl⟩ | ⟨x, rfl, hlc, hcm, hz, hcell, hwf⟩
  · exact ⟨⟨none, 0, rfl, Nat.le_refl _, .inl ⟨rfl, fun _ => rfl⟩⟩, Nat.zero_le _, rfl, by simp⟩
  · have hlen : ((zs.take len).map (Value.int k)).length = len := by simp; omega
    refine ⟨⟨some x, cap, by rw [hlen], by rw [hlen]; exact hlc, ?_⟩, by omega, by simp; omega, hwf⟩
    by_cases h0 : len = 0
    · subst h0; exact .inl ⟨by simp, fun e => by cases e⟩
    · right
      have h1 := hcell 0 (by omega)
      have e0 : x.add 0 = x := by unfold Addr.add; simp
      rw [e0] at h1
      unfold World.cell? at h1
      split at h1
      · rename_i c e f hb
        have hs : x.spot.isSome = false := by
          cases hs : x.spot.isSome with
          | false => rfl
          | true => simp [hs] at h1
        have hsp : x = ⟨x.block, x.off, none⟩ := by
          cases x with
          | mk b o s => cases s with
            | none => rfl
            | some s => simp at hs
        refine ⟨x.block, x.off, c, e, f, by rw [← hsp], hb, fun i hi => ?_⟩
        rw [hlen] at hi
        have h2 := hcell i (by omega)
        rw [hsp] at h2
        unfold World.cell? Addr.add at h2
        have hg : zs.getD i 0 = zs[i]'(by omega) := by rw [List.getD_eq_getElem?_getD, List.getElem?_eq_getElem (by omega)]; rfl
        rw [hg] at h2
        have hr : ((zs.take len).map (Value.int k))[i]'(by rw [hlen]; exact hi) = .int k (zs[i]'(by omega)) := by simp
        rw [hr]
        by_cases hi0 : i = 0
        · subst hi0
          simp only [if_true] at h2
          rw [hb] at h2
          simpa using h2
        · rw [if_neg hi0] at h2
          simp only at h2
          rw [hb] at h2
          simpa using h2
      · simp at h1

theorem u32_of_row {w : World} {a : Option Addr} {len cap : Nat} {zs : List Int}
    (h : (a = none ∧ len = 0 ∧ cap = 0 ∧ zs = []) ∨ ∃ x, a = some x ∧ len ≤ cap ∧ cap ≤ maxLen ∧ zs.length = cap ∧ (∀ i, i < zs.length → w.cell? (x.add i) = some (.int .u32 (zs.getD i 0))) ∧ ∀ n ∈ zs, (Lit.int .u32 n).wf = true) :
    ∃ l : List Nat, SlA w (.slice a len cap) (u32s l) ∧ l.length = len ∧ len ≤ maxLen ∧ ∀ d ∈ l, d < B := by
  obtain ⟨h1, h2, h3, h4⟩ := sl_of_row h
  have hb : ∀ n ∈ zs, 0 ≤ n ∧ n < 4294967296 := fun n hn => by
    have := h4 n hn
    simp [Lit.wf, IntKind.min, IntKind.max, IntKind.bits, IntKind.signed] at this
    omega
  have e : (zs.take len).map (Value.int .u32) = u32s ((zs.take len).map Int.toNat) := by
    unfold u32s
    rw [List.map_map]
    refine List.map_congr_left fun n hn => ?_
    have := hb n (List.mem_of_mem_take hn)
    show Value.int .u32 n = Value.int .u32 ((n.toNat : Nat) : Int)
    rw [Int.toNat_of_nonneg this.1]
  rw [e] at h1
  refine ⟨_, h1, by simpa using h3, h2, fun d hd => ?_⟩
  obtain ⟨n, hn, rfl⟩ := List.mem_map.1 hd
  have := hb n (List.mem_of_mem_take hn)
  unfold B; omega

theorem i64_of_row {w : World} {a : Option Addr} {len cap : Nat} {zs : List Int}
    (h : (a = none ∧ len = 0 ∧ cap = 0 ∧ zs = []) ∨ ∃ x, a = some x ∧ len ≤ cap ∧ cap ≤ maxLen ∧ zs.length = cap ∧ (∀ i, i < zs.length → w.cell? (x.add i) = some (.int .i64 (zs.getD i 0))) ∧ ∀ n ∈ zs, (Lit.int .i64 n).wf = true) :
    ∃ l : List Int, SlA w (.slice a len cap) (i64s l) ∧ l.length = len ∧ len ≤ maxLen ∧ ∀ d ∈ l, -9223372036854775808 ≤ d ∧ d ≤ 9223372036854775807 := by
  obtain ⟨h1, h2, h3, h4⟩ := sl_of_row h
  refine ⟨_, h1, h3, h2, fun n hn => ?_⟩
  have := h4 n (List.mem_of_mem_take hn)
  simp [Lit.wf, IntKind.min, IntKind.max, IntKind.bits, IntKind.signed] at this
  omega

theorem u64_of_wf {n : Int} (h : (Lit.int .u64 n).wf = true) : ∃ x : Nat, n = x ∧ x < 18446744073709551616 := by
  obtain ⟨h1, h2⟩ := (Go.Lit.wf_int_iff _ _).1 h
  have e1 : IntKind.min .u64 = 0 := by decide
  have e2 : IntKind.max .u64 = 18446744073709551615 := by decide
  exact ⟨n.toNat, by omega, by omega⟩

theorem i64_of_wf {n : Int} (h : (Lit.int .i64 n).wf = true) : -9223372036854775808 ≤ n ∧ n ≤ 9223372036854775807 := by
  obtain ⟨h1, h2⟩ := (Go.Lit.wf_int_iff _ _).1 h
  have e1 : IntKind.min .i64 = -9223372036854775808 := by decide
  have e2 : IntKind.max .i64 = 9223372036854775807 := by decide
  exact ⟨by omega, by omega⟩

end Go.Cd

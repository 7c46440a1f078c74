/-
  The walks of slices.SortFunc and Compact at rows of the call's own; strset.Of.
-/
import Derived.Test.YtcabmibcgedhhaaStr2
import Derived.Shelf.SlSortCmp.NoneTotal
namespace Go.Proofs.Ytcabmibcgedhhaa
open Go.RowKit Go.Cd Go.Sort Go.Lib

def rising (l : List Txt) : Prop := ∀ i j, i < j → j < l.toArray.size → ¬ l.toArray[j]! < l.toArray[i]!

theorem own_shape {w : World} {base n : Nat} {v : Value} {l : List Txt} (h : w.ownsRow base eStr 1 v n (txs l)) : (v = .slice none 0 0 ∧ l = [] ∧ n = 0) ∨ ∃ g cap, v = .slice (some ⟨g, 0, none⟩) n cap := by
  rcases h.2 with ⟨h2, h3⟩ | ⟨g', cap', cur, hv, _⟩
  · have := h.1
    rw [length_txs, h3] at this
    exact .inl ⟨h2, List.length_eq_zero_iff.1 (by omega), h3⟩
  · exact .inr ⟨g', cap', hv⟩

theorem sortS_ok {w : World} {base n : Nat} {v : Value} {l : List Txt} (h : w.ownsRow base eStr 1 v n (txs l)) (hmax : n < 4611686018427387904) :
    Calls Try.prog 92 #[v, .func (.func 93) #[] #[]] w fun e w' => e = .returned (.tuple #[]) ∧ ∃ l', (∀ x, x ∈ l' ↔ x ∈ l) ∧ rising l' ∧ w'.ownsRow base eStr 1 v n (txs l') ∧ Below base w w' := by
  rcases own_shape h with ⟨rfl, rfl, rfl⟩ | ⟨g, cap, rfl⟩
  · refine (AnyF.slices_SortFunc_none (P := Try.prog) (ρ := Try.sortF92_ren) { Try.sortF92 with } none 0 (.func (.func 93) #[] #[]) w).mono ?_
    rintro e w' ⟨rfl, rfl⟩
    exact ⟨rfl, [], fun _ => Iff.rfl, fun i j _ hj => absurd hj (by simp), h, Below.refl _ _⟩
  · obtain ⟨hH, hg, hn, hc, hm, hb⟩ := holds_own h
    have eg : ∀ args w, (callFunc 93 args).run Try.prog w = .ok (.enter 93 args) w := enters_of Try.func93 (by kernel_rfl) rfl
    have hd : l.toArray.size = n := by simpa using hn
    have hcon := Go.Proofs.Any.slices_SortFunc Go.Proofs.Try.sortF92 encStr (fun _ => rfl) compareBytes swo_cb 93 #[] g 0 cap l.toArray w eg (cmpReads g 0 l.toArray.size w).lays hH hg (by omega)
    rw [hd] at hcon
    refine hcon.mono ?_
    rintro e w' ⟨rfl, d', m, os, hp, hs, rfl⟩
    obtain ⟨hp1, hp2, hp3⟩ := hp
    have hds : d'.size = n := by rw [hp1, hd]
    obtain ⟨ho, hbl⟩ := own_laid (q := m) (os := os) h hds
    refine ⟨rfl, d'.toList, fun x => ?_, fun i j hij hj => ?_, ho, hbl⟩
    · have e1 : (d'.extract 0 n).toList = d'.toList := by rw [← hds]; simp
      have e2 : (l.toArray.extract 0 n).toList = l := by rw [← hd]; simp
      rw [e1, e2] at hp3
      exact hp3.mem_iff
    · have := hs i j (Nat.zero_le _) hij (by simpa [hds] using hj)
      have h2 : ¬ compareBytes d'[j]! d'[i]! < 0 := of_decide_eq_false this
      rw [cb_lt] at h2
      simpa using h2

theorem compactS_ok {w : World} {base n : Nat} {v : Value} {l : List Txt} (h : w.ownsRow base eStr 1 v n (txs l)) (hmax : n < 4611686018427387904) (hr : rising l) :
    Calls Try.prog 94 #[v] w fun e w' => ∃ r m, e = .returned r ∧ Sl0 w' r (txs m) ∧ inc m ∧ (∀ x, x ∈ m ↔ x ∈ l) ∧ m.length ≤ n ∧ Below base w w' := by
  rcases own_shape h with ⟨rfl, rfl, rfl⟩ | ⟨g, cap, rfl⟩
  · refine (Go.Proofs.Try.slices_Compact_string_empty none 0 w).mono ?_
    rintro e w' ⟨rfl, rfl⟩
    exact ⟨_, [], rfl, Sl0.nil _ _ _ (fun _ => rfl), by simp [inc], fun _ => Iff.rfl, Nat.le_refl _, Below.refl _ _⟩
  · obtain ⟨hH, hg, hn, hc, hm, hb⟩ := holds_own h
    obtain ⟨hi, hmem⟩ := compact_upto l.toArray hr l.toArray.size (Nat.le_refl _)
    have hcl : (Lib.compact l).length ≤ l.length := by
      unfold Lib.compact compactUpTo
      rw [List.length_map]
      have := List.length_filter_le (keeps l.toArray) (List.range l.length)
      simpa using this
    have hcon := Go.Proofs.Try.slices_Compact_string g 0 cap l w hH (by omega) (by omega)
    rw [hn] at hcon
    refine hcon.mono ?_
    rintro e w' ⟨rfl, q, rfl⟩
    have hD : (Lib.compact l ++ List.replicate (n - (Lib.compact l).length) []).toArray.size = n := by simp; omega
    obtain ⟨ho, hbl⟩ := own_laid (q := q) (os := #[]) h hD
    rw [grow_empty] at ho hbl
    have hs := Sl0.upto (k := (Lib.compact l).length) (Sl0.of_own ho) (by rw [length_txs]; simp)
    rw [← txs_take, List.take_append_of_le_length (by simp), List.take_length] at hs
    refine ⟨_, Lib.compact l, rfl, hs, ?_, fun x => ?_, by omega, hbl⟩
    · have : Lib.compact l = compactUpTo l.toArray l.toArray.size := by unfold Lib.compact; simp
      rw [this]; exact hi
    · have : Lib.compact l = compactUpTo l.toArray l.toArray.size := by unfold Lib.compact; simp
      rw [this, hmem]
      constructor
      · rintro ⟨j, hj, rfl⟩
        rw [getElem!_pos l.toArray j hj]
        exact Array.mem_toList_iff.2 (Array.getElem_mem hj)
      · intro hx
        obtain ⟨j, hj, rfl⟩ := List.getElem_of_mem hx
        exact ⟨j, by simpa using hj, by rw [getElem!_pos l.toArray j (by simpa using hj)]; simp⟩

set_option maxRecDepth 100000 in
set_option maxHeartbeats 1600000 in
theorem of_set {w : World} {v : Value} {l : List Txt} (h : SlA w v (txs l)) (hmax : l.length < 1099511627776) :
    Calls Try.prog 57 #[v] w fun e w' => ∃ r m, e = .returned r ∧ SetV w' r m ∧ inc m ∧ (∀ x, x ∈ m ↔ x ∈ l) ∧ m.length ≤ l.length ∧ Below w.heap.size w w' := by
  have hb := below_new (w := w) (.cells #[.slice none 0 0] tSet)
  have hbx : (w.alloc (.cells #[.slice none 0 0] tSet)).heap[w.heap.size]? = some (.cells #[.slice none 0 0] tSet) := heap_alloc_new _ _
  have CL := Lib.hid (cloneS_ok (h.mono hb) hmax)
  clear h
  go_enter Try.func57, Try.ntmps57
  go_wp2_with fail
  refine CL.out.mono ?_
  rintro e w1 ⟨r1, rfl, o1, h1⟩
  have hbx1 := (h1.block _ (block_lt hbx)).trans hbx
  have hE1 := ext_trans hb h1
  have SO := Lib.hid (sortS_ok o1 (by omega))
  have hs1 : w.heap.size < (w.alloc (.cells #[.slice none 0 0] tSet)).heap.size := block_lt hbx
  clear CL hbx o1
  go_wp2_with fail
  refine SO.out.mono ?_
  rintro e w2 ⟨rfl, l2, hm2, hr2, o2, h2⟩
  have hbx2 := (h2.block _ (by omega)).trans hbx1
  have hE2 := hE1.trans (h2.mono (by omega))
  have CO := Lib.hid (compactS_ok o2 (by omega) hr2)
  clear SO hbx1 o2 h1 h2
  go_wp2_with fail
  refine CO.out.mono ?_
  rintro e w3 ⟨r3, m3, rfl, s3, hi3, hm3, hl3, h3⟩
  have hbx3 := (h3.block _ (by omega)).trans hbx2
  have hE3 := hE2.trans (h3.mono (by omega))
  have c3 : w3.cell? ⟨w.heap.size, 0, none⟩ = some (.slice none 0 0) := by unfold World.cell?; rw [hbx3]; rfl
  have f3 : w3.frozen? ⟨w.heap.size, 0, none⟩ = false := by unfold World.frozen?; rw [hbx3]; rfl
  obtain ⟨a3, cap3, rfl, _⟩ := SlA.outT s3.any
  have c4 := cell_put (u := .slice a3 m3.length cap3) (o := 0) hbx3 (by simp)
  have s4 := s3.put (o := 0) (u := .slice a3 m3.length cap3) hbx3 (by decide)
  have hE4 := below_put (off := 0) (u := .slice a3 m3.length cap3) hE3 (Nat.le_refl _)
  clear CO hbx2 hbx3 h3
  go_wp2
  exact bodyPost_ret (v := .agg #[.slice a3 m3.length cap3]) (by simp [results, Try.results57, go_sem, c4]) rfl ⟨_, m3, rfl, ⟨_, rfl, s4⟩, hi3, fun x => (hm3 x).trans (hm2 x), hl3, hE4⟩
end Go.Proofs.Ytcabmibcgedhhaa

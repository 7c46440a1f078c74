/-
  The walk of the statements' helper awake.
-/
import Derived.Test.YtcabmibcgedhhaaStr6
import Derived.Test.YtcabmibcgedhhaaStr9
namespace Go.Proofs.Ytcabmibcgedhhaa
open Go.RowKit Go.Cd

theorem awk_inc : inc [[97], [98]] := by simp [inc]; decide
theorem awk_mem (x : Txt) : x ∈ ([[98], [97], [98]] : List Txt) ↔ x ∈ ([[97], [98]] : List Txt) := by
  simp only [List.mem_cons, List.not_mem_nil, or_false]
  constructor
  · rintro (h | h | h) <;> simp [h]
  · rintro (h | h) <;> simp [h]

set_option maxRecDepth 100000 in
set_option maxHeartbeats 3200000 in
theorem awake7_ok {w : World} :
    Calls Try.prog 54 #[] w fun e w' => e = .returned (.bool true) ∧ Below w.heap.size w w' := by
  have hb := below_new (w := w) (.cells #[.string (sv [98]), .string (sv [97]), .string (sv [98])] eStr)
  have hs : SlA (w.alloc (.cells #[.string (sv [98]), .string (sv [97]), .string (sv [98])] eStr)) (.slice (some ⟨w.heap.size, 0, none⟩) 3 3) (txs [[98], [97], [98]]) := sla_new _ _ _
  have OF := Lib.hid (of_set hs (by simp))
  clear hs
  go_enter Try.func54, Try.ntmps54
  go_wp2_with fail
  refine OF.out.mono ?_
  rintro e w1 ⟨r1, m, rfl, s1, hi, hm, _, h1⟩
  have hm2 : m = [[97], [98]] := inc_ext _ _ hi awk_inc (fun x => (hm x).trans (awk_mem x))
  subst hm2
  have hE1 := hb.trans (h1.mono hb.size)
  obtain ⟨a, n, cap, rfl, s1', hn⟩ := s1.out
  obtain rfl : n = 2 := hn
  clear hm OF hb h1
  obtain ⟨W2, hW2⟩ : ∃ W2, W2 = w1.alloc (.cells #[.slice a 2 cap] 75) := ⟨_, rfl⟩
  have c2 : W2.cell? ⟨w1.heap.size, 0, none⟩ = some (.slice a 2 cap) := by subst hW2; unfold World.cell?; rw [heap_alloc_new]; rfl
  have hb2 : Below w1.heap.size w1 W2 := by subst hW2; exact below_new _
  have hE2 := hE1.trans (hb2.mono hE1.size)
  have s2 : SetV W2 (.agg #[.slice a 2 cap]) [[97], [98]] := ⟨_, rfl, s1'.mono hb2⟩
  have LI := Lib.hid (list_ok s2 (by simp))
  have BE := fun (W : World) (E : Below W2.heap.size W2 W) => Lib.hid (begin_ok (s2.mono E) awk_inc (by simp) [])
  have LE := fun (W : World) (v : Value) (h : SetV W v [[97], [98]]) => Lib.hid (setLen_ok h)
  clear s1 s1' hi s2 hE1
  go_wp2_with fail
  rw [← hW2]
  clear hW2
  refine LI.out.mono ?_
  rintro e w3 ⟨r3, rfl, o3, h3⟩
  have hE3 := hE2.trans (h3.mono hE2.size)
  have c3 := cellE h3 c2
  obtain ⟨a3, cap3, rfl, _, hx3⟩ := SlA.outTn (n := 2) (Sl.of_own o3).any rfl
  obtain ⟨b3, f3, rfl, _, hc0⟩ := hx3 0 (by simp)
  obtain ⟨b4, f4, hbf, _, hc1⟩ := hx3 1 (by simp)
  simp only [Option.some.injEq, Addr.mk.injEq] at hbf
  obtain ⟨rfl, rfl, _⟩ := hbf
  simp only [List.getElem_cons_zero, List.getElem_cons_succ, Nat.add_zero] at hc0 hc1
  have BE' := BE _ h3
  clear LI BE o3 h3 c2 hx3 hb2
  have q1 := sv_toList [97]
  have q2 := sv_toList [98]
  go_wp2_with fail
  refine BE'.out.mono ?_
  rintro e w4 ⟨r4, rfl, s4, h4⟩
  rw [show ([[97], [98]] : List Txt).filter (([] : Txt).isPrefixOf ·) = [[97], [98]] from rfl] at s4
  have LE' := LE _ _ s4
  obtain ⟨s5, rfl, _⟩ := s4
  have hE4 := hE3.trans (h4.mono hE3.size)
  clear BE' LE
  go_wp2_with fail
  refine LE'.out.mono ?_
  rintro e w5 ⟨rfl, h5⟩
  have hE5 := hE4.trans (h5.mono hE4.size)
  clear LE'
  go_wp2
  go_ret
  exact ⟨rfl, hE5⟩
end Go.Proofs.Ytcabmibcgedhhaa

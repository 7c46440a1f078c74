/-
  The walks of the set's methods Or, And, Less, Xor, Within, and of Same. (Written by genStrD.py.)
-/
import Derived.Test.YtcabmibcgedhhaaStrC
import Derived.Test.YtcabmibcgedhhaaStr4
import Derived.Test.YtcabmibcgedhhaaShelf
namespace Go.Proofs.Ytcabmibcgedhhaa
open Go.RowKit Go.Cd

set_option maxRecDepth 100000 in
set_option maxHeartbeats 3200000 in
theorem setOr_ok {w : World} {vs vt : Value} {a b : List Txt} (hs : SetV w vs a) (ht : SetV w vt b) (ma : a.length < 1000000) (mb : b.length < 1000000) :
    Calls Try.prog 67 #[vs, vt] w fun e w' => ∃ r, e = .returned r ∧ SetV w' r (mg [1, 2, 3] a b) ∧ (mg [1, 2, 3] a b).length ≤ a.length + b.length ∧ Below w.heap.size w w' := by
  obtain ⟨a1, n1, c1, rfl, h1, hn1⟩ := hs.out
  obtain ⟨a2, n2, c2, rfl, h2, hn2⟩ := ht.out
  clear hn1 hn2
  obtain ⟨W3, hW3⟩ : ∃ W3, W3 = ((w.alloc (.cells #[.slice a1 n1 c1] tSet)).alloc (.cells #[.slice a2 n2 c2] tSet)).alloc (.cells #[.slice none 0 0] tSet) := ⟨_, rfl⟩
  obtain ⟨W4, hW4⟩ : ∃ W4, W4 = W3.alloc (.cells #[.int .i64 1, .int .i64 2, .int .i64 3] 117) := ⟨_, rfl⟩
  have hs3 : W3.heap.size = w.heap.size + 3 := by subst hW3; simp
  have hb3 : Below w.heap.size w W3 := by subst hW3; exact ((below_new _).alloc (by simp) _).alloc (by simp; omega) _
  have hb4 : Below w.heap.size w W4 := by subst hW4; exact hb3.alloc (by omega) _
  have d0 : W3.cell? ⟨w.heap.size, 0, none⟩ = some (.slice a1 n1 c1) := by
    subst hW3
    refine cellE (below_new _) (cellE (below_new _) ?_)
    unfold World.cell?; rw [heap_alloc_new]; rfl
  have d1 : W3.cell? ⟨w.heap.size + 1, 0, none⟩ = some (.slice a2 n2 c2) := by
    subst hW3
    refine cellE (below_new _) ?_
    unfold World.cell?
    rw [show (World.alloc (w.alloc (.cells #[.slice a1 n1 c1] tSet)) (.cells #[.slice a2 n2 c2] tSet)).heap[w.heap.size + 1]? = some (.cells #[.slice a2 n2 c2] tSet) from heap_alloc_new' _ _ _ (by simp)]
    rfl
  have hbx3 : W3.heap[w.heap.size + 2]? = some (.cells #[.slice none 0 0] tSet) := by subst hW3; exact heap_alloc_new' _ _ _ (by simp)
  have k4 : SlA W4 (.slice (some ⟨w.heap.size + 3, 0, none⟩) 3 3) (nis [1, 2, 3]) := by subst hW4; have := sla_new W3 #[.int .i64 1, .int .i64 2, .int .i64 3] 117; rw [hs3] at this; exact this
  have hbx4 : W4.heap[w.heap.size + 2]? = some (.cells #[.slice none 0 0] tSet) := by subst hW4; exact ((below_new _).block _ (block_lt hbx3)).trans hbx3
  have ME := Lib.hid (merge_ok (h1.any.mono hb4) (h2.any.mono hb4) k4 ma mb (by decide))
  rw [hW3] at hW4
  clear hW3 hbx3 k4 h1 h2 hs ht
  go_enter Try.func67, Try.ntmps67
  go_wp2_with fail
  rw [← hW4]
  clear hW4
  refine ME.out.mono ?_
  rintro e w5 ⟨r5, rfl, s5, hl5, h5⟩
  have hE5 := hb4.trans (h5.mono hb4.size)
  have hb5 := (h5.block _ (block_lt hbx4)).trans hbx4
  have e5 : w5.cell? ⟨w.heap.size + 2, 0, none⟩ = some (.slice none 0 0) := by unfold World.cell?; rw [hb5]; rfl
  have f5 : w5.frozen? ⟨w.heap.size + 2, 0, none⟩ = false := by unfold World.frozen?; rw [hb5]; rfl
  obtain ⟨x5, rfl, t5⟩ := s5
  obtain ⟨M, hM⟩ : ∃ M, M = mg [1, 2, 3] a b := ⟨_, rfl⟩
  have HM := Lib.hid hM
  rw [← hM] at t5 hl5
  have HL := Lib.hid hl5
  obtain ⟨a5, cap5, rfl, _⟩ := SlA.outT t5.any
  have c6 := cell_put (u := .slice a5 M.length cap5) (o := 0) hb5 (by simp)
  have t6 := t5.put (o := 0) (u := .slice a5 M.length cap5) hb5 (by decide)
  have hE6 := below_put (off := 0) (u := .slice a5 M.length cap5) hE5 (by omega : w.heap.size ≤ w.heap.size + 2)
  clear ME t5 hb5 h5 hbx4 hM hl5
  go_wp2
  exact bodyPost_ret (v := .agg #[.slice a5 M.length cap5]) (by simp [results, Try.results67, go_sem, c6]) rfl ⟨_, rfl, ⟨_, rfl, by rw [← HM.out]; exact t6⟩, by rw [← HM.out]; exact HL.out, hE6⟩

set_option maxRecDepth 100000 in
set_option maxHeartbeats 3200000 in
theorem setAnd_ok {w : World} {vs vt : Value} {a b : List Txt} (hs : SetV w vs a) (ht : SetV w vt b) (ma : a.length < 1000000) (mb : b.length < 1000000) :
    Calls Try.prog 68 #[vs, vt] w fun e w' => ∃ r, e = .returned r ∧ SetV w' r (mg [3] a b) ∧ (mg [3] a b).length ≤ a.length + b.length ∧ Below w.heap.size w w' := by
  obtain ⟨a1, n1, c1, rfl, h1, hn1⟩ := hs.out
  obtain ⟨a2, n2, c2, rfl, h2, hn2⟩ := ht.out
  clear hn1 hn2
  obtain ⟨W3, hW3⟩ : ∃ W3, W3 = ((w.alloc (.cells #[.slice a1 n1 c1] tSet)).alloc (.cells #[.slice a2 n2 c2] tSet)).alloc (.cells #[.slice none 0 0] tSet) := ⟨_, rfl⟩
  obtain ⟨W4, hW4⟩ : ∃ W4, W4 = W3.alloc (.cells #[.int .i64 3] 117) := ⟨_, rfl⟩
  have hs3 : W3.heap.size = w.heap.size + 3 := by subst hW3; simp
  have hb3 : Below w.heap.size w W3 := by subst hW3; exact ((below_new _).alloc (by simp) _).alloc (by simp; omega) _
  have hb4 : Below w.heap.size w W4 := by subst hW4; exact hb3.alloc (by omega) _
  have d0 : W3.cell? ⟨w.heap.size, 0, none⟩ = some (.slice a1 n1 c1) := by
    subst hW3
    refine cellE (below_new _) (cellE (below_new _) ?_)
    unfold World.cell?; rw [heap_alloc_new]; rfl
  have d1 : W3.cell? ⟨w.heap.size + 1, 0, none⟩ = some (.slice a2 n2 c2) := by
    subst hW3
    refine cellE (below_new _) ?_
    unfold World.cell?
    rw [show (World.alloc (w.alloc (.cells #[.slice a1 n1 c1] tSet)) (.cells #[.slice a2 n2 c2] tSet)).heap[w.heap.size + 1]? = some (.cells #[.slice a2 n2 c2] tSet) from heap_alloc_new' _ _ _ (by simp)]
    rfl
  have hbx3 : W3.heap[w.heap.size + 2]? = some (.cells #[.slice none 0 0] tSet) := by subst hW3; exact heap_alloc_new' _ _ _ (by simp)
  have k4 : SlA W4 (.slice (some ⟨w.heap.size + 3, 0, none⟩) 1 1) (nis [3]) := by subst hW4; have := sla_new W3 #[.int .i64 3] 117; rw [hs3] at this; exact this
  have hbx4 : W4.heap[w.heap.size + 2]? = some (.cells #[.slice none 0 0] tSet) := by subst hW4; exact ((below_new _).block _ (block_lt hbx3)).trans hbx3
  have ME := Lib.hid (merge_ok (h1.any.mono hb4) (h2.any.mono hb4) k4 ma mb (by decide))
  rw [hW3] at hW4
  clear hW3 hbx3 k4 h1 h2 hs ht
  go_enter Try.func68, Try.ntmps68
  go_wp2_with fail
  rw [← hW4]
  clear hW4
  refine ME.out.mono ?_
  rintro e w5 ⟨r5, rfl, s5, hl5, h5⟩
  have hE5 := hb4.trans (h5.mono hb4.size)
  have hb5 := (h5.block _ (block_lt hbx4)).trans hbx4
  have e5 : w5.cell? ⟨w.heap.size + 2, 0, none⟩ = some (.slice none 0 0) := by unfold World.cell?; rw [hb5]; rfl
  have f5 : w5.frozen? ⟨w.heap.size + 2, 0, none⟩ = false := by unfold World.frozen?; rw [hb5]; rfl
  obtain ⟨x5, rfl, t5⟩ := s5
  obtain ⟨M, hM⟩ : ∃ M, M = mg [3] a b := ⟨_, rfl⟩
  have HM := Lib.hid hM
  rw [← hM] at t5 hl5
  have HL := Lib.hid hl5
  obtain ⟨a5, cap5, rfl, _⟩ := SlA.outT t5.any
  have c6 := cell_put (u := .slice a5 M.length cap5) (o := 0) hb5 (by simp)
  have t6 := t5.put (o := 0) (u := .slice a5 M.length cap5) hb5 (by decide)
  have hE6 := below_put (off := 0) (u := .slice a5 M.length cap5) hE5 (by omega : w.heap.size ≤ w.heap.size + 2)
  clear ME t5 hb5 h5 hbx4 hM hl5
  go_wp2
  exact bodyPost_ret (v := .agg #[.slice a5 M.length cap5]) (by simp [results, Try.results68, go_sem, c6]) rfl ⟨_, rfl, ⟨_, rfl, by rw [← HM.out]; exact t6⟩, by rw [← HM.out]; exact HL.out, hE6⟩

set_option maxRecDepth 100000 in
set_option maxHeartbeats 3200000 in
theorem less_ok {w : World} {vs vt : Value} {a b : List Txt} (hs : SetV w vs a) (ht : SetV w vt b) (ma : a.length < 1000000) (mb : b.length < 1000000) :
    Calls Try.prog 69 #[vs, vt] w fun e w' => ∃ r, e = .returned r ∧ SetV w' r (mg [1] a b) ∧ (mg [1] a b).length ≤ a.length + b.length ∧ Below w.heap.size w w' := by
  obtain ⟨a1, n1, c1, rfl, h1, hn1⟩ := hs.out
  obtain ⟨a2, n2, c2, rfl, h2, hn2⟩ := ht.out
  clear hn1 hn2
  obtain ⟨W3, hW3⟩ : ∃ W3, W3 = ((w.alloc (.cells #[.slice a1 n1 c1] tSet)).alloc (.cells #[.slice a2 n2 c2] tSet)).alloc (.cells #[.slice none 0 0] tSet) := ⟨_, rfl⟩
  obtain ⟨W4, hW4⟩ : ∃ W4, W4 = W3.alloc (.cells #[.int .i64 1] 117) := ⟨_, rfl⟩
  have hs3 : W3.heap.size = w.heap.size + 3 := by subst hW3; simp
  have hb3 : Below w.heap.size w W3 := by subst hW3; exact ((below_new _).alloc (by simp) _).alloc (by simp; omega) _
  have hb4 : Below w.heap.size w W4 := by subst hW4; exact hb3.alloc (by omega) _
  have d0 : W3.cell? ⟨w.heap.size, 0, none⟩ = some (.slice a1 n1 c1) := by
    subst hW3
    refine cellE (below_new _) (cellE (below_new _) ?_)
    unfold World.cell?; rw [heap_alloc_new]; rfl
  have d1 : W3.cell? ⟨w.heap.size + 1, 0, none⟩ = some (.slice a2 n2 c2) := by
    subst hW3
    refine cellE (below_new _) ?_
    unfold World.cell?
    rw [show (World.alloc (w.alloc (.cells #[.slice a1 n1 c1] tSet)) (.cells #[.slice a2 n2 c2] tSet)).heap[w.heap.size + 1]? = some (.cells #[.slice a2 n2 c2] tSet) from heap_alloc_new' _ _ _ (by simp)]
    rfl
  have hbx3 : W3.heap[w.heap.size + 2]? = some (.cells #[.slice none 0 0] tSet) := by subst hW3; exact heap_alloc_new' _ _ _ (by simp)
  have k4 : SlA W4 (.slice (some ⟨w.heap.size + 3, 0, none⟩) 1 1) (nis [1]) := by subst hW4; have := sla_new W3 #[.int .i64 1] 117; rw [hs3] at this; exact this
  have hbx4 : W4.heap[w.heap.size + 2]? = some (.cells #[.slice none 0 0] tSet) := by subst hW4; exact ((below_new _).block _ (block_lt hbx3)).trans hbx3
  have ME := Lib.hid (merge_ok (h1.any.mono hb4) (h2.any.mono hb4) k4 ma mb (by decide))
  rw [hW3] at hW4
  clear hW3 hbx3 k4 h1 h2 hs ht
  go_enter Try.func69, Try.ntmps69
  go_wp2_with fail
  rw [← hW4]
  clear hW4
  refine ME.out.mono ?_
  rintro e w5 ⟨r5, rfl, s5, hl5, h5⟩
  have hE5 := hb4.trans (h5.mono hb4.size)
  have hb5 := (h5.block _ (block_lt hbx4)).trans hbx4
  have e5 : w5.cell? ⟨w.heap.size + 2, 0, none⟩ = some (.slice none 0 0) := by unfold World.cell?; rw [hb5]; rfl
  have f5 : w5.frozen? ⟨w.heap.size + 2, 0, none⟩ = false := by unfold World.frozen?; rw [hb5]; rfl
  obtain ⟨x5, rfl, t5⟩ := s5
  obtain ⟨M, hM⟩ : ∃ M, M = mg [1] a b := ⟨_, rfl⟩
  have HM := Lib.hid hM
  rw [← hM] at t5 hl5
  have HL := Lib.hid hl5
  obtain ⟨a5, cap5, rfl, _⟩ := SlA.outT t5.any
  have c6 := cell_put (u := .slice a5 M.length cap5) (o := 0) hb5 (by simp)
  have t6 := t5.put (o := 0) (u := .slice a5 M.length cap5) hb5 (by decide)
  have hE6 := below_put (off := 0) (u := .slice a5 M.length cap5) hE5 (by omega : w.heap.size ≤ w.heap.size + 2)
  clear ME t5 hb5 h5 hbx4 hM hl5
  go_wp2
  exact bodyPost_ret (v := .agg #[.slice a5 M.length cap5]) (by simp [results, Try.results69, go_sem, c6]) rfl ⟨_, rfl, ⟨_, rfl, by rw [← HM.out]; exact t6⟩, by rw [← HM.out]; exact HL.out, hE6⟩

set_option maxRecDepth 100000 in
set_option maxHeartbeats 3200000 in
theorem setXor_ok {w : World} {vs vt : Value} {a b : List Txt} (hs : SetV w vs a) (ht : SetV w vt b) (ma : a.length < 1000000) (mb : b.length < 1000000) :
    Calls Try.prog 70 #[vs, vt] w fun e w' => ∃ r, e = .returned r ∧ SetV w' r (mg [1, 2] a b) ∧ (mg [1, 2] a b).length ≤ a.length + b.length ∧ Below w.heap.size w w' := by
  obtain ⟨a1, n1, c1, rfl, h1, hn1⟩ := hs.out
  obtain ⟨a2, n2, c2, rfl, h2, hn2⟩ := ht.out
  clear hn1 hn2
  obtain ⟨W3, hW3⟩ : ∃ W3, W3 = ((w.alloc (.cells #[.slice a1 n1 c1] tSet)).alloc (.cells #[.slice a2 n2 c2] tSet)).alloc (.cells #[.slice none 0 0] tSet) := ⟨_, rfl⟩
  obtain ⟨W4, hW4⟩ : ∃ W4, W4 = W3.alloc (.cells #[.int .i64 1, .int .i64 2] 117) := ⟨_, rfl⟩
  have hs3 : W3.heap.size = w.heap.size + 3 := by subst hW3; simp
  have hb3 : Below w.heap.size w W3 := by subst hW3; exact ((below_new _).alloc (by simp) _).alloc (by simp; omega) _
  have hb4 : Below w.heap.size w W4 := by subst hW4; exact hb3.alloc (by omega) _
  have d0 : W3.cell? ⟨w.heap.size, 0, none⟩ = some (.slice a1 n1 c1) := by
    subst hW3
    refine cellE (below_new _) (cellE (below_new _) ?_)
    unfold World.cell?; rw [heap_alloc_new]; rfl
  have d1 : W3.cell? ⟨w.heap.size + 1, 0, none⟩ = some (.slice a2 n2 c2) := by
    subst hW3
    refine cellE (below_new _) ?_
    unfold World.cell?
    rw [show (World.alloc (w.alloc (.cells #[.slice a1 n1 c1] tSet)) (.cells #[.slice a2 n2 c2] tSet)).heap[w.heap.size + 1]? = some (.cells #[.slice a2 n2 c2] tSet) from heap_alloc_new' _ _ _ (by simp)]
    rfl
  have hbx3 : W3.heap[w.heap.size + 2]? = some (.cells #[.slice none 0 0] tSet) := by subst hW3; exact heap_alloc_new' _ _ _ (by simp)
  have k4 : SlA W4 (.slice (some ⟨w.heap.size + 3, 0, none⟩) 2 2) (nis [1, 2]) := by subst hW4; have := sla_new W3 #[.int .i64 1, .int .i64 2] 117; rw [hs3] at this; exact this
  have hbx4 : W4.heap[w.heap.size + 2]? = some (.cells #[.slice none 0 0] tSet) := by subst hW4; exact ((below_new _).block _ (block_lt hbx3)).trans hbx3
  have ME := Lib.hid (merge_ok (h1.any.mono hb4) (h2.any.mono hb4) k4 ma mb (by decide))
  rw [hW3] at hW4
  clear hW3 hbx3 k4 h1 h2 hs ht
  go_enter Try.func70, Try.ntmps70
  go_wp2_with fail
  rw [← hW4]
  clear hW4
  refine ME.out.mono ?_
  rintro e w5 ⟨r5, rfl, s5, hl5, h5⟩
  have hE5 := hb4.trans (h5.mono hb4.size)
  have hb5 := (h5.block _ (block_lt hbx4)).trans hbx4
  have e5 : w5.cell? ⟨w.heap.size + 2, 0, none⟩ = some (.slice none 0 0) := by unfold World.cell?; rw [hb5]; rfl
  have f5 : w5.frozen? ⟨w.heap.size + 2, 0, none⟩ = false := by unfold World.frozen?; rw [hb5]; rfl
  obtain ⟨x5, rfl, t5⟩ := s5
  obtain ⟨M, hM⟩ : ∃ M, M = mg [1, 2] a b := ⟨_, rfl⟩
  have HM := Lib.hid hM
  rw [← hM] at t5 hl5
  have HL := Lib.hid hl5
  obtain ⟨a5, cap5, rfl, _⟩ := SlA.outT t5.any
  have c6 := cell_put (u := .slice a5 M.length cap5) (o := 0) hb5 (by simp)
  have t6 := t5.put (o := 0) (u := .slice a5 M.length cap5) hb5 (by decide)
  have hE6 := below_put (off := 0) (u := .slice a5 M.length cap5) hE5 (by omega : w.heap.size ≤ w.heap.size + 2)
  clear ME t5 hb5 h5 hbx4 hM hl5
  go_wp2
  exact bodyPost_ret (v := .agg #[.slice a5 M.length cap5]) (by simp [results, Try.results70, go_sem, c6]) rfl ⟨_, rfl, ⟨_, rfl, by rw [← HM.out]; exact t6⟩, by rw [← HM.out]; exact HL.out, hE6⟩

set_option maxRecDepth 100000 in
set_option maxHeartbeats 3200000 in
theorem within_ok {w : World} {vs vt : Value} {a b : List Txt} (hs : SetV w vs a) (ht : SetV w vt b) (ma : a.length < 1000000) (mb : b.length < 1000000) :
    Calls Try.prog 71 #[vs, vt] w fun e w' => e = .returned (.bool (decide (mg [1] a b = []))) ∧ Below w.heap.size w w' := by
  obtain ⟨a1, n1, c1, rfl, h1, hn1⟩ := hs.out
  obtain ⟨a2, n2, c2, rfl, h2, hn2⟩ := ht.out
  clear hn1 hn2
  obtain ⟨W2, hW2⟩ : ∃ W2, W2 = (w.alloc (.cells #[.slice a1 n1 c1] tSet)).alloc (.cells #[.slice a2 n2 c2] tSet) := ⟨_, rfl⟩
  have hb2 : Below w.heap.size w W2 := by subst hW2; exact (below_new _).alloc (by simp) _
  have d0 : W2.cell? ⟨w.heap.size, 0, none⟩ = some (.slice a1 n1 c1) := by
    subst hW2
    refine cellE (below_new _) ?_
    unfold World.cell?; rw [heap_alloc_new]; rfl
  have d1 : W2.cell? ⟨w.heap.size + 1, 0, none⟩ = some (.slice a2 n2 c2) := by
    subst hW2
    unfold World.cell?
    rw [show (World.alloc (w.alloc (.cells #[.slice a1 n1 c1] tSet)) (.cells #[.slice a2 n2 c2] tSet)).heap[w.heap.size + 1]? = some (.cells #[.slice a2 n2 c2] tSet) from heap_alloc_new' _ _ _ (by simp)]
    rfl
  have LS := Lib.hid (less_ok (w := W2) (vs := .agg #[.slice a1 n1 c1]) (vt := .agg #[.slice a2 n2 c2]) ⟨_, rfl, h1.mono hb2⟩ ⟨_, rfl, h2.mono hb2⟩ ma mb)
  clear h1 h2 hs ht
  go_enter Try.func71, Try.ntmps71
  go_wp2_with fail
  rw [← hW2]
  clear hW2
  refine LS.out.mono ?_
  rintro e w3 ⟨r3, rfl, s3, hl3, h3⟩
  have hE3 := hb2.trans (h3.mono hb2.size)
  have LE := Lib.hid (setLen_ok s3)
  obtain ⟨x3, rfl, _⟩ := s3
  have HD := Lib.hid (show (((mg [1] a b).length : Int) == 0) = decide (mg [1] a b = []) by
    cases mg [1] a b with
    | nil => rfl
    | cons x m => simp; omega)
  clear LS hl3 h3
  go_wp2_with fail
  refine LE.out.mono ?_
  rintro e w4 ⟨rfl, h4⟩
  have hE4 := hE3.trans (h4.mono hE3.size)
  clear LE
  go_wp2
  go_ret
  exact ⟨ret_bool HD.out, hE4⟩

set_option maxRecDepth 100000 in
set_option maxHeartbeats 3200000 in
/-- slices.Equal at []string. -/
theorem equalS_ok {w : World} {v u : Value} {l m : List Txt} (h : SlA w v (txs l)) (k : SlA w u (txs m)) (hl : l.length < 1000000) (hm : m.length < 1000000) :
    Calls Try.prog 98 #[v, u] w fun e w' => e = .returned (.bool (decide (l = m))) ∧ Below w.heap.size w w' := by
  obtain ⟨a, cap, rfl, _, hx⟩ := SlA.outT h
  obtain ⟨a2, cap2, rfl, _, hx2⟩ := SlA.outT k
  cases l with
  | nil =>
    refine (Try.slices_Equal_string_empty a a2 cap m.length cap2 w (by omega)).mono ?_
    rintro e w' ⟨rfl, rfl⟩
    exact ⟨ret_bool (by cases m <;> simp), Below.refl _ _⟩
  | cons x l =>
    cases m with
    | nil =>
      refine (Try.slices_Equal_string_lens a a2 (x :: l).length cap 0 cap2 w (by simp)).mono ?_
      rintro e w' ⟨rfl, rfl⟩
      exact ⟨ret_bool (by simp), Below.refl _ _⟩
    | cons y m =>
      obtain ⟨b, off, rfl, _, _⟩ := hx 0 (by simp)
      obtain ⟨b2, off2, rfl, _, _⟩ := hx2 0 (by simp)
      refine (Try.slices_Equal_string b off (x :: l).length cap b2 off2 (y :: m).length cap2 ((x :: l).map sv) ((y :: m).map sv) w (by simp) (by simp) (by omega) (by omega) ?_ ?_).mono ?_
      · intro j hj
        have hj' : j < (x :: l).length := by simpa using hj
        obtain ⟨b', off', he, _, hc⟩ := hx j hj'
        simp only [Option.some.injEq, Addr.mk.injEq] at he
        obtain ⟨rfl, rfl, _⟩ := he
        rw [hc, List.getD_eq_getElem?_getD, List.getElem?_eq_getElem hj, List.getElem_map]
        rfl
      · intro j hj
        have hj' : j < (y :: m).length := by simpa using hj
        obtain ⟨b', off', he, _, hc⟩ := hx2 j hj'
        simp only [Option.some.injEq, Addr.mk.injEq] at he
        obtain ⟨rfl, rfl, _⟩ := he
        rw [hc, List.getD_eq_getElem?_getD, List.getElem?_eq_getElem hj, List.getElem_map]
        rfl
      · rintro e w' ⟨rfl, q, rfl⟩
        refine ⟨ret_bool ?_, ⟨rfl, rfl, rfl, Nat.le_refl _, fun _ _ => rfl⟩⟩
        rw [List.take_of_length_le (by simp), List.take_of_length_le (by simp)]
        exact decide_eq_decide.2 ⟨fun h => List.map_inj_right (fun _ _ => sv_inj) |>.1 h, fun h => by rw [h]⟩

set_option maxRecDepth 100000 in
set_option maxHeartbeats 3200000 in
theorem sameS_ok {w : World} {vs vt : Value} {a b : List Txt} (hs : SetV w vs a) (ht : SetV w vt b) (ma : a.length < 1000000) (mb : b.length < 1000000) :
    Calls Try.prog 72 #[vs, vt] w fun e w' => e = .returned (.bool (decide (a = b))) ∧ Below w.heap.size w w' := by
  obtain ⟨a1, n1, c1, rfl, h1, hn1⟩ := hs.out
  obtain ⟨a2, n2, c2, rfl, h2, hn2⟩ := ht.out
  clear hn1 hn2
  obtain ⟨W2, hW2⟩ : ∃ W2, W2 = (w.alloc (.cells #[.slice a1 n1 c1] tSet)).alloc (.cells #[.slice a2 n2 c2] tSet) := ⟨_, rfl⟩
  have hb2 : Below w.heap.size w W2 := by subst hW2; exact (below_new _).alloc (by simp) _
  have d0 : W2.cell? ⟨w.heap.size, 0, none⟩ = some (.slice a1 n1 c1) := by
    subst hW2
    refine cellE (below_new _) ?_
    unfold World.cell?; rw [heap_alloc_new]; rfl
  have d1 : W2.cell? ⟨w.heap.size + 1, 0, none⟩ = some (.slice a2 n2 c2) := by
    subst hW2
    unfold World.cell?
    rw [show (World.alloc (w.alloc (.cells #[.slice a1 n1 c1] tSet)) (.cells #[.slice a2 n2 c2] tSet)).heap[w.heap.size + 1]? = some (.cells #[.slice a2 n2 c2] tSet) from heap_alloc_new' _ _ _ (by simp)]
    rfl
  have EQ := Lib.hid (equalS_ok (h1.any.mono hb2) (h2.any.mono hb2) ma mb)
  clear h1 h2 hs ht
  go_enter Try.func72, Try.ntmps72
  go_wp2_with fail
  rw [← hW2]
  clear hW2
  refine EQ.out.mono ?_
  rintro e w3 ⟨rfl, h3⟩
  have hE3 := hb2.trans (h3.mono hb2.size)
  clear EQ
  go_wp2
  go_ret
  exact ⟨rfl, hE3⟩
end Go.Proofs.Ytcabmibcgedhhaa

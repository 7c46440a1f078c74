/-
  The walks of the set's methods List, Len, Index, Has, At.
-/
import Derived.Test.YtcabmibcgedhhaaStr3
import Derived.Test.YtcabmibcgedhhaaBw0
import Derived.Test.YtcabmibcgedhhaaStrP
namespace Go.Proofs.Ytcabmibcgedhhaa
open Go.RowKit Go.Cd Go.Sort Go.Lib

set_option maxRecDepth 100000 in
set_option maxHeartbeats 1600000 in
theorem list_ok {w : World} {v : Value} {l : List Txt} (h : SetV w v l) (hmax : l.length < 1099511627776) :
    Calls Try.prog 90 #[v] w fun e w' => ∃ r, e = .returned r ∧ w'.ownsRow w.heap.size eStr 1 r l.length (txs l) ∧ Below w.heap.size w w' := by
  obtain ⟨a, n, cap, rfl, h, hn⟩ := h.out
  have hb := below_new (w := w) (.cells #[.slice a n cap] tSet)
  have c0 : (w.alloc (.cells #[.slice a n cap] tSet)).cell? ⟨w.heap.size, 0, none⟩ = some (.slice a n cap) := by unfold World.cell?; rw [heap_alloc_new]; rfl
  have CL := Lib.hid (cloneS_ok (h.any.mono hb) hmax)
  clear h hn
  go_enter Try.func90, Try.ntmps90
  go_wp2_with fail
  refine CL.out.mono ?_
  rintro e w1 ⟨r1, rfl, o1, h1⟩
  go_wp2
  go_ret
  exact ⟨_, rfl, own_base o1 hb.size, ext_trans hb h1⟩

theorem setLen_ok {w : World} {v : Value} {l : List Txt} (h : SetV w v l) :
    Calls Try.prog 63 #[v] w fun e w' => e = .returned (.int .i64 l.length) ∧ Below w.heap.size w w' := by
  obtain ⟨a, n, cap, rfl, h, hn⟩ := h.out
  have hb := below_new (w := w) (.cells #[.slice a n cap] tSet)
  have c0 : (w.alloc (.cells #[.slice a n cap] tSet)).cell? ⟨w.heap.size, 0, none⟩ = some (.slice a n cap) := by unfold World.cell?; rw [heap_alloc_new]; rfl
  have HN := Lib.hid hn
  clear h hn
  go_enter Try.func63, Try.ntmps63
  go_wp2
  go_ret
  exact ⟨by rw [← HN.out]; rfl, hb⟩

theorem cmpT (t : Txt) (blk off size : Nat) (w : World) : Go.Proofs.CmpLaysT Try.prog 93 #[] encStr (.string (sv t)) (fun x => compareBytes x t) blk off size w :=
  fun m os dk _ x => (utfCompare_ok x t _).mono fun _ _ ⟨he, hw⟩ => ⟨he, 0, #[], by rw [hw, grow_empty]; rfl⟩

theorem searchS_ok {w : World} {a : Option Addr} {n cap : Nat} {l : List Txt} (h : Sl0 w (.slice a n cap) (txs l)) (hi : inc l) (hmax : l.length < 4611686018427387904) (t : Txt) :
    Calls Try.prog 96 #[.slice a n cap, .string (sv t), .func (.func 93) #[] #[]] w fun e w' => e = .returned (.tuple #[.int .i64 (rank l t), .bool (decide (t ∈ l))]) ∧ Below w.heap.size w w' := by
  rcases h.holds with ⟨rfl, a', cap', hv⟩ | ⟨b, off, cap', hv, hb, hx⟩
  · simp only [Value.slice.injEq] at hv
    obtain ⟨rfl, rfl, rfl⟩ := hv
    refine (Go.Proofs.Any.slices_BinarySearchFunc_none Go.Proofs.Try.searchF96 a cap (.string (sv t)) (.func (.func 93) #[] #[]) w).mono ?_
    rintro e w' ⟨rfl, rfl⟩
    exact ⟨by simp [rank], Below.refl _ _⟩
  · simp only [Value.slice.injEq] at hv
    obtain ⟨rfl, rfl, rfl⟩ := hv
    have hH : Holds encStr w b off l.toArray := fun j hj => by
      have hj' : j < l.length := by simpa using hj
      obtain ⟨h1, h2⟩ := hx j hj'
      refine ⟨?_, h2⟩
      rw [h1, getElem!_pos l.toArray j hj]
      simp [sv]
    have eg : ∀ args w, (callFunc 93 args).run Try.prog w = .ok (.enter 93 args) w := enters_of Try.func93 (by kernel_rfl) rfl
    have hcon := Go.Proofs.Any.slices_BinarySearchFunc Go.Proofs.Try.searchF96 encStr (fun _ => rfl) (.string (sv t)) (fun x => compareBytes x t) 93 #[] b off cap l.toArray w eg (cmpT t b off l.toArray.size w) hH hb (by simpa using hmax)
      (fun i j hij hj hlt => by
        have hj' : j < l.length := by simpa using hj
        rw [cb_lt] at hlt ⊢
        rw [getElem!_pos l.toArray j hj] at hlt
        rw [getElem!_pos l.toArray i (by omega)]
        simp only [List.getElem_toArray] at hlt ⊢
        by_cases he : i = j
        · subst he; exact hlt
        · exact List.lt_trans (inc_at hi (by omega) hj') hlt)
    have hr : l.toArray.toList.countP (fun x => decide (compareBytes x t < 0)) = rank l t := by
      unfold rank
      simp only [cb_lt]
    have hd : l.toArray.size = l.length := by simp
    rw [hr, hd] at hcon
    have hbool : (decide (rank l t < l.length) && decide (compareBytes l.toArray[rank l t]! t = 0)) = decide (t ∈ l) := by
      by_cases hm : t ∈ l
      · have h1 := (rank_at hi).2 hm
        have h2 : rank l t < l.length := by
          rcases Nat.lt_or_ge (rank l t) l.length with h | h
          · exact h
          · rw [List.getElem?_eq_none h] at h1; cases h1
        rw [List.getElem?_eq_getElem h2] at h1
        have h3 : l.toArray[rank l t]! = t := by
          rw [getElem!_pos l.toArray _ (by simpa using h2)]
          simpa using h1
        rw [h3, decide_eq_true h2, decide_eq_true ((cb_eq t t).2 rfl), decide_eq_true hm]; rfl
      · rw [decide_eq_false hm]
        by_cases h2 : rank l t < l.length
        · have h3 : ¬ compareBytes l.toArray[rank l t]! t = 0 := by
            rw [cb_eq, getElem!_pos l.toArray _ (by simpa using h2)]
            intro e
            refine hm ((rank_at hi).1 ?_)
            rw [List.getElem?_eq_getElem h2]
            simpa using e
          rw [decide_eq_false h3, Bool.and_false]
        · rw [decide_eq_false h2, Bool.false_and]
    rw [hbool] at hcon
    refine hcon.mono ?_
    rintro e w' ⟨rfl, m, os, rfl⟩
    refine ⟨rfl, ?_⟩
    have hid : putRow encStr (Sort.ahead w m) b off l.toArray = Sort.ahead w m := putRow_self _ _ _ _ _ (fun j hj => hH j hj)
    unfold Go.Proofs.sortWorld
    rw [hid]
    exact ⟨rfl, rfl, rfl, by rw [size_grow]; show w.heap.size ≤ w.heap.size + _; omega, fun k hk => heap_grow_old _ _ hk⟩
end Go.Proofs.Ytcabmibcgedhhaa

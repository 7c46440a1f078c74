/-
  What a range over slices.Backward asks for, at any elements. No condition.
-/
import Derived.RangeFuncBox
import Derived.RangeFuncLeaves
import Derived.RangeFuncWrites
import Derived.Shelf.Abstract
import Derived.WalkKit
import Derived.OwnWalkIn
import Derived.TacticsInMore
import Derived.LoopNIn
import Derived.LoopIn
import Derived.Test.YtcabmibcgedhhaaBase
namespace Go.Proofs.Ytcabmibcgedhhaa
open Go.RowKit Go.Cd Go.Shelf

/-- What has come when k rounds are over. -/
def bwUp {α : Type} (el : Nat → α) (n k : Nat) : List α := (List.range k).map fun t => el (n - 1 - t)
theorem bwUp_succ {α : Type} (el : Nat → α) (n k : Nat) : bwUp el n (k + 1) = bwUp el n k ++ [el (n - 1 - k)] := by simp [bwUp, List.range_succ]
theorem bwUp_length {α : Type} (el : Nat → α) (n k : Nat) : (bwUp el n k).length = k := by simp [bwUp]

/-- Two blocks lie as they lay. -/
def Keep2 (p q : Nat) (A B : World) : Prop := B.heap[p]? = A.heap[p]? ∧ B.heap[q]? = A.heap[q]?
theorem Keep2.refl (p q : Nat) (A : World) : Keep2 p q A A := ⟨rfl, rfl⟩
theorem Keep2.trans {p q : Nat} {A B C : World} (h : Keep2 p q A B) (k : Keep2 p q B C) : Keep2 p q A C := ⟨k.1.trans h.1, k.2.trans h.2⟩
theorem Keep2.cellP {p q : Nat} {A B : World} (h : Keep2 p q A B) (o : Nat) : B.cell? ⟨p, o, none⟩ = A.cell? ⟨p, o, none⟩ := World.cell?_of_block h.1
theorem Keep2.cellQ {p q : Nat} {A B : World} (h : Keep2 p q A B) (o : Nat) : B.cell? ⟨q, o, none⟩ = A.cell? ⟨q, o, none⟩ := World.cell?_of_block h.2
theorem Keep2.of_below {p q N : Nat} {A B : World} (h : Below N A B) (hp : p < N) (hq : q < N) : Keep2 p q A B := ⟨h.block p hp, h.block q hq⟩

theorem calls_of_marks {P : Program} {f : FuncId} {fn : Func} {c : Code} {args : Array Value} {w : World} {R : Ending → World → Prop} (hf : P.funcs[f]? = some fn) (hb : fn.body = some c)
    (h : c.wp P (bodyPostM Fence.wide 5 P fn R) { tmps := args ++ Array.replicate (fn.ntmps - args.size) undef, defers := [] } w) : Calls P f args w R :=
  (callsIn_wide (n := 5)).1 (callsIn_of_wp_marks hf hb trivial (wpIn_wide.2 h) rfl)

theorem own_ne {W : World} {base : Nat} {e : TypeId} {size : Nat} {v : Value} {n : Nat} {xs : List Value} (h : W.ownsRow base e size v n xs) {k : Nat} {cs : Array Value} {T : TypeId} {fr : Nat × Nat} (hk : W.heap[k]? = some (.cells cs T fr)) (hT : T ≠ e) : v.ownBlock ≠ some k := by
  intro he
  rcases h.2 with ⟨h, _⟩ | ⟨g', _, cur, h, _, h2, _⟩
  · rw [h] at he; cases he
  · rw [h] at he
    cases he
    rw [hk] at h2
    cases h2
    exact hT rfl

theorem keepC {A B : World} {row : Option Nat} (hg : A.grownBy B row) (hr : ∀ r, row = some r → ∃ o : Obj, A.heap[r]? = some o ∧ o.isCells = false) {k : Nat} {cs : Array Value} {T : TypeId} {fr : Nat × Nat} (h : A.heap[k]? = some (.cells cs T fr)) : B.heap[k]? = some (.cells cs T fr) := by
  refine (hg.block k (block_lt h) (fun e => ?_)).trans h
  obtain ⟨o, ho, hc⟩ := hr k e.symm
  rw [h] at ho
  cases ho
  cases hc

theorem ownC {A B : World} {row : Option Nat} (hg : A.grownBy B row) (hr : ∀ r, row = some r → ∃ o : Obj, A.heap[r]? = some o ∧ o.isCells = false) {base : Nat} {e : TypeId} {size : Nat} {v : Value} {n : Nat} {xs : List Value} (h : A.ownsRow base e size v n xs) : B.ownsRow base e size v n xs := by
  obtain ⟨h1, h2⟩ := h
  refine ⟨h1, h2.imp id ?_⟩
  rintro ⟨g, cap, cur, hv, hb, hh, r⟩
  exact ⟨g, cap, cur, hv, hb, keepC hg hr hh, r⟩

theorem own_base {w : World} {base base' : Nat} {e : TypeId} {size : Nat} {v : Value} {n : Nat} {xs : List Value} (h : w.ownsRow base e size v n xs) (hb : base' ≤ base) : w.ownsRow base' e size v n xs := by
  obtain ⟨h1, h2⟩ := h
  refine ⟨h1, h2.imp id ?_⟩
  rintro ⟨g, cap, cur, hv, hg, r⟩
  exact ⟨g, cap, cur, hv, Nat.le_trans hb hg, r⟩
end Go.Proofs.Ytcabmibcgedhhaa

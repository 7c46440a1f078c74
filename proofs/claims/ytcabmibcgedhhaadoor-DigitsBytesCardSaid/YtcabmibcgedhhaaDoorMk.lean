/-
  The makers that this program has: alloc, make. No condition.
-/
import Derived.Test.YtcabmibcgedhhaaDoorBase
import Derived.Test.YtcabmibcgedhhaaDoorFlow3
namespace Go.Cd
open Go.RowKit

theorem heap_set1 {w : World} {k : Nat} {c u : Value} {T : TypeId} {fr : Nat × Nat} (h : w.heap[k]? = some (.cells #[c] T fr)) : (w.setCell ⟨k, 0, none⟩ u).heap[k]? = some (.cells #[u] T fr) := by
  simp only [World.setCell, Array.getElem?_modify, if_pos, h]
  simp

/-- The block in which a value lies. -/
def blkOf : Value → Nat
  | .pointer (some a) => a.block
  | .slice (some a) _ _ => a.block
  | _ => 0

theorem mk_alloc {P : Program} {ops : Array Oper} {o : Oper} {a : Act} {w : World} {T : TypeId} {cs : Array Value} (hg : o.guard = none) (ho : o.op = .alloc T)
    (hz : ∀ W, (Instr.alloc T true (.tuple #[])).run P W = .ok (.pointer (some ⟨W.heap.size, 0, none⟩)) (W.alloc (.cells cs T))) :
    MkAt P ops (fun v W => ∃ k, v = .pointer (some ⟨k, 0, none⟩) ∧ W.heap[k]? = some (.cells cs T)) blkOf o a w := by
  refine ⟨by simp [Region.wanted, hg], fun W hW => ⟨_, _, ?_, below_new _, ⟨W.heap.size, rfl, heap_alloc_new' _ _ _ rfl⟩, Nat.le_refl _, ?_⟩⟩
  · have : execOp a.eval o = (do pure (.value (← Instr.alloc T true (.tuple #[])))) := by simp only [execOp, ho]
    rw [this]
    show (Sem.bind _ _).run P W = _
    rw [Sem.run_bind', hz W]
    rfl
  · simp [blkOf]

theorem mk_make {P : Program} {ops : Array Oper} {o : Oper} {a : Act} {w : World} {t e : TypeId} {l c : Operand} {z : Value} {bytes n : Nat} (hg : o.guard = none) (ho : o.op = .makeSlice t l c)
    (hE : Elem P t e z bytes) (hzc : z.cells = #[z]) (kl kc : IntKind) (L C : Int) (hl : a.eval l = .int kl L) (hc : a.eval c = .int kc C) (hL : L = (n : Int)) (hC : C = (n : Int)) (b2 : bytes * n ≤ 281474976710656) (b3 : n ≤ maxLen) :
    MkAt P ops (fun v W => ∃ g, v = .slice (some ⟨g, 0, none⟩) n n ∧ W.ownsRow w.heap.size e 1 v n (List.replicate n z)) blkOf o a w := by
  obtain ⟨hz1, ht, i, hi, hz, hsize, hby⟩ := hE
  refine ⟨by simp [Region.wanted, hg], fun W hW => ?_⟩
  obtain ⟨w', hr, ho', hg'⟩ := run_make_full (P := P) W w.heap.size t e i z 1 ht hi hz hsize kl kc n (by rw [hby]; exact b2) b3 hW.size
  refine ⟨_, w', ?_, grown_ext hg', ⟨_, rfl, ?_⟩, Nat.le_refl _, ?_⟩
  · have : execOp a.eval o = (do pure (.value (← Instr.makeSlice t (a.eval l) (a.eval c)))) := by simp only [execOp, ho]
    rw [this, hl, hc, hL, hC]
    show (Sem.bind _ _).run P W = _
    rw [Sem.run_bind', hr]
    rfl
  · rw [hzc, Nat.mul_one, toList_madeCells_one] at ho'
    exact ho'
  · exact (ho'.lt W.heap.size rfl).2

theorem putS_one {ops : Array Oper} {vs : Nat → Value} {i : Nat} {a : Act} {d : Option Tmp} (h : dstOf ops i = d) : putS ops vs [i] a = a.put d (vs i) := by subst h; rfl
theorem putS_two {ops : Array Oper} {vs : Nat → Value} {i k : Nat} {a : Act} {d e : Option Tmp} (h : dstOf ops i = d) (g : dstOf ops k = e) : putS ops vs [i, k] a = (a.put d (vs i)).put e (vs k) := by subst h g; rfl
theorem putS_three {ops : Array Oper} {vs : Nat → Value} {i k l : Nat} {a : Act} {d e f : Option Tmp} (h : dstOf ops i = d) (g : dstOf ops k = e) (j : dstOf ops l = f) : putS ops vs [i, k, l] a = ((a.put d (vs i)).put e (vs k)).put f (vs l) := by subst h g j; rfl

theorem blk_mono {w w' : World} {v : Value} {o : Obj} (hb : Below w.heap.size w w') (h : ∃ k, v = .pointer (some ⟨k, 0, none⟩) ∧ w.heap[k]? = some o) : ∃ k, v = .pointer (some ⟨k, 0, none⟩) ∧ w'.heap[k]? = some o := by
  obtain ⟨k, h1, h2⟩ := h
  exact ⟨k, h1, (hb.block k (block_lt h2)).trans h2⟩

/-- Three boxes are written, one behind the other. -/
theorem box3 {w : World} {k1 k2 k3 : Nat} {s1 s2 s3 c1 c2 c3 : Value} {T : TypeId} {f1 f2 f3 : Nat × Nat} {x y z : Nat} (h1 : w.heap[k1]? = some (.cells #[c1] T f1)) (h2 : w.heap[k2]? = some (.cells #[c2] T f2)) (h3 : w.heap[k3]? = some (.cells #[c3] T f3)) (hT : T ≠ eU32)
    (n12 : k1 ≠ k2) (n13 : k1 ≠ k3) (n23 : k2 ≠ k3) (hx : NatV w (.agg #[s1]) x) (hy : NatV w (.agg #[s2]) y) (hz : NatV w (.agg #[s3]) z) :
    let W := ((w.setCell ⟨k1, 0, none⟩ s1).setCell ⟨k2, 0, none⟩ s2).setCell ⟨k3, 0, none⟩ s3
    W.heap[k1]? = some (.cells #[s1] T f1) ∧ W.heap[k2]? = some (.cells #[s2] T f2) ∧ W.heap[k3]? = some (.cells #[s3] T f3) ∧ NatV W (.agg #[s1]) x ∧ NatV W (.agg #[s2]) y ∧ NatV W (.agg #[s3]) z := by
  intro W
  have a2 : (w.setCell ⟨k1, 0, none⟩ s1).heap[k2]? = some (.cells #[c2] T f2) := (Below.heap_setCell _ _ _ _ (by simp only; omega)).trans h2
  have a3 : ((w.setCell ⟨k1, 0, none⟩ s1).setCell ⟨k2, 0, none⟩ s2).heap[k3]? = some (.cells #[c3] T f3) := (Below.heap_setCell _ _ _ _ (by simp only; omega)).trans ((Below.heap_setCell _ _ _ _ (by simp only; omega)).trans h3)
  have b1 : (w.setCell ⟨k1, 0, none⟩ s1).heap[k1]? = some (.cells #[s1] T f1) := heap_set1 h1
  have b2 := heap_set1 (u := s2) a2
  have b3 := heap_set1 (u := s3) a3
  refine ⟨?_, ?_, b3, ((hx.put h1 hT).put a2 hT).put a3 hT, ((hy.put h1 hT).put a2 hT).put a3 hT, ((hz.put h1 hT).put a2 hT).put a3 hT⟩
  · exact (Below.heap_setCell _ _ _ _ (by simp only; omega)).trans ((Below.heap_setCell _ _ _ _ (by simp only; omega)).trans b1)
  · exact (Below.heap_setCell _ _ _ _ (by simp only; omega)).trans b2

end Go.Cd

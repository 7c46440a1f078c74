/-
  The walk of digits.Text.
-/
import Derived.Test.YtcabmibcgedhhaaDoorByt2
import Derived.Test.YtcabmibcgedhhaaDoorDiv4
import Derived.Test.YtcabmibcgedhhaaDoorMk
import Derived.Test.YtcabmibcgedhhaaDoorFlow4
import Derived.Test.YtcabmibcgedhhaaDoorNat7
namespace Go.Proofs.YtcabmibcgedhhaaDoor
open Go.RowKit Go.Cd

abbrev tNat : TypeId := 25

theorem own_block {w : World} {base n : Nat} {e : TypeId} {o : Value} {xs : List Value} (h : w.ownsRow base e 1 o n xs) {g : Nat} (hg : o.ownBlock = some g) : ∃ cur fr, w.heap[g]? = some (.cells cur e fr) := by
  obtain ⟨_, h2⟩ := h
  rcases h2 with ⟨rfl, _⟩ | ⟨g', cap, cur, rfl, _, hh, _⟩
  · simp [Value.ownBlock] at hg
  · simp [Value.ownBlock] at hg
    subst hg
    exact ⟨cur, _, hh⟩

/-- A block of another element type stays when a row of the call's own grows. -/
theorem heap_grown {w w' : World} {base n : Nat} {e T : TypeId} {o : Value} {xs : List Value} (h : w.ownsRow base e 1 o n xs) (hg : w.grownBy w' o.ownBlock) {k : Nat} {cs : Array Value} {fr : Nat × Nat} (hk : w.heap[k]? = some (.cells cs T fr)) (hT : T ≠ e) : w'.heap[k]? = some (.cells cs T fr) := by
  rw [hg.block k (block_lt hk) (fun hc => ?_)]
  · exact hk
  · obtain ⟨cur, fr', hh⟩ := own_block h hc.symm
    rw [hk] at hh
    cases hh
    exact hT rfl

theorem sl_grown {w w' : World} {base n : Nat} {e T : TypeId} {o v : Value} {xs ys : List Value} (h : w.ownsRow base e 1 o n xs) (hg : w.grownBy w' o.ownBlock) (hv : Sl T w v ys) (hT : T ≠ e) : Sl T w' v ys := by
  obtain ⟨a, cap, rfl, hc, hr⟩ := hv
  refine ⟨a, cap, rfl, hc, hr.imp id ?_⟩
  rintro ⟨b, off, cs, fr, ha, hh, hx⟩
  exact ⟨b, off, cs, fr, ha, heap_grown h hg hh hT, hx⟩

theorem nat_grown {w w' : World} {base n : Nat} {e : TypeId} {o v : Value} {xs : List Value} {x : Nat} (h : w.ownsRow base e 1 o n xs) (hg : w.grownBy w' o.ownBlock) (hv : NatV w v x) (hT : eU32 ≠ e) : NatV w' v x := by
  obtain ⟨s, rfl, hs⟩ := hv
  exact ⟨s, rfl, sl_grown h hg hs hT⟩

/-- A store into a block of another element type leaves a row of the call's own. -/
theorem own_put {w : World} {base n : Nat} {e T : TypeId} {o : Value} {xs : List Value} (h : w.ownsRow base e 1 o n xs) {k off : Nat} {u : Value} {cs : Array Value} {fr : Nat × Nat} (hk : w.heap[k]? = some (.cells cs T fr)) (hT : T ≠ e) : (w.setCell ⟨k, off, none⟩ u).ownsRow base e 1 o n xs := by
  obtain ⟨h1, h2⟩ := h
  refine ⟨h1, h2.imp id ?_⟩
  rintro ⟨g, cap, cur, hv, hg, hh, r⟩
  refine ⟨g, cap, cur, hv, hg, ?_, r⟩
  rw [Below.heap_setCell _ _ _ _ (fun e' => ?_)]
  · exact hh
  · simp only at e'
    subst e'
    rw [hk] at hh
    cases hh
    exact hT rfl

/-- 'append(out, x)', out the call's own; and what it leaves be. -/
theorem wpList_pushG {P : Program} {W : World} {ops : Array Oper} {rest : List Oper} {o : Oper} {a : Act} {Q : Exit → Act → World → Prop} (hgd : o.guard = none) (s x : Operand) (t : TypeId)
    (ho : o.op = .call { callee := .builtin .append, args := #[s, x], argTypes := #[t, t] })
    (base : Nat) (e : TypeId) (z : Value) (bytes : Nat) (hE : Elem P t e z bytes)
    (v : Value) (n : Nat) (xs : List Value) (hs : a.eval s = v) (hown : W.ownsRow base e 1 v n xs)
    (u : Value) (hx : a.eval x = .slice (some ⟨W.heap.size, 0, none⟩) 1 1) (h1 : u.oneCell' = true)
    (hbytes : (n + 1) * bytes ≤ 140737488355328) (h63 : n + 1 ≤ maxLen) (w0 : World) (hb : Below base w0 W) (hbase : base ≤ w0.heap.size)
    (h : ∀ v' w', w'.ownsRow base e 1 v' (n + 1) (xs ++ [u]) → Below base w0 w' → (W.alloc (.cells #[u] e)).ownsRow base e 1 v n xs → (W.alloc (.cells #[u] e)).grownBy w' v.ownBlock → wpList P ops Q rest (a.put o.dst v') w') : wpList P ops Q (o :: rest) a (W.alloc (.cells #[u] e)) := by
  have hsz := hb.size
  refine wpList_append_sl hgd s x t ho base e z bytes hE v n xs hs (hown.alloc _) _ [u] hx (sla_new W #[u] e) (by simpa using h1) (by simpa using h63) (by simpa using hbytes) (by simp; omega) ?_
  intro v' w' h2 h3
  refine h v' w' (by simpa using h2) ((hb.alloc (by omega) _).grown h3 (by simp; omega) ?_) (hown.alloc _) h3
  intro k hk
  exact (hown.lt k hk).1

/-- A number's decimal text. -/
def decT (x : Nat) : List Nat := if x = 0 then [48] else (digs 10 x).reverse.map (48 + ·)
/-- digits as letters -/
def lets (l : List Nat) : List Nat := l.map (48 + ·)

theorem lets_lt {l : List Nat} (h : ∀ d ∈ l, d < 10) : ∀ d ∈ lets l, d < 256 := by
  intro d hd
  obtain ⟨c, hc, rfl⟩ := List.mem_map.1 hd
  have := h c hc
  omega

theorem digL10 {x n : Nat} (h : (digs 10 x).length ≤ n) : digL 10 x n = digs 10 x ++ List.replicate (n - (digs 10 x).length) 0 := by
  refine List.ext_getElem (by simp; omega) fun i h1 h2 => ?_
  have hi : i < n := by simpa using h1
  have e1 : (digL 10 x n)[i] = dig 10 x i := by simp [digL]
  rw [e1, ← dig_eq (by omega), List.getElem_append]
  by_cases hc : i < (digs 10 x).length
  · rw [dif_pos hc, List.getElem?_eq_getElem hc]; rfl
  · rw [dif_neg hc, List.getElem?_eq_none (by omega), List.getElem_replicate]; rfl

theorem dropWhile_reps (k : Nat) (l : List UInt8) (c : UInt8) (h : ∀ d, l.head? = some d → d ≠ c) : (List.replicate k c ++ l).dropWhile (· == c) = l := by
  induction k with
  | zero =>
    simp only [List.replicate_zero, List.nil_append]
    cases l with
    | nil => rfl
    | cons d l => simp [List.dropWhile_cons, h d rfl]
  | succ k ih => simp [List.replicate_succ, List.dropWhile_cons, ih]

/-- The letters of the digits so far, the highest first, without the noughts ahead. -/
theorem trim_text {x n : Nat} (hx : x ≠ 0) (h : (digs 10 x).length ≤ n) : (⟨(Lib.trimLeftB (str (lets (digL 10 x n)).reverse).data.toList 48).toArray⟩ : ByteArray) = str (decT x) := by
  have e0 : (str (lets (digL 10 x n)).reverse).data.toList = List.replicate (n - (digs 10 x).length) (48 : UInt8) ++ ((digs 10 x).reverse.map (48 + ·)).map UInt8.ofNat := by
    rw [digL10 h]
    simp [str, lets, List.map_reverse, List.reverse_append]
  have e1 : ∀ d, (((digs 10 x).reverse.map (48 + ·)).map UInt8.ofNat).head? = some d → d ≠ 48 := by
    intro d hd hc
    rw [List.map_map, List.head?_map, List.head?_reverse] at hd
    cases hl : (digs 10 x).getLast? with
    | none => rw [hl] at hd; cases hd
    | some c =>
      rw [hl] at hd
      simp only [Option.map_some, Option.some.injEq, Function.comp] at hd
      have h1 := digs_last (by omega) x c hl
      have h2 := digs_lt (by omega) x c (List.mem_of_getLast? hl)
      have h3 : (UInt8.ofNat (48 + c)).toNat = 48 + c := toNat_ofNat (by omega)
      rw [hd, hc] at h3
      have h4 : (48 : UInt8).toNat = 48 := rfl
      omega
  unfold Lib.trimLeftB
  rw [e0, dropWhile_reps _ _ _ e1]
  simp [str, decT, hx]
end Go.Proofs.YtcabmibcgedhhaaDoor

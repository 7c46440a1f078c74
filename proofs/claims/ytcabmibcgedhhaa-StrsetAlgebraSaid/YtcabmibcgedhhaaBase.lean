/-
  What the walks of this claim share: slices that read as lists, worlds that keep what there was. No condition.
-/
import Derived.Test.YtcabmibcgedhhaaRows
import Derived.WalkKit
import Derived.WalkSpells
import Derived.WalkLawsBesides
import Derived.Lib.Hide
import Derived.BigQuiet
import Derived.Laws.AppendOwnNone
import Derived.Test.YtcabmibcgedhhaaFlow
import Derived.Test.YtcabmibcgedhhaaDigs
namespace Go.Cd
open Go.RowKit

/-- The slice value v, of elements of type e of one cell each, reads as xs. -/
def Sl (e : TypeId) (w : World) (v : Value) (xs : List Value) : Prop :=
  ∃ a cap, v = .slice a xs.length cap ∧ xs.length ≤ cap ∧ (xs = [] ∧ (a = none → cap = 0) ∨ ∃ b off cs fr, a = some ⟨b, off, none⟩ ∧ w.heap[b]? = some (.cells cs e fr) ∧ ∀ i (h : i < xs.length), cs[off + i]? = some xs[i])

/-- The same, whatever the type of the block in which it lies. -/
def SlA (w : World) (v : Value) (xs : List Value) : Prop :=
  ∃ a cap, v = .slice a xs.length cap ∧ xs.length ≤ cap ∧ (xs = [] ∧ (a = none → cap = 0) ∨ ∃ b off cs e fr, a = some ⟨b, off, none⟩ ∧ w.heap[b]? = some (.cells cs e fr) ∧ ∀ i (h : i < xs.length), cs[off + i]? = some xs[i])

theorem Sl.any {e : TypeId} {w : World} {v : Value} {xs : List Value} (h : Sl e w v xs) : SlA w v xs := by
  obtain ⟨a, cap, hv, hc, h⟩ := h
  exact ⟨a, cap, hv, hc, h.imp id fun ⟨b, off, cs, fr, r⟩ => ⟨b, off, cs, e, fr, r⟩⟩

theorem block_lt {w : World} {b : Nat} {o : Obj} (h : w.heap[b]? = some o) : b < w.heap.size := (Array.getElem?_eq_some_iff.1 h).1

theorem Sl.mono {e : TypeId} {w w' : World} {v : Value} {xs : List Value} (h : Sl e w v xs) (hb : Below w.heap.size w w') : Sl e w' v xs := by
  obtain ⟨a, cap, hv, hc, h⟩ := h
  refine ⟨a, cap, hv, hc, h.imp id ?_⟩
  rintro ⟨b, off, cs, fr, ha, hh, hx⟩
  exact ⟨b, off, cs, fr, ha, by rw [hb.block b (block_lt hh)]; exact hh, hx⟩

theorem SlA.mono {w w' : World} {v : Value} {xs : List Value} (h : SlA w v xs) (hb : Below w.heap.size w w') : SlA w' v xs := by
  obtain ⟨a, cap, hv, hc, h⟩ := h
  refine ⟨a, cap, hv, hc, h.imp id ?_⟩
  rintro ⟨b, off, cs, e, fr, ha, hh, hx⟩
  exact ⟨b, off, cs, e, fr, ha, by rw [hb.block b (block_lt hh)]; exact hh, hx⟩

theorem Sl.nil (e : TypeId) (w : World) (a : Option Addr) (cap : Nat) (h : a = none → cap = 0) : Sl e w (.slice a 0 cap) [] := ⟨a, cap, rfl, Nat.zero_le _, .inl ⟨rfl, h⟩⟩

/-- Its shape: a length, cells. -/
theorem SlA.out {w : World} {v : Value} {xs : List Value} (h : SlA w v xs) : ∃ a cap, v = .slice a xs.length cap ∧ xs.length ≤ cap ∧
    ∀ i (hi : i < xs.length), ∃ b off, a = some ⟨b, off, none⟩ ∧ b < w.heap.size ∧ w.cell? ⟨b, off + i, none⟩ = some xs[i] := by
  obtain ⟨a, cap, hv, hc, h⟩ := h
  refine ⟨a, cap, hv, hc, fun i hi => ?_⟩
  rcases h with h | ⟨b, off, cs, e, fr, ha, hh, hx⟩
  · rw [h.1] at hi; simp at hi
  · refine ⟨b, off, ha, block_lt hh, ?_⟩
    unfold World.cell?
    rw [hh]
    simpa using hx i hi

theorem Sl.out {e : TypeId} {w : World} {v : Value} {xs : List Value} (h : Sl e w v xs) : ∃ a cap, v = .slice a xs.length cap ∧ xs.length ≤ cap ∧
    ∀ i (hi : i < xs.length), ∃ b off, a = some ⟨b, off, none⟩ ∧ b < w.heap.size ∧ w.cell? ⟨b, off + i, none⟩ = some xs[i] := h.any.out

/-- Either there is nothing in it, or it begins in a block. -/
theorem SlA.cases {w : World} {v : Value} {xs : List Value} (h : SlA w v xs) : (xs = [] ∧ ∃ a cap, v = .slice a 0 cap ∧ (a = none → cap = 0)) ∨
    ∃ b off cap, v = .slice (some ⟨b, off, none⟩) xs.length cap ∧ xs.length ≤ cap ∧ 0 < xs.length ∧ b < w.heap.size ∧ ∀ i (hi : i < xs.length), w.cell? ⟨b, off + i, none⟩ = some xs[i] := by
  obtain ⟨a, cap, hv, hc, h⟩ := h
  by_cases hn : xs = []
  · subst hn
    refine .inl ⟨rfl, ?_⟩
    rcases h with h | ⟨b, off, cs, e, fr, ha, hh, hx⟩
    · exact ⟨a, cap, hv, h.2⟩
    · exact ⟨a, cap, hv, fun e => by rw [ha] at e; cases e⟩
  · rcases h with h | ⟨b, off, cs, e, fr, ha, hh, hx⟩
    · exact absurd h.1 hn
    · subst ha
      refine .inr ⟨b, off, cap, hv, hc, List.length_pos_iff.2 hn, block_lt hh, fun i hi => ?_⟩
      unfold World.cell?
      rw [hh]
      simpa using hx i hi

def u32s (l : List Nat) : List Value := l.map fun d : Nat => Value.int .u32 (d : Int)
/-- digits as ints -/
def ds (l : List Nat) : List Value := l.map fun d : Nat => Value.int .i64 (d : Int)
@[simp] theorem length_ds (l : List Nat) : (ds l).length = l.length := by simp [ds]
theorem ds_getElem (l : List Nat) (i : Nat) (h : i < l.length) : (ds l)[i]'(by simpa using h) = .int .i64 (l[i] : Nat) := by simp [ds]
theorem ds_append (l m : List Nat) : ds (l ++ m) = ds l ++ ds m := by simp [ds]
def i64s (l : List Int) : List Value := l.map fun d : Int => Value.int .i64 d

@[simp] theorem length_u32s (l : List Nat) : (u32s l).length = l.length := by simp [u32s]
@[simp] theorem length_i64s (l : List Int) : (i64s l).length = l.length := by simp [i64s]

abbrev eU32 : TypeId := 57
abbrev eInt : TypeId := 3
/-- 2^32 -/
def B : Nat := 4294967296

/-- A value of type nat.Nat is this number. -/
def NatV (w : World) (v : Value) (x : Nat) : Prop := ∃ s, v = .agg #[s] ∧ Sl eU32 w s (u32s (digs B x))
/-- A row of decimal digits, as the references have them, is this number. -/
def DecV (w : World) (v : Value) (x : Nat) : Prop := Sl eInt w v (ds (digs 10 x))

theorem NatV.mono {w w' : World} {v : Value} {x : Nat} (h : NatV w v x) (hb : Below w.heap.size w w') : NatV w' v x := by
  obtain ⟨s, hv, hs⟩ := h
  exact ⟨s, hv, hs.mono hb⟩
theorem DecV.mono {w w' : World} {v : Value} {x : Nat} (h : DecV w v x) (hb : Below w.heap.size w w') : DecV w' v x := Sl.mono h hb

theorem NatV.out {w : World} {v : Value} {x : Nat} (h : NatV w v x) : ∃ a n cap, v = .agg #[.slice a n cap] ∧ NatV w (.agg #[.slice a n cap]) x := by
  obtain ⟨s, rfl, a, cap, rfl, hr⟩ := h
  exact ⟨a, _, cap, rfl, ⟨_, rfl, a, cap, rfl, hr⟩⟩

theorem NatV.len {w : World} {a : Option Addr} {n cap x : Nat} (h : NatV w (.agg #[.slice a n cap]) x) : n = (digs B x).length := by
  obtain ⟨s, hs, a', cap', rfl, _⟩ := h
  simp at hs
  exact hs.2.1

/-- A store into a block of another type. -/
theorem Sl.put {e : TypeId} {w : World} {v : Value} {xs : List Value} (h : Sl e w v xs) {k o : Nat} {u : Value} {cs : Array Value} {T : TypeId} {fr : Nat × Nat} (hk : w.heap[k]? = some (.cells cs T fr)) (hT : T ≠ e) :
    Sl e (w.setCell ⟨k, o, none⟩ u) v xs := by
  obtain ⟨a, cap, hv, hc, h⟩ := h
  refine ⟨a, cap, hv, hc, h.imp id ?_⟩
  rintro ⟨b, off, cs', fr', ha, hh, hx⟩
  refine ⟨b, off, cs', fr', ha, ?_, hx⟩
  rw [Below.heap_setCell _ _ _ _ (fun e => ?_)]
  · exact hh
  · simp only at e
    subst e
    rw [hk] at hh
    cases hh
    exact hT rfl

theorem NatV.put {w : World} {v : Value} {x : Nat} (h : NatV w v x) {k o : Nat} {u : Value} {cs : Array Value} {T : TypeId} {fr : Nat × Nat} (hk : w.heap[k]? = some (.cells cs T fr)) (hT : T ≠ eU32) :
    NatV (w.setCell ⟨k, o, none⟩ u) v x := by
  obtain ⟨s, hv, hs⟩ := h
  exact ⟨s, hv, hs.put hk hT⟩

theorem cell_put {w : World} {k o : Nat} {u : Value} {cs : Array Value} {T : TypeId} {fr : Nat × Nat} (hk : w.heap[k]? = some (.cells cs T fr)) (ho : o < cs.size) : (w.setCell ⟨k, o, none⟩ u).cell? ⟨k, o, none⟩ = some u :=
  World.cell?_setCell_same (w := w) (a := ⟨k, o, none⟩) (v := u) (u := cs[o]) (by unfold World.cell?; rw [hk]; simp [ho])

/-- A number stored into its box. -/
theorem box_nat {w2 : World} {k : Nat} {a : Option Addr} {n cap x : Nat} {c : Value} {T : TypeId} {fr : Nat × Nat} (hk : w2.heap[k]? = some (.cells #[c] T fr)) (hT : T ≠ eU32) (hN : NatV w2 (.agg #[.slice a n cap]) x) :
    (w2.setCell ⟨k, 0, none⟩ (.slice a n cap)).cell? ⟨k, 0, none⟩ = some (.slice a n cap) ∧ NatV (w2.setCell ⟨k, 0, none⟩ (.slice a n cap)) (.agg #[.slice a n cap]) x :=
  ⟨cell_put hk (by simp), hN.put hk hT⟩

theorem ret_bool {a b : Bool} (h : a = b) : Ending.returned (.bool a) = .returned (.bool b) := by rw [h]
theorem ret_int {k : IntKind} {a b : Int} (h : a = b) : Ending.returned (.int k a) = .returned (.int k b) := by rw [h]

theorem heap_alloc_new' (w : World) (o : Obj) (k : Nat) (h : k = w.heap.size) : (w.alloc o).heap[k]? = some o := by subst h; exact heap_alloc_new _ _

theorem heap_at (w : World) (o : Obj) : (w.alloc o).heap[w.heap.size]? = some o := heap_alloc_new _ _

theorem two_le_B : 2 ≤ B := by unfold B; omega

/-- What a call leaves: all cells and marks that there were read as they did. -/
theorem bcell {W w1 : World} (hb : Below W.heap.size W w1) : (∀ b o, b < W.heap.size → w1.cell? ⟨b, o, none⟩ = W.cell? ⟨b, o, none⟩) ∧ (∀ b o, b < W.heap.size → w1.frozen? ⟨b, o, none⟩ = W.frozen? ⟨b, o, none⟩) :=
  ⟨fun b o h => hb.cell (p := ⟨b, o, none⟩) h, fun b o h => hb.frozen (p := ⟨b, o, none⟩) h⟩

/-- What a call owns reads as it is. -/
theorem Sl.of_own {w : World} {base : Nat} {e : TypeId} {v : Value} {n : Nat} {xs : List Value} (h : w.ownsRow base e 1 v n xs) : Sl e w v xs := by
  obtain ⟨h1, h2⟩ := h
  simp only [Nat.mul_one] at h1 h2
  rcases h2 with ⟨rfl, rfl⟩ | ⟨g, cap, cur, rfl, hg, hh, hc, hm, hs, ht⟩
  · obtain rfl := List.length_eq_zero_iff.1 h1
    exact .nil _ _ _ _ (fun _ => rfl)
  · refine ⟨_, cap, by rw [h1], by rw [h1]; exact hc, .inr ⟨g, 0, cur, (0, 0), rfl, hh, fun i hi => ?_⟩⟩
    subst ht
    rw [List.length_take] at hi
    rw [Nat.zero_add, List.getElem_take, ← Array.getElem?_toList]
    exact List.getElem?_eq_getElem _

/-- A slice of elements of one cell: its element type's row of the table. -/
def Elem (P : Program) (t e : TypeId) (z : Value) (bytes : Nat) : Prop :=
  z.oneCell' = true ∧ P.underlying t = some (.slice e) ∧ ∃ i, P.info? e = some i ∧ i.zero = some z ∧ i.size = 1 ∧ i.bytes = bytes

theorem own_empty (w : World) (e : TypeId) : (w.alloc (.cells #[] e)).ownsRow w.heap.size e 1 (.slice (some ⟨w.heap.size, 0, none⟩) 0 0) 0 [] :=
  ⟨by simp, .inr ⟨w.heap.size, 0, #[], rfl, Nat.le_refl _, heap_alloc_new _ _, Nat.le_refl _, Nat.zero_le _, rfl, rfl⟩⟩

theorem oneCell_size {z : Value} (h : z.oneCell' = true) : z.cells.size = 1 := by
  cases z <;> first | rfl | (simp [Value.oneCell'] at h)

/-- 'append(out, xs...)', out the call's own, xs whatever reads as a list. -/
theorem wpList_append_sl {P : Program} {w : World} {ops : Array Oper} {rest : List Oper} {o : Oper} {a : Act} {Q : Exit → Act → World → Prop} (hgd : o.guard = none) (s x : Operand) (t : TypeId)
    (ho : o.op = .call { callee := .builtin .append, args := #[s, x], argTypes := #[t, t] })
    (base : Nat) (e : TypeId) (z : Value) (bytes : Nat) (hE : Elem P t e z bytes)
    (v : Value) (n : Nat) (xs : List Value) (hs : a.eval s = v) (hown : w.ownsRow base e 1 v n xs)
    (u : Value) (news : List Value) (hx : a.eval x = u) (hu : SlA w u news) (h1 : ∀ u ∈ news, u.oneCell' = true)
    (h63 : n + news.length ≤ maxLen) (hbytes : (n + news.length) * bytes ≤ 140737488355328) (hbase : base ≤ w.heap.size)
    (h : ∀ v' w', w'.ownsRow base e 1 v' (n + news.length) (xs ++ news) → w.grownBy w' v.ownBlock → wpList P ops Q rest (a.put o.dst v') w') : wpList P ops Q (o :: rest) a w := by
  obtain ⟨hz1, ht, i, hi, hz, hsize, hby⟩ := hE
  obtain ⟨ad, cap, rfl, hc, hr⟩ := hu
  cases ad with
  | none =>
    have hn : news = [] := by
      rcases hr with hr | ⟨b, off, cs, _, fr, ha, _⟩
      · exact hr.1
      · cases ha
    subst hn
    have hcap : cap = 0 := by
      rcases hr with hr | ⟨b, off, cs, _, fr, ha, _⟩
      · exact hr.2 rfl
      · cases ha
    subst hcap
    refine wpList_append_own_none hgd s x t ho base e i 1 ht hi v n xs hs hown hx ?_
    exact h v w (by simpa using hown) ⟨rfl, rfl, rfl, Nat.le_refl _, fun _ _ _ => rfl⟩
  | some ad =>
    refine wpList_append_own w hgd s x t ho base e i z 1 bytes ht hi hz hsize hby (oneCell_size hz1) (by decide) v n xs hs hown ad news.length cap news hx (by simp) ?_ h1 h63 hbytes hbase ?_
    · intro j y hj
      obtain ⟨hlt, rfl⟩ := List.getElem?_eq_some_iff.1 hj
      rcases hr with hr | ⟨b, off, cs, _, fr, ha, hh, hcs⟩
      · rw [hr.1] at hlt; simp at hlt
      · cases ha
        have := hcs j hlt
        unfold World.cell? Addr.add
        by_cases hj0 : j = 0
        · subst hj0; simp only [if_true]; rw [hh]; simpa using this
        · rw [if_neg hj0]; simp only; rw [hh]; simpa using this
    · intro v' w' h2 h3 _
      exact h v' w' h2 h3

/-- A store into a block from B on. -/
theorem below_put {B : Nat} {a w : World} {b off : Nat} {u : Value} (h : Below B a w) (hb : B ≤ b) : Below B a (w.setCell ⟨b, off, none⟩ u) := h.setCell hb u
theorem below_new {w : World} (o : Obj) : Below w.heap.size w (w.alloc o) := (Below.refl _ _).alloc (Nat.le_refl _) o

theorem below_drew {B : Nat} (w : World) : Below B w w.drew := (Below.refl _ _).drew
theorem ext_drew (w : World) : Below w.heap.size w w.drew := (Below.refl _ _).drew
/-- A cell that there was, read behind what keeps it. -/
theorem cellE {w0 w : World} (E : Below w0.heap.size w0 w) {b o : Nat} {v : Value} (h : w0.cell? ⟨b, o, none⟩ = some v) : w.cell? ⟨b, o, none⟩ = some v :=
  (E.cell (p := ⟨b, o, none⟩) (World.block_lt_of_cell? w0 ⟨b, o, none⟩ h)).trans h
theorem Gr.cell {w0 w : World} (E : Below w0.heap.size w0 w) {b o : Nat} {v : Value} (h : w0.cell? ⟨b, o, none⟩ = some v) : ∀ g : Gr w, g.to.cell? ⟨b, o, none⟩ = some v :=
  fun g => cellE (ext_trans E g.ext) h
theorem below2 {w : World} (o o' : Obj) : Below w.heap.size w ((w.alloc o).alloc o') := (below_new o).alloc (by simp) o'

/-- 'make([]T, n)'. -/
theorem wpList_make_sl {P : Program} (w : World) {ops : Array Oper} {rest : List Oper} {o : Oper} {a : Act} {Q : Exit → Act → World → Prop}
    (hg : o.guard = none) (l c : Operand) (t : TypeId) (hop : o.op = Op.makeSlice t l c)
    (base : Nat) (e : TypeId) (z : Value) (bytes : Nat) (hE : Elem P t e z bytes) (hzc : z.cells = #[z])
    (kl kc : IntKind) (L C : Int) (n : Nat) (hl : a.eval l = .int kl L) (hc : a.eval c = .int kc C) (hL : L = (n : Int)) (hC : C = (n : Int)) (b2 : bytes * n ≤ 281474976710656) (b3 : n ≤ maxLen) (b4 : base ≤ w.heap.size)
    (hK : ∀ w', w'.ownsRow base e 1 (.slice (some ⟨w.heap.size, 0, none⟩) n n) n (List.replicate n z) → w.grownBy w' none → wpList P ops Q rest (a.put o.dst (.slice (some ⟨w.heap.size, 0, none⟩) n n)) w') :
    wpList P ops Q (o :: rest) a w := by
  obtain ⟨hz1, ht, i, hi, hz, hsize, hby⟩ := hE
  refine wpList_make_full w hg l c t hop base e i z 1 ht hi hz hsize kl kc L C n hl hc hL hC (by rw [hby]; exact b2) b3 b4 fun w' h1 h2 => hK w' ?_ h2
  rw [hzc, Nat.mul_one, toList_madeCells_one] at h1
  exact h1

/-- A cell of a row of the call's own: what it holds; it may be written; the row behind a store. -/
theorem own_at {w : World} {base : Nat} {e : TypeId} {g n cap : Nat} {xs : List Value} (h : w.ownsRow base e 1 (.slice (some ⟨g, 0, none⟩) n cap) n xs) {j : Nat} (hj : j < xs.length) :
    w.cell? ⟨g, j, none⟩ = some xs[j] ∧ w.frozen? ⟨g, j, none⟩ = false := by
  have hl : xs.length = n * 1 := h.1
  exact ⟨by rw [h.cellAt j (by omega)]; exact List.getElem?_eq_getElem hj, h.frozenAt j⟩

theorem own_ext {w w' : World} {base : Nat} {e : TypeId} {size : Nat} {v : Value} {n : Nat} {xs : List Value} (h : w.ownsRow base e size v n xs) (hb : Below w.heap.size w w') : w'.ownsRow base e size v n xs := by
  obtain ⟨h1, h2⟩ := h
  refine ⟨h1, h2.imp id ?_⟩
  rintro ⟨g, cap, cur, hv, hg, hh, r⟩
  exact ⟨g, cap, cur, hv, hg, by rw [hb.block g (block_lt hh)]; exact hh, r⟩

theorem grown_ext {w w' : World} (h : w.grownBy w' none) : Below w.heap.size w w' :=
  ⟨h.os, h.tape, h.output, h.size, fun k hk => h.block k hk (by simp)⟩

/-- A new block reads as its cells. -/
theorem sla_new (w : World) (cs : Array Value) (e : TypeId) : SlA (w.alloc (.cells cs e)) (.slice (some ⟨w.heap.size, 0, none⟩) cs.size cs.size) cs.toList :=
  ⟨_, cs.size, by simp, by simp, .inr ⟨w.heap.size, 0, cs, e, (0, 0), rfl, heap_alloc_new _ _, fun i hi => by
    rw [Nat.zero_add, ← Array.getElem?_toList]; exact List.getElem?_eq_getElem hi⟩⟩

/-- 'append(out, x)', out the call's own. -/
theorem wpList_push {P : Program} {W : World} {ops : Array Oper} {rest : List Oper} {o : Oper} {a : Act} {Q : Exit → Act → World → Prop} (hgd : o.guard = none) (s x : Operand) (t : TypeId)
    (ho : o.op = .call { callee := .builtin .append, args := #[s, x], argTypes := #[t, t] })
    (base : Nat) (e : TypeId) (z : Value) (bytes : Nat) (hE : Elem P t e z bytes)
    (v : Value) (n : Nat) (xs : List Value) (hs : a.eval s = v) (hown : W.ownsRow base e 1 v n xs)
    (u : Value) (hx : a.eval x = .slice (some ⟨W.heap.size, 0, none⟩) 1 1) (h1 : u.oneCell' = true)
    (hbytes : (n + 1) * bytes ≤ 140737488355328) (h63 : n + 1 ≤ maxLen) (w0 : World) (hb : Below base w0 W) (hbase : base ≤ w0.heap.size)
    (h : ∀ v' w', w'.ownsRow base e 1 v' (n + 1) (xs ++ [u]) → Below base w0 w' → wpList P ops Q rest (a.put o.dst v') w') : wpList P ops Q (o :: rest) a (W.alloc (.cells #[u] e)) := by
  have hsz := hb.size
  refine wpList_append_sl hgd s x t ho base e z bytes hE v n xs hs (hown.alloc _) _ [u] hx (sla_new W #[u] e) (by simpa using h1) (by simpa using h63) (by simpa using hbytes) (by simp; omega) ?_
  intro v' w' h2 h3
  refine h v' w' (by simpa using h2) ((hb.alloc (by omega) _).grown h3 (by simp; omega) ?_)
  intro k hk
  exact (hown.lt k hk).1

theorem oneCell_u32s (l : List Nat) : ∀ u ∈ u32s l, u.oneCell' = true := by
  intro u hu; obtain ⟨d, _, rfl⟩ := List.mem_map.1 hu; rfl
theorem oneCell_i64s (l : List Int) : ∀ u ∈ i64s l, u.oneCell' = true := by
  intro u hu; obtain ⟨d, _, rfl⟩ := List.mem_map.1 hu; rfl

theorem elemU32 : Elem Go.Proofs.Try.prog 40 eU32 (.int .u32 0) 4 := ⟨rfl, Go.Proofs.Try.underlying40, info_parts (by kernel_rfl)⟩
theorem elemInt : Elem Go.Proofs.Try.prog 22 eInt (.int .i64 0) 8 := ⟨rfl, Go.Proofs.Try.underlying22, info_parts (by kernel_rfl)⟩

theorem mixed : Go.Proofs.Try.prog.follows .mixedOrders = true := by kernel_rfl

end Go.Cd

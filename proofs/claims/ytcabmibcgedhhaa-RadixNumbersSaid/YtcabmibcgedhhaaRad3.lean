/-
  The walk of radix.New.
-/
import Derived.Test.YtcabmibcgedhhaaRad2
namespace Go.Proofs.Ytcabmibcgedhhaa
open Go.RowKit Go.Cd Go.Shelf

attribute [local go_sem] Oper.semAt_some

/-- One of two may come. -/
theorem wpH_two {P : Program} {ops : Array Oper} {md : Region.Mode} {head : Array Bool} {Q : Exit → Act → World → Prop} {T : Array Bool → Act → World → Prop} {n : Nat} (i k : Nat) {o u : Oper} {listed : Array Bool} {a : Act} {w : World} (hB : (Region.ready md ops listed == [i, k] && (head.getD i false && head.getD k false)) = true) (hi : nth ops.toList i = some o) (hk : nth ops.toList k = some u)
    (h : ∀ w', Below w.heap.size w w' → wpList P ops (QE Q w' (wpH P md ops head Q T n (listed.setIfInBounds i true))) [o] a w') (h' : ∀ w', Below w.heap.size w w' → wpList P ops (QE Q w' (wpH P md ops head Q T n (listed.setIfInBounds k true))) [u] a w') : wpH P md ops head Q T (n + 1) listed a w := by
  simp only [Bool.and_eq_true, beq_iff_eq] at hB
  obtain ⟨hr, hh⟩ := hB
  intro w' hw'
  refine ⟨by rw [hr]; simp, fun j hj => ?_⟩
  rw [hr] at hj
  simp only [List.mem_cons, List.not_mem_nil, or_false] at hj
  rcases hj with rfl | rfl
  · exact ⟨hh.1, opE_of_list (at_of_nth hi) (h w' hw')⟩
  · exact ⟨hh.2, opE_of_list (at_of_nth hk) (h' w' hw')⟩

abbrev tRadix : TypeId := 25

theorem SlA.monoB {w w' : World} {v : Value} {xs : List Value} (h : SlA w v xs) (hb : Below w.heap.size w w') : SlA w' v xs := h.mono hb

/-- A block of three cells. -/
structure Is3 (W : World) (k : Nat) (a b c : Value) (T : TypeId) : Prop where
  at_ : W.heap[k]? = some (.cells #[a, b, c] T)

theorem Is3.cell {W : World} {k : Nat} {a b c : Value} {T : TypeId} (h : Is3 W k a b c T) : W.cell? ⟨k, 0, none⟩ = some a ∧ W.cell? ⟨k, 1, none⟩ = some b ∧ W.cell? ⟨k, 2, none⟩ = some c := by
  refine ⟨?_, ?_, ?_⟩ <;> (unfold World.cell?; rw [h.at_]; rfl)
theorem Is3.frozen {W : World} {k : Nat} {a b c : Value} {T : TypeId} (h : Is3 W k a b c T) (o : Nat) : W.frozen? ⟨k, o, none⟩ = false := by
  unfold World.frozen?; rw [h.at_]; simp
theorem Is3.set0 {W : World} {k : Nat} {a b c : Value} {T : TypeId} (h : Is3 W k a b c T) (u : Value) : Is3 (W.setCell ⟨k, 0, none⟩ u) k u b c T := ⟨heap_setCell_same W k 0 _ _ _ h.at_⟩
theorem Is3.set1 {W : World} {k : Nat} {a b c : Value} {T : TypeId} (h : Is3 W k a b c T) (u : Value) : Is3 (W.setCell ⟨k, 1, none⟩ u) k a u c T := ⟨heap_setCell_same W k 1 _ _ _ h.at_⟩
theorem Is3.set2 {W : World} {k : Nat} {a b c : Value} {T : TypeId} (h : Is3 W k a b c T) (u : Value) : Is3 (W.setCell ⟨k, 2, none⟩ u) k a b u T := ⟨heap_setCell_same W k 2 _ _ _ h.at_⟩
theorem Is3.put {W : World} {k : Nat} {a b c : Value} {T : TypeId} (h : Is3 W k a b c T) {j o : Nat} (hj : k ≠ j) (u : Value) : Is3 (W.setCell ⟨j, o, none⟩ u) k a b c T := ⟨(Below.heap_setCell _ _ _ _ (by simp only; omega)).trans h.at_⟩
theorem Is3.mono {W W' : World} {k : Nat} {a b c : Value} {T : TypeId} (h : Is3 W k a b c T) (hb : Below W.heap.size W W') : Is3 W' k a b c T := ⟨(hb.block k (block_lt h.at_)).trans h.at_⟩

/-- What a walk asks for that writes all three. -/
theorem Is3.writes {W : World} {k : Nat} {a b c : Value} {T : TypeId} (h : Is3 W k a b c T) : (W.cell? ⟨k, 0, none⟩ = some a ∧ W.frozen? ⟨k, 0, none⟩ = false) ∧
    (∀ u, (W.setCell ⟨k, 0, none⟩ u).cell? ⟨k, 1, none⟩ = some b ∧ (W.setCell ⟨k, 0, none⟩ u).frozen? ⟨k, 1, none⟩ = false) ∧
    (∀ u u', ((W.setCell ⟨k, 0, none⟩ u).setCell ⟨k, 1, none⟩ u').cell? ⟨k, 2, none⟩ = some c ∧ ((W.setCell ⟨k, 0, none⟩ u).setCell ⟨k, 1, none⟩ u').frozen? ⟨k, 2, none⟩ = false) :=
  ⟨⟨h.cell.1, h.frozen 0⟩, fun u => ⟨(h.set0 u).cell.2.1, (h.set0 u).frozen 1⟩, fun u u' => ⟨((h.set0 u).set1 u').cell.2.2, ((h.set0 u).set1 u').frozen 2⟩⟩

theorem cell_blk {W : World} {k : Nat} {u : Value} {T : TypeId} (h : W.heap[k]? = some (.cells #[u] T)) : W.cell? ⟨k, 0, none⟩ = some u ∧ W.frozen? ⟨k, 0, none⟩ = false := by
  constructor
  · unfold World.cell?; rw [h]; rfl
  · unfold World.frozen?; rw [h]; rfl

set_option maxRecDepth 100000 in
set_option maxHeartbeats 1600000 in
theorem new_bad {w : World} {v : Value} {l : List Int} (h : SlA w v (i64s l)) (hmax : l.length < 1099511627776) (hbad : (l.any fun b => decide (b < 1)) = true) :
    Calls Try.prog 20 #[v] w fun e w' => e = .returned (.tuple #[.agg #[.slice none 0 0, .slice none 0 0, .int .i64 0], .int .i64 1]) ∧ Below w.heap.size w w' := by
  have hb := below2 (w := w) (.cells #[.slice none 0 0, .slice none 0 0, .int .i64 0] tRadix) (.cells #[.int .i64 0] 26)
  have CF := Lib.hid (containsFunc_ok (h.mono hb) hmax)
  have z2 : ((w.alloc (.cells #[.slice none 0 0, .slice none 0 0, .int .i64 0] tRadix)).alloc (.cells #[.int .i64 0] 26)).heap[w.heap.size]? = some (.cells #[.slice none 0 0, .slice none 0 0, .int .i64 0] tRadix) := ((below_new _).block _ (by simp)).trans (heap_alloc_new' _ _ _ rfl)
  have z3 : ((w.alloc (.cells #[.slice none 0 0, .slice none 0 0, .int .i64 0] tRadix)).alloc (.cells #[.int .i64 0] 26)).heap[w.heap.size + 1]? = some (.cells #[.int .i64 0] 26) := heap_alloc_new' _ _ _ (by simp)
  rw [hbad] at CF
  obtain ⟨x1, cp1, rfl, _, _⟩ := SlA.outI h
  clear h
  refine calls_of_marks Try.func20 rfl ?_
  simp only [Try.ntmps20, List.size_toArray, List.length_cons, List.length_nil, Nat.reduceAdd, Nat.reduceSub, Array.replicate_succ, Array.replicate_zero, List.push_toArray, List.append_toArray, List.nil_append, List.cons_append]
  go_wp2_with fail
  refine CF.out.mono ?_
  rintro e w2 ⟨rfl, hb2⟩
  have y2 := (hb2.block _ (by simp <;> omega)).trans z2
  have y3 := (hb2.block _ (by simp <;> omega)).trans z3
  have I2 : Is3 w2 w.heap.size (.slice none 0 0) (.slice none 0 0) (.int .i64 0) tRadix := ⟨y2⟩
  obtain ⟨⟨g1, g2⟩, g3, g4⟩ := I2.writes
  have g5 := fun u => (g3 u).1
  have g6 := fun u => (g3 u).2
  have g7 := fun u u' => (g4 u u').1
  have g8 := fun u u' => (g4 u u').2
  have J2 := ((I2.set0 (.slice none 0 0)).set1 (.slice none 0 0)).set2 (.int .i64 0)
  have J3 : ((((w2.setCell ⟨w.heap.size, 0, none⟩ (.slice none 0 0)).setCell ⟨w.heap.size, 1, none⟩ (.slice none 0 0)).setCell ⟨w.heap.size, 2, none⟩ (.int .i64 0))).heap[w.heap.size + 1]? = some (.cells #[.int .i64 0] 26) := by
    rw [Below.heap_setCell _ _ _ _ (by simp), Below.heap_setCell _ _ _ _ (by simp), Below.heap_setCell _ _ _ _ (by simp)]; exact y3
  obtain ⟨g9, g10⟩ := cell_blk J3
  obtain ⟨k1, k2, k3⟩ := (J2.put (j := w.heap.size + 1) (o := 0) (by omega) (.int .i64 1)).cell
  have k4 := cell_put (o := 0) (u := .int .i64 1) J3 (by simp)
  have hB2 := hb.trans (hb2.mono hb.size)
  have hBf := below_put (off := 0) (u := .int .i64 1) (b := w.heap.size + 1) (below_put (off := 2) (u := .int .i64 0) (b := w.heap.size) (below_put (off := 1) (u := .slice none 0 0) (b := w.heap.size) (below_put (off := 0) (u := .slice none 0 0) (b := w.heap.size) hB2 (Nat.le_refl _)) (Nat.le_refl _)) (Nat.le_refl _)) (by omega)
  clear g3 g4 J2 J3 I2 y2 y3 z2 z3 hb2 hB2 hb CF
  go_wp2
  exact ⟨.tuple #[.agg #[.slice none 0 0, .slice none 0 0, .int .i64 0], .int .i64 1], by simp [results, Try.results20, go_sem, k1, k2, k3, k4], rfl, hBf⟩

/-! ### What New reckons -/

/-- An index, and a base at it. -/
abbrev BX (n : Nat) := { p : Nat × Nat // (p.1 < n ∨ n = 0) ∧ 1 ≤ p.2 ∧ p.2 < 9223372036854775808 }

/-- The weights' row, and the size, when these have come. -/
def stN (n : Nat) (pre : List (BX n)) : List Nat × Nat := pre.foldl (fun s x => (s.1.set x.1.1 s.2, s.2 * x.1.2)) (List.replicate n 0, 1)
theorem stN_snoc {n : Nat} (pre : List (BX n)) (x : BX n) : stN n (pre ++ [x]) = ((stN n pre).1.set x.1.1 (stN n pre).2, (stN n pre).2 * x.1.2) := by simp [stN]
theorem stN_nil (n : Nat) : stN n [] = (List.replicate n 0, 1) := rfl
theorem stN_len {n : Nat} (pre : List (BX n)) : (stN n pre).1.length = n := by
  unfold stN
  have : ∀ (l : List (BX n)) (s : List Nat × Nat), (l.foldl (fun s x => (s.1.set x.1.1 s.2, s.2 * x.1.2)) s).1.length = s.1.length := by
    intro l
    induction l with
    | nil => intro s; rfl
    | cons x l ih => intro s; rw [List.foldl_cons, ih]; simp
  rw [this]; simp

def elB (bs : List Nat) (j : Nat) : BX bs.length :=
  if h : j < bs.length ∧ 1 ≤ bs[j]?.getD 0 ∧ bs[j]?.getD 0 < 9223372036854775808 then ⟨(j, bs[j]?.getD 0), .inl h.1, h.2.1, h.2.2⟩
  else ⟨(0, 1), by simp only; omega, by decide, by decide⟩

theorem elB_at {bs : List Nat} (h1 : ∀ b ∈ bs, 1 ≤ b) (h2 : ∀ b ∈ bs, b < 9223372036854775808) {j : Nat} (hj : j < bs.length) : (elB bs j).1 = (j, bs[j]) := by
  have e : bs[j]?.getD 0 = bs[j] := by rw [List.getElem?_eq_getElem hj]; rfl
  unfold elB
  rw [dif_pos ⟨hj, by rw [e]; exact h1 _ (List.getElem_mem _), by rw [e]; exact h2 _ (List.getElem_mem _)⟩]
  simp only [e]

def prodN : List Nat → Nat
  | [] => 1
  | b :: bs => b * prodN bs
def weights : List Nat → List Nat
  | [] => []
  | _ :: bs => prodN bs :: weights bs
@[simp] theorem length_weights : ∀ bs : List Nat, (weights bs).length = bs.length
  | [] => rfl
  | _ :: bs => by simp [weights, length_weights bs]
theorem prodN_pos : ∀ {bs : List Nat}, (∀ b ∈ bs, 1 ≤ b) → 1 ≤ prodN bs
  | [], _ => Nat.le_refl _
  | b :: bs, h => Nat.mul_le_mul (h b (by simp)) (prodN_pos fun c hc => h c (by simp [hc]))
theorem prodN_drop : ∀ {bs : List Nat}, (∀ b ∈ bs, 1 ≤ b) → ∀ k, prodN (bs.drop k) ≤ prodN bs
  | [], _, k => by simp
  | b :: bs, _, 0 => by simp
  | b :: bs, h, k + 1 => by
    have h1 := prodN_drop (bs := bs) (fun c hc => h c (by simp [hc])) k
    have h2 := Nat.le_mul_of_pos_left (prodN bs) (h b (by simp))
    simp only [List.drop_succ_cons, prodN]
    omega

theorem stN_bw {bs : List Nat} (h1 : ∀ b ∈ bs, 1 ≤ b) (h2 : ∀ b ∈ bs, b < 9223372036854775808) : ∀ k, k ≤ bs.length →
    stN bs.length (bwUp (elB bs) bs.length k) = (List.replicate (bs.length - k) 0 ++ weights (bs.drop (bs.length - k)), prodN (bs.drop (bs.length - k)))
  | 0, _ => by
    rw [Nat.sub_zero, List.drop_length]
    show stN bs.length [] = _
    simp [stN, weights, prodN]
  | k + 1, hk => by
    have ih := stN_bw h1 h2 k (by omega)
    rw [bwUp_succ, stN_snoc, ih]
    obtain ⟨i, hi⟩ : ∃ i, i = bs.length - 1 - k := ⟨_, rfl⟩
    have e1 : bs.length - k = i + 1 := by omega
    have e2 : bs.length - (k + 1) = i := by omega
    have hil : i < bs.length := by omega
    rw [← hi, elB_at h1 h2 hil, e1, e2]
    have e3 : bs.drop i = bs[i] :: bs.drop (i + 1) := List.drop_eq_getElem_cons hil
    rw [e3]
    simp only [weights, prodN]
    rw [Nat.mul_comm]
    congr 1
    rw [List.set_append_left _ _ (by simp), List.replicate_succ', List.set_append_right _ _ (by simp)]
    simp

theorem own_base {w : World} {base base' : Nat} {e : TypeId} {size : Nat} {v : Value} {n : Nat} {xs : List Value} (h : w.ownsRow base e size v n xs) (hb : base' ≤ base) : w.ownsRow base' e size v n xs := by
  obtain ⟨h1, h2⟩ := h
  refine ⟨h1, h2.imp id ?_⟩
  rintro ⟨g, cap, cur, hv, hg, r⟩
  exact ⟨g, cap, cur, hv, Nat.le_trans hb hg, r⟩

theorem own_ne {W : World} {base : Nat} {e : TypeId} {size : Nat} {v : Value} {n : Nat} {xs : List Value} (h : W.ownsRow base e size v n xs) {k : Nat} {cs : Array Value} {T : TypeId} {fr : Nat × Nat} (hk : W.heap[k]? = some (.cells cs T fr)) (hT : T ≠ e) : v.ownBlock ≠ some k := by
  intro he
  rcases h.2 with ⟨h, _⟩ | ⟨g', _, cur, h, _, h2, _⟩
  · rw [h] at he; cases he
  · rw [h] at he
    cases he
    rw [hk] at h2
    cases h2
    exact hT rfl

/-- A value of type Radix, for these bases. -/
def RadixV (w : World) (v : Value) (bs : List Nat) : Prop := ∃ s1 s2, v = .agg #[s1, s2, .int .i64 (prodN bs : Nat)] ∧ SlA w s1 (ds bs) ∧ SlA w s2 (ds (weights bs))

theorem RadixV.mono {w w' : World} {v : Value} {bs : List Nat} (h : RadixV w v bs) (hb : Below w.heap.size w w') : RadixV w' v bs := by
  obtain ⟨s1, s2, hv, h1, h2⟩ := h
  exact ⟨s1, s2, hv, h1.mono hb, h2.mono hb⟩

theorem big_of_stop {bs : List Nat} (h1 : ∀ b ∈ bs, 1 ≤ b) (h2 : ∀ b ∈ bs, b < 9223372036854775808) {k : Nat} (hk : k ≤ bs.length) {ini : List (BX bs.length)} {last : BX bs.length} (e1 : bwUp (elB bs) bs.length k = ini ++ [last])
    (e2 : 1073741824 / (stN bs.length ini).2 < last.1.2) : 1073741824 < prodN bs := by
  cases k with
  | zero => simp [bwUp] at e1
  | succ k =>
    rw [bwUp_succ] at e1
    obtain ⟨e3, e4⟩ := List.append_inj' e1 rfl
    have e5 : elB bs (bs.length - 1 - k) = last := by simpa using e4
    rw [← e3, stN_bw h1 h2 k (by omega), ← e5] at e2
    obtain ⟨i, hi⟩ : ∃ i, i = bs.length - 1 - k := ⟨_, rfl⟩
    have hil : i < bs.length := by omega
    rw [← hi, elB_at h1 h2 hil, show bs.length - k = i + 1 from by omega] at e2
    simp only at e2
    have hd := prodN_drop h1 i
    rw [List.drop_eq_getElem_cons hil] at hd
    simp only [prodN] at hd
    have hp := prodN_pos (bs := bs.drop (i + 1)) (fun b hb => h1 b (List.mem_of_mem_drop hb))
    generalize prodN (bs.drop (i + 1)) = p at *
    generalize bs[i] = b at *
    have h3 : 1073741824 < b * p := by
      have := Nat.lt_mul_of_div_lt e2 (by omega)
      exact this
    omega

theorem keepC {A B : World} {row : Option Nat} (hg : A.grownBy B row) (hr : ∀ r, row = some r → ∃ o : Obj, A.heap[r]? = some o ∧ o.isCells = false) {k : Nat} {cs : Array Value} {T : TypeId} {fr : Nat × Nat} (h : A.heap[k]? = some (.cells cs T fr)) : B.heap[k]? = some (.cells cs T fr) := by
  refine (hg.block k (block_lt h) (fun e => ?_)).trans h
  obtain ⟨o, ho, hc⟩ := hr k e.symm
  rw [h] at ho
  cases ho
  cases hc

theorem ownC {A B : World} {row : Option Nat} (hg : A.grownBy B row) (hr : ∀ r, row = some r → ∃ o : Obj, A.heap[r]? = some o ∧ o.isCells = false) {base : Nat} {e : TypeId} {size : Nat} {v : Value} {n : Nat} {xs : List Value} (h : A.ownsRow base e size v n xs) : B.ownsRow base e size v n xs := by
  obtain ⟨h1, h2⟩ := h
  refine ⟨h1, h2.imp id ?_⟩
  rintro ⟨g, cap, cur, hv, hb, hh, r⟩
  exact ⟨g, cap, cur, hv, hb, keepC hg hr hh, r⟩

end Go.Proofs.Ytcabmibcgedhhaa

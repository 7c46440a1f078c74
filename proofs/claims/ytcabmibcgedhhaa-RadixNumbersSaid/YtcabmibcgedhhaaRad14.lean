/-
  What RadixNumbers asks of Index, of the document's Index, of Digits, Step and Next at the digits of a number.
-/
import Derived.Test.YtcabmibcgedhhaaRad12
import Derived.Test.YtcabmibcgedhhaaRad13
namespace Go.Proofs.Ytcabmibcgedhhaa
open Go.RowKit Go.Cd

/-- Naturals as ints. -/
def ints (L : List Nat) : List Int := L.map fun d : Nat => (d : Int)
@[simp] theorem length_ints (L : List Nat) : (ints L).length = L.length := by simp [ints]
theorem i64s_ints (L : List Nat) : i64s (ints L) = ds L := i64s_ds L

theorem hor_dgs {bs : List Nat} {n : Nat} (hp : ∀ b ∈ bs, 1 ≤ b) (hn : n < prodN bs) : horN bs (ints (dgs bs n)) bs.length = n := by
  rw [horN_dgs bs n hp hn (ints (dgs bs n)) rfl bs.length (Nat.le_refl _), List.drop_length]
  simp [prodN]

theorem horN_lo {bs : List Nat} {l : List Int} {m : Nat} {x : Int} : ∀ j, j ≤ m → horN bs (l.set m x) j = horN bs l j
  | 0, _ => rfl
  | j + 1, h => by
    simp only [horN]
    rw [horN_lo j (by omega), List.getElem?_set_ne (by omega)]

theorem horN_up {bs l : List Nat} {m : Nat} (hm : m < l.length) (hb : m < bs.length) : ∀ j, j ≤ bs.length → m + 1 ≤ j →
    horN bs (ints (l.set m (l[m] + 1))) j * prodN (bs.drop j) = horN bs (ints l) j * prodN (bs.drop j) + prodN (bs.drop (m + 1)) := by
  intro j hj hmj
  have hset : ints (l.set m (l[m] + 1)) = (ints l).set m ((l[m] + 1 : Nat) : Int) := by simp [ints, List.map_set]
  rw [hset]
  induction j with
  | zero => omega
  | succ j ih =>
    simp only [horN]
    by_cases hjm : j = m
    · subst hjm
      rw [horN_lo j (Nat.le_refl _), List.getElem?_set_self (by simpa using hm), List.getElem?_eq_getElem hb]
      simp only [Option.getD_some, ints, List.getElem?_map, List.getElem?_eq_getElem hm, Option.map_some, Int.toNat_natCast]
      rw [← Nat.add_assoc, Nat.add_mul _ 1, Nat.one_mul]
    · have hj' : j < bs.length := by omega
      have ih := ih (by omega) (by omega)
      rw [prodN_step hj'] at ih
      rw [List.getElem?_set_ne (by omega), List.getElem?_eq_getElem hj', Option.getD_some]
      rw [Nat.add_mul, Nat.add_mul, Nat.mul_assoc, ih, Nat.mul_assoc]
      omega

theorem hor_up {bs : List Nat} {n m : Nat} (hp : ∀ b ∈ bs, 1 ≤ b) (hn : n < prodN bs) (hm : m < bs.length) :
    horN bs (ints ((dgs bs n).set m ((dgs bs n)[m]'(by simpa using hm) + 1))) bs.length = n + prodN (bs.drop (m + 1)) := by
  have h := horN_up (bs := bs) (l := dgs bs n) (m := m) (by simpa using hm) hm bs.length (Nat.le_refl _) (by omega)
  rw [List.drop_length, hor_dgs hp hn] at h
  simpa [prodN] using h

theorem vld_up {bs : List Nat} {n m : Nat} (hp : ∀ b ∈ bs, 1 ≤ b) (hn : n < prodN bs) (hm : m < bs.length) (hd : (dgs bs n)[m]'(by simpa using hm) + 1 < bs[m]) :
    vldI bs (ints ((dgs bs n).set m ((dgs bs n)[m]'(by simpa using hm) + 1))) = true := by
  refine (vldI_iff _ _).2 ⟨by simp, fun j h1 h2 => ?_⟩
  simp only [ints, List.getElem_map]
  by_cases hj : j = m
  · subst hj
    rw [List.getElem_set_self]
    omega
  · rw [List.getElem_set_ne (by omega)]
    have := dgs_lt h2 hp hn
    omega

theorem index_dgs {w : World} {v u : Value} {bs : List Nat} {n : Nat} (h : RadixV w v bs) (hpos : ∀ b ∈ bs, 1 ≤ b) (hmax : prodN bs ≤ 1073741824) (hbl : bs.length < 1099511627776) (hn : n < prodN bs) (g : SlA w u (ds (dgs bs n))) :
    Calls Try.prog 21 #[v, u] w fun e w' => e = .returned (.tuple #[.int .i64 n, .bool true]) ∧ Below w.heap.size w w' := by
  rw [← i64s_ints] at g
  have hc := index_ok h g hmax hpos (by simpa using hbl) hbl
  have hv : vldI bs (ints (dgs bs n)) = true := vldI_dgs bs n hpos hn
  rw [hv, if_pos rfl, hor_dgs hpos hn] at hc
  exact hc

theorem refIndex_dgs {w : World} {v u : Value} {bs : List Nat} {n : Nat} (h : SlA w v (ds bs)) (hpos : ∀ b ∈ bs, 1 ≤ b) (hmax : prodN bs ≤ 1073741824) (hbl : bs.length < 1099511627776) (hn : n < prodN bs) (g : SlA w u (ds (dgs bs n))) :
    Calls Try.prog 22 #[v, u] w fun e w' => e = .returned (.int .i64 n) ∧ Below w.heap.size w w' := by
  rw [← i64s_ints] at g
  have hc := refIndex_ok h g hmax hpos (by simpa using hbl) hbl
  have hv : vldI bs (ints (dgs bs n)) = true := vldI_dgs bs n hpos hn
  rw [hv, if_pos rfl, hor_dgs hpos hn] at hc
  exact hc

theorem refIndex_up {w : World} {v u : Value} {bs : List Nat} {n m : Nat} (h : SlA w v (ds bs)) (hpos : ∀ b ∈ bs, 1 ≤ b) (hmax : prodN bs ≤ 1073741824) (hbl : bs.length < 1099511627776) (hn : n < prodN bs) (hm : m < bs.length)
    (hd : (dgs bs n)[m]'(by simpa using hm) + 1 < bs[m]) (g : SlA w u (ds ((dgs bs n).set m ((dgs bs n)[m]'(by simpa using hm) + 1)))) :
    Calls Try.prog 22 #[v, u] w fun e w' => e = .returned (.int .i64 (n + prodN (bs.drop (m + 1)) : Nat)) ∧ Below w.heap.size w w' := by
  rw [← i64s_ints] at g
  have hc := refIndex_ok h g hmax hpos (by simpa using hbl) hbl
  rw [vld_up hpos hn hm hd, if_pos rfl, hor_up hpos hn hm] at hc
  exact hc

theorem next_dgs {w : World} {v u : Value} {bs : List Nat} {n : Nat} (h : SlA w v (ds bs)) (hpos : ∀ b ∈ bs, 1 ≤ b) (hb : ∀ b ∈ bs, b ≤ 1073741824) (hbl : bs.length < 1099511627776) (hn : n < prodN bs) (g : SlA w u (ds (dgs bs n))) :
    Calls Try.prog 28 #[v, u] w fun e w' => ∃ r, e = .returned (.tuple #[r, .bool (decide (n + 1 < prodN bs))]) ∧ SlA w' r (ds (dgs bs (if n + 1 < prodN bs then n + 1 else 0))) ∧ Below w.heap.size w w' := by
  have hc := refNext_ok h g (by simp) (fun j h1 h2 => dgs_lt h2 hpos hn) hb hbl
  rw [nxt_dgs bs n hpos hn] at hc
  exact hc
end Go.Proofs.Ytcabmibcgedhhaa

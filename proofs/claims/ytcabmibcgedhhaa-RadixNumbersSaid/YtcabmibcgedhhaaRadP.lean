/-
  Digits for bases: their order, the next row, a digit more. Plain; no condition.
-/
import Derived.Test.YtcabmibcgedhhaaRad5
namespace Go.Proofs.Ytcabmibcgedhhaa
open Go.RowKit Go.Cd

/-- The digits of a number for these bases. -/
def dgs : List Nat → Nat → List Nat
  | [], _ => []
  | _ :: bs, i => i / prodN bs :: dgs bs (i % prodN bs)

@[simp] theorem length_dgs : ∀ (bs : List Nat) (i : Nat), (dgs bs i).length = bs.length
  | [], _ => rfl
  | _ :: bs, i => by simp [dgs, length_dgs bs]

theorem prodN_dvd : ∀ (bs : List Nat) (j : Nat), prodN (bs.drop j) ∣ prodN bs
  | [], j => by simp
  | b :: bs, 0 => Nat.dvd_refl _
  | b :: bs, j + 1 => Nat.dvd_trans (prodN_dvd bs j) ⟨b, by simp [prodN, Nat.mul_comm]⟩

theorem dgs_get : ∀ (bs : List Nat) (i j : Nat) (h : j < bs.length), (∀ b ∈ bs, 1 ≤ b) → i < prodN bs → (dgs bs i)[j]'(by simpa using h) = i / prodN (bs.drop (j + 1)) % bs[j]
  | b :: bs, i, 0, h, hp, hi => by
    have hlt : i / prodN bs < b := Nat.div_lt_of_lt_mul (by rw [Nat.mul_comm]; exact hi)
    simp [dgs, Nat.mod_eq_of_lt hlt]
  | b :: bs, i, j + 1, h, hp, hi => by
    have hp' : ∀ b ∈ bs, 1 ≤ b := fun c hc => hp c (List.mem_cons_of_mem _ hc)
    have hj : j < bs.length := by simpa using h
    have hP := prodN_pos hp'
    have ih := dgs_get bs (i % prodN bs) j hj hp' (Nat.mod_lt _ hP)
    simp only [dgs, List.getElem_cons_succ, List.drop_succ_cons]
    rw [ih, ← Nat.mod_mul_right_div_self, ← Nat.mod_mul_right_div_self, Nat.mod_mod_of_dvd]
    have h1 := prodN_dvd bs j
    rw [prodN_step hj] at h1
    rw [Nat.mul_comm]; exact h1

theorem dgs_lt {bs : List Nat} {i j : Nat} (h : j < bs.length) (hp : ∀ b ∈ bs, 1 ≤ b) (hi : i < prodN bs) : (dgs bs i)[j]'(by simpa using h) < bs[j] := by
  rw [dgs_get bs i j h hp hi]
  exact Nat.mod_lt _ (hp _ (List.getElem_mem _))

/-- Which of two rows is less at the first place where they part. -/
def cmpL : List Nat → List Nat → Int
  | a :: l, b :: bs => if a < b then -1 else if b < a then 1 else cmpL l bs
  | _, _ => 0

theorem cmpL_drop {a b : List Nat} {j : Nat} (h1 : j < a.length) (h2 : j < b.length) : cmpL (a.drop j) (b.drop j) = if a[j] < b[j] then -1 else if b[j] < a[j] then 1 else cmpL (a.drop (j + 1)) (b.drop (j + 1)) := by
  rw [List.drop_eq_getElem_cons h1, List.drop_eq_getElem_cons h2]; rfl

theorem cmpL_one (a b : List Nat) : cmpL a b = -1 ∨ cmpL a b = 0 ∨ cmpL a b = 1 := by
  induction a generalizing b with
  | nil => simp [cmpL]
  | cons x a ih =>
    cases b with
    | nil => simp [cmpL]
    | cons y b =>
      simp only [cmpL]
      by_cases h1 : x < y
      · simp [h1]
      · by_cases h2 : y < x
        · simp [h1, h2]
        · simpa [h1, h2] using ih b

theorem cmp_dgs : ∀ (bs : List Nat) (i k : Nat), (∀ b ∈ bs, 1 ≤ b) → i < prodN bs → k < prodN bs → cmpL (dgs bs i) (dgs bs k) = if i < k then -1 else if k < i then 1 else 0
  | [], i, k, _, hi, hk => by
    simp [prodN] at hi hk
    subst hi hk
    rfl
  | b :: bs, i, k, hp, hi, hk => by
    have hp' : ∀ b ∈ bs, 1 ≤ b := fun c hc => hp c (List.mem_cons_of_mem _ hc)
    have hP := prodN_pos hp'
    have ih := cmp_dgs bs (i % prodN bs) (k % prodN bs) hp' (Nat.mod_lt _ hP) (Nat.mod_lt _ hP)
    simp only [dgs, cmpL]
    rw [ih]
    have e1 := Nat.div_add_mod i (prodN bs)
    have e2 := Nat.div_add_mod k (prodN bs)
    have m1 := Nat.mod_lt i hP
    have m2 := Nat.mod_lt k hP
    by_cases h1 : i / prodN bs < k / prodN bs
    · have : i < k := by
        apply Nat.lt_of_not_le
        intro h
        have := Nat.div_le_div_right (c := prodN bs) h
        omega
      simp [h1, this]
    · by_cases h2 : k / prodN bs < i / prodN bs
      · have : k < i := by
          apply Nat.lt_of_not_le
          intro h
          have := Nat.div_le_div_right (c := prodN bs) h
          omega
        have h3 : ¬ i < k := by omega
        simp [h1, h2, this, h3]
      · have h3 : i / prodN bs = k / prodN bs := by omega
        rw [h3] at e1
        generalize prodN bs * (k / prodN bs) = M at *
        have q1 : (i % prodN bs < k % prodN bs) = (i < k) := propext ⟨fun h => by omega, fun h => by omega⟩
        have q2 : (k % prodN bs < i % prodN bs) = (k < i) := propext ⟨fun h => by omega, fun h => by omega⟩
        simp only [h1, h2, if_false, q1, q2]

/-- The row behind one. -/
def nxt : List Nat → List Nat → List Nat × Bool
  | b :: bs, d :: l => match nxt bs l with
    | (r, true) => (d :: r, true)
    | (r, false) => if d + 1 < b then ((d + 1) :: r, true) else (0 :: r, false)
  | _, _ => ([], false)

theorem dgs_zero : ∀ (bs : List Nat), dgs bs 0 = List.replicate bs.length 0
  | [] => rfl
  | _ :: bs => by simp [dgs, dgs_zero bs, List.replicate_succ]

theorem nxt_arith {n P b : Nat} (hP : 1 ≤ P) (hn : n < b * P) :
    (n % P + 1 < P → n + 1 < b * P ∧ (n + 1) / P = n / P ∧ (n + 1) % P = n % P + 1) ∧
    (¬ n % P + 1 < P → (n / P + 1 < b → n + 1 < b * P ∧ (n + 1) / P = n / P + 1 ∧ (n + 1) % P = 0) ∧ (¬ n / P + 1 < b → ¬ n + 1 < b * P)) := by
  have e1 := Nat.div_add_mod n P
  have m1 := Nat.mod_lt n hP
  have hlt : n / P < b := Nat.div_lt_of_lt_mul (by rw [Nat.mul_comm]; exact hn)
  generalize n / P = q at *
  generalize n % P = r at *
  refine ⟨fun h1 => ?_, fun h1 => ?_⟩
  · have h2 : (q + 1) * P ≤ b * P := Nat.mul_le_mul_right P hlt
    rw [Nat.add_mul, Nat.one_mul, Nat.mul_comm q P] at h2
    have en : n + 1 = P * q + (r + 1) := by omega
    refine ⟨by omega, ?_, ?_⟩
    · rw [en, Nat.mul_add_div (by omega), Nat.div_eq_of_lt h1, Nat.add_zero]
    · rw [en, Nat.mul_add_mod, Nat.mod_eq_of_lt h1]
  · have en : n + 1 = P * (q + 1) := by rw [Nat.mul_add, Nat.mul_one]; omega
    refine ⟨fun h2 => ⟨?_, ?_, ?_⟩, fun h2 => ?_⟩
    · rw [en, Nat.mul_comm P]
      exact Nat.mul_lt_mul_of_pos_right h2 hP
    · rw [en, Nat.mul_div_cancel_left _ hP]
    · rw [en, Nat.mul_mod_right]
    · have : b = q + 1 := by omega
      rw [en, this, Nat.mul_comm P]
      exact Nat.lt_irrefl _

theorem nxt_dgs : ∀ (bs : List Nat) (n : Nat), (∀ b ∈ bs, 1 ≤ b) → n < prodN bs → nxt bs (dgs bs n) = (dgs bs (if n + 1 < prodN bs then n + 1 else 0), decide (n + 1 < prodN bs))
  | [], n, _, hn => by
    simp [prodN] at hn
    subst hn
    simp [nxt, prodN, dgs]
  | b :: bs, n, hp, hn => by
    have hp' : ∀ b ∈ bs, 1 ≤ b := fun c hc => hp c (List.mem_cons_of_mem _ hc)
    have hP := prodN_pos hp'
    have ih := nxt_dgs bs (n % prodN bs) hp' (Nat.mod_lt _ hP)
    have hpn : prodN (b :: bs) = b * prodN bs := rfl
    rw [hpn] at hn ⊢
    obtain ⟨A, C⟩ := nxt_arith hP hn
    simp only [dgs, nxt, ih]
    by_cases h1 : n % prodN bs + 1 < prodN bs
    · obtain ⟨a1, a2, a3⟩ := A h1
      simp only [h1, decide_true, if_true, a1, a2, a3]
    · obtain ⟨C1, C2⟩ := C h1
      simp only [h1, decide_false, if_false]
      by_cases h2 : n / prodN bs + 1 < b
      · obtain ⟨a1, a2, a3⟩ := C1 h2
        simp only [h2, decide_true, if_true, a1, a2, a3]
      · have a1 := C2 h2
        simp only [h2, a1, if_false, decide_false, Nat.zero_div, Nat.zero_mod]

/-- A row's number is its own. -/
theorem horN_dgs (bs : List Nat) (n : Nat) (hp : ∀ b ∈ bs, 1 ≤ b) (hn : n < prodN bs) (ns : List Int) (hns : ns = (dgs bs n).map (fun d : Nat => (d : Int))) : ∀ j, j ≤ bs.length → horN bs ns j = n / prodN (bs.drop j) := by
  intro j
  induction j with
  | zero => intro _; simp [horN, Nat.div_eq_of_lt hn]
  | succ j ih =>
    intro hj
    have hj' : j < bs.length := by omega
    have hQ := prodN_pos (bs := bs.drop (j + 1)) (fun b hb => hp b (List.mem_of_mem_drop hb))
    have hlt := hp _ (List.getElem_mem hj')
    subst hns
    simp only [horN, ih (by omega), List.getElem?_eq_getElem hj', Option.getD_some, List.getElem?_map, List.getElem?_eq_getElem (show j < (dgs bs n).length by simpa using hj'), Option.map_some]
    rw [dgs_get bs n j hj' hp hn, prodN_step hj', Int.toNat_natCast]
    rw [Nat.mul_comm bs[j], ← Nat.div_div_eq_div_mul, Nat.mul_comm]
    exact Nat.div_add_mod _ _

theorem vldI_dgs (bs : List Nat) (n : Nat) (hp : ∀ b ∈ bs, 1 ≤ b) (hn : n < prodN bs) : vldI bs ((dgs bs n).map (fun d : Nat => (d : Int))) = true := by
  refine (vldI_iff _ _).2 ⟨by simp, fun j h1 h2 => ?_⟩
  rw [List.getElem_map]
  have := dgs_lt h2 hp hn
  omega
end Go.Proofs.Ytcabmibcgedhhaa

/-
  Numbers as lists of digits, lowest first: plain laws. No program is named here; no condition.
-/
namespace Go.Cd

/-- The number that digits write, the lowest first. -/
def val (b : Nat) : List Nat → Nat
  | [] => 0
  | d :: l => d + b * val b l

/-- A number's digits, the lowest first, without noughts at the end. -/
def digs (b : Nat) (x : Nat) : List Nat :=
  if _h : x = 0 ∨ b < 2 then [] else x % b :: digs b (x / b)
termination_by x
decreasing_by
  have h1 : x ≠ 0 := fun e => _h (.inl e)
  exact Nat.div_lt_self (by omega) (by omega)

theorem digs_zero (b : Nat) : digs b 0 = [] := by unfold digs; simp
theorem digs_pos {b x : Nat} (hb : 2 ≤ b) (hx : x ≠ 0) : digs b x = x % b :: digs b (x / b) := by
  rw [digs]; rw [dif_neg (by omega)]

theorem val_digs {b : Nat} (hb : 2 ≤ b) (x : Nat) : val b (digs b x) = x := by
  induction x using Nat.strongRecOn with
  | ind x ih =>
    by_cases h : x = 0
    · subst h; rw [digs_zero]; rfl
    · rw [digs_pos hb h]
      show x % b + b * val b (digs b (x / b)) = x
      rw [ih _ (Nat.div_lt_self (by omega) (by omega))]
      exact Nat.mod_add_div x b

theorem digs_lt {b : Nat} (hb : 2 ≤ b) (x : Nat) : ∀ d ∈ digs b x, d < b := by
  induction x using Nat.strongRecOn with
  | ind x ih =>
    by_cases h : x = 0
    · subst h; rw [digs_zero]; simp
    · rw [digs_pos hb h]
      intro d hd
      rcases List.mem_cons.1 hd with rfl | hd
      · exact Nat.mod_lt _ (by omega)
      · exact ih _ (Nat.div_lt_self (by omega) (by omega)) d hd

theorem digs_eq_nil {b x : Nat} (hb : 2 ≤ b) : digs b x = [] ↔ x = 0 := by
  constructor
  · intro h
    have := val_digs hb x
    rw [h] at this
    exact this.symm
  · rintro rfl; exact digs_zero b

theorem digs_last {b : Nat} (hb : 2 ≤ b) (x : Nat) : ∀ d, (digs b x).getLast? = some d → d ≠ 0 := by
  induction x using Nat.strongRecOn with
  | ind x ih =>
    intro d hd
    by_cases h : x = 0
    · subst h; rw [digs_zero] at hd; simp at hd
    · rw [digs_pos hb h] at hd
      by_cases h2 : x / b = 0
      · rw [h2, digs_zero] at hd
        simp at hd
        have := Nat.mod_add_div x b
        rw [h2] at this
        omega
      · have hne : digs b (x / b) ≠ [] := fun e => h2 ((digs_eq_nil hb).1 e)
        rw [List.getLast?_cons_of_ne_nil hne] at hd
        exact ih _ (Nat.div_lt_self (by omega) (by omega)) d hd

theorem val_append (b : Nat) (l m : List Nat) : val b (l ++ m) = val b l + b ^ l.length * val b m := by
  induction l with
  | nil => simp [val]
  | cons d l ih =>
    simp only [List.cons_append, val, ih, List.length_cons, Nat.pow_succ]
    rw [Nat.mul_add, ← Nat.mul_assoc, Nat.mul_comm b (b ^ l.length)]
    omega

theorem val_zeros (b n : Nat) : val b (List.replicate n 0) = 0 := by
  induction n with
  | zero => rfl
  | succ n ih => simp [List.replicate_succ, val, ih]

theorem val_lt {b : Nat} : ∀ l : List Nat, (∀ d ∈ l, d < b) → val b l < b ^ l.length
  | [], _ => by simp [val]
  | d :: l, h => by
    have h1 := h d (by simp)
    have h2 := val_lt l (fun x hx => h x (by simp [hx]))
    simp only [val, List.length_cons, Nat.pow_succ]
    calc d + b * val b l < b + b * val b l := by omega
      _ = b * (val b l + 1) := by rw [Nat.mul_add]; omega
      _ ≤ b * b ^ l.length := Nat.mul_le_mul_left _ h2
      _ = b ^ l.length * b := Nat.mul_comm _ _

/-- What is written without noughts at the end is the digits. -/
theorem digs_val {b : Nat} (hb : 2 ≤ b) : ∀ l : List Nat, (∀ d ∈ l, d < b) → (∀ d, l.getLast? = some d → d ≠ 0) → digs b (val b l) = l
  | [], _, _ => digs_zero b
  | [d], h, hl => by
    have h0 : d ≠ 0 := hl d rfl
    have h1 : d < b := h d (by simp)
    have e : val b [d] = d := by simp [val]
    rw [e, digs_pos hb h0, Nat.mod_eq_of_lt h1, Nat.div_eq_of_lt h1, digs_zero]
  | d :: c :: l, h, hl => by
    have ih := digs_val hb (c :: l) (fun x hx => h x (List.mem_cons_of_mem _ hx)) (fun x hx => hl x (by rw [List.getLast?_cons_of_ne_nil (by simp)]; exact hx))
    have h1 : d < b := h d (by simp)
    have hv : val b (d :: c :: l) = d + b * val b (c :: l) := rfl
    have hne : val b (c :: l) ≠ 0 := fun e => by rw [e, digs_zero] at ih; cases ih
    have hne' : d + b * val b (c :: l) ≠ 0 := by
      have : 0 < b * val b (c :: l) := Nat.mul_pos (by omega) (by omega)
      omega
    rw [hv, digs_pos hb hne', Nat.add_mul_mod_self_left, Nat.mod_eq_of_lt h1, Nat.add_mul_div_left _ _ (by omega), Nat.div_eq_of_lt h1, Nat.zero_add, ih]

theorem digs_inj {b x y : Nat} (hb : 2 ≤ b) (h : digs b x = digs b y) : x = y := by
  rw [← val_digs hb x, ← val_digs hb y, h]

/-- The digits of what a list writes, noughts at the end struck. -/
theorem digs_val_take {b : Nat} (hb : 2 ≤ b) (l : List Nat) (n : Nat) (hl : ∀ d ∈ l, d < b) (hz : ∀ d ∈ l.drop n, d = 0) (hn : n ≤ l.length) (h0 : n = 0 ∨ l[n - 1]? ≠ some 0) :
    digs b (val b l) = l.take n := by
  have e : l.drop n = List.replicate (l.drop n).length 0 := List.eq_replicate_iff.2 ⟨rfl, hz⟩
  have hv : val b l = val b (l.take n) := by
    conv => lhs; rw [← List.take_append_drop n l]
    rw [val_append, e, val_zeros]; omega
  rw [hv]
  refine digs_val hb _ (fun d hd => hl d (List.mem_of_mem_take hd)) fun d hd => ?_
  rw [List.getLast?_eq_getElem?, List.length_take, Nat.min_eq_left hn] at hd
  rcases h0 with h0 | h0
  · subst h0; simp at hd
  · rcases Nat.eq_zero_or_pos n with h1 | h1
    · subst h1; simp at hd
    · rw [List.getElem?_take] at hd
      split at hd
      · rintro rfl; exact h0 hd
      · cases hd

theorem getElem?_digs {b : Nat} (hb : 2 ≤ b) : ∀ (i x : Nat), ((digs b x)[i]?).getD 0 = x / b ^ i % b
  | 0, x => by
    by_cases h : x = 0
    · subst h; simp [digs_zero]
    · rw [digs_pos hb h]; simp
  | i + 1, x => by
    by_cases h : x = 0
    · subst h; simp [digs_zero]
    · rw [digs_pos hb h]
      simp only [List.getElem?_cons_succ]
      rw [getElem?_digs hb i (x / b), Nat.div_div_eq_div_mul, Nat.pow_succ, Nat.mul_comm]

/-- A digit; 0 beyond the last one. -/
def dig (b x i : Nat) : Nat := x / b ^ i % b

theorem dig_lt {b : Nat} (hb : 2 ≤ b) (x i : Nat) : dig b x i < b := Nat.mod_lt _ (by omega)
theorem dig_eq {b : Nat} (hb : 2 ≤ b) (x i : Nat) : ((digs b x)[i]?).getD 0 = dig b x i := getElem?_digs hb i x

/-- Which of two is the greater. -/
def cmpN (x y : Nat) : Int := if x < y then -1 else if y < x then 1 else 0

theorem div_succ {b : Nat} (x j : Nat) : x / b ^ j = b * (x / b ^ (j + 1)) + dig b x j := by
  unfold dig
  rw [Nat.pow_succ, ← Nat.div_div_eq_div_mul]
  exact (Nat.div_add_mod _ _).symm

theorem lt_of_dig {b x y j : Nat} (h : x / b ^ (j + 1) = y / b ^ (j + 1)) (hd : dig b x j < dig b y j) : x < y := by
  have h1 := div_succ (b := b) x j
  have h2 := div_succ (b := b) y j
  rw [h] at h1
  have h3 : x / b ^ j < y / b ^ j := by omega
  rcases Nat.lt_or_ge x y with h4 | h4
  · exact h4
  · have := Nat.div_le_div_right (c := b ^ j) h4
    omega

/-- The first n digits. -/
def digL (b x n : Nat) : List Nat := (List.range n).map (dig b x)

@[simp] theorem length_digL (b x n : Nat) : (digL b x n).length = n := by simp [digL]
theorem digL_succ (b x n : Nat) : digL b x (n + 1) = digL b x n ++ [dig b x n] := by simp [digL, List.range_succ]
theorem digL_lt {b : Nat} (hb : 2 ≤ b) (x n : Nat) : ∀ d ∈ digL b x n, d < b := by
  intro d hd
  obtain ⟨j, _, rfl⟩ := List.mem_map.1 hd
  exact dig_lt hb x j

theorem mod_succ (b x n : Nat) : x % b ^ (n + 1) = x % b ^ n + b ^ n * dig b x n := by
  unfold dig; rw [Nat.pow_succ, Nat.mod_mul]

theorem val_digL (b x : Nat) : ∀ n, val b (digL b x n) = x % b ^ n
  | 0 => by simp [digL, val, Nat.mod_one]
  | n + 1 => by rw [digL_succ, val_append, val_digL b x n, mod_succ, length_digL]; simp [val]

/-- What is carried into digit i of a sum. -/
def carry (b x y i : Nat) : Nat := (x % b ^ i + y % b ^ i) / b ^ i

theorem carry_le {b : Nat} (hb : 2 ≤ b) (x y i : Nat) : carry b x y i ≤ 1 := by
  unfold carry
  have hp : 0 < b ^ i := Nat.pow_pos (by omega)
  have h1 := Nat.mod_lt x hp
  have h2 := Nat.mod_lt y hp
  have : (x % b ^ i + y % b ^ i) / b ^ i < 2 := Nat.div_lt_of_lt_mul (by omega)
  omega

theorem carry_zero (b x y : Nat) : carry b x y 0 = 0 := by simp [carry, Nat.mod_one]

theorem carry_succ {b : Nat} (hb : 2 ≤ b) (x y i : Nat) : (dig b x i + dig b y i + carry b x y i) / b = carry b x y (i + 1) := by
  have hp : 0 < b ^ i := Nat.pow_pos (by omega)
  have e : x % b ^ (i + 1) + y % b ^ (i + 1) = (x % b ^ i + y % b ^ i) + b ^ i * (dig b x i + dig b y i) := by rw [mod_succ, mod_succ, Nat.mul_add]; omega
  show _ = (x % b ^ (i + 1) + y % b ^ (i + 1)) / b ^ (i + 1)
  rw [e, Nat.pow_succ, ← Nat.div_div_eq_div_mul, Nat.add_mul_div_left _ _ hp]
  show _ = (carry b x y i + _) / b
  rw [Nat.add_comm]

theorem dig_add {b : Nat} (hb : 2 ≤ b) (x y i : Nat) : (dig b x i + dig b y i + carry b x y i) % b = dig b (x + y) i := by
  have hp : 0 < b ^ i := Nat.pow_pos (by omega)
  have e : x + y = (x % b ^ i + y % b ^ i) + b ^ i * (x / b ^ i + y / b ^ i) := by
    have h1 := Nat.mod_add_div x (b ^ i)
    have h2 := Nat.mod_add_div y (b ^ i)
    rw [Nat.mul_add]; omega
  have e2 : (x + y) / b ^ i = carry b x y i + (x / b ^ i + y / b ^ i) := by
    conv => lhs; rw [e]
    rw [Nat.add_mul_div_left _ _ hp]; rfl
  unfold dig
  rw [e2, Nat.add_comm (carry b x y i), Nat.add_mod (x / b ^ i + y / b ^ i), Nat.add_mod (x / b ^ i) (y / b ^ i)]
  simp [Nat.add_mod]

theorem add_lt_pow {b : Nat} (hb : 2 ≤ b) {x y n : Nat} (hx : x < b ^ n) (hy : y < b ^ n) : x + y < b ^ (n + 1) := by
  rw [Nat.pow_succ]
  have : b ^ n * 2 ≤ b ^ n * b := Nat.mul_le_mul_left _ hb
  omega

/-- What is borrowed from digit i of a difference. -/
def bor (b x y i : Nat) : Nat := if x % b ^ i < y % b ^ i then 1 else 0

theorem bor_zero (b x y : Nat) : bor b x y 0 = 0 := by simp [bor, Nat.mod_one]
theorem bor_le (b x y i : Nat) : bor b x y i ≤ 1 := by unfold bor; split <;> omega

theorem bor_succ {b : Nat} (hb : 2 ≤ b) (x y i : Nat) : bor b x y (i + 1) = if (dig b x i : Int) - dig b y i - bor b x y i < 0 then 1 else 0 := by
  have hp : 0 < b ^ i := Nat.pow_pos (by omega)
  have hx := Nat.mod_lt x hp
  have hy := Nat.mod_lt y hp
  unfold bor
  rw [mod_succ b x i, mod_succ b y i]
  generalize x % b ^ i = lx at *
  generalize y % b ^ i = ly at *
  generalize dig b x i = dx
  generalize dig b y i = dy
  generalize b ^ i = p at *
  rcases Nat.lt_trichotomy dx dy with h | h | h
  · have h1 : p * dx + p ≤ p * dy := by
      calc p * dx + p = p * (dx + 1) := by rw [Nat.mul_succ]
        _ ≤ p * dy := Nat.mul_le_mul_left _ h
    rw [if_pos (by omega)]
    split <;> (rw [if_pos (by omega)])
  · subst h
    by_cases hl : lx < ly
    · rw [if_pos (by omega), if_pos hl, if_pos (by omega)]
    · rw [if_neg (by omega), if_neg hl, if_neg (by omega)]
  · have h1 : p * dy + p ≤ p * dx := by
      calc p * dy + p = p * (dy + 1) := by rw [Nat.mul_succ]
        _ ≤ p * dx := Nat.mul_le_mul_left _ h
    rw [if_neg (by omega)]
    split <;> (rw [if_neg (by omega)])

theorem sub_core {p lx ly X Y x y : Nat} (hx : lx < p) (hy : ly < p) (e1 : lx + p * X = x) (e2 : ly + p * Y = y) (h : y ≤ x) : (x - y) / p + Y + (if lx < ly then 1 else 0) = X := by
  have hp : 0 < p := by omega
  by_cases hl : lx < ly
  · rw [if_pos hl]
    have hYX : Y < X := by
      rcases Nat.lt_or_ge Y X with h1 | h1
      · exact h1
      · have := Nat.mul_le_mul_left p h1
        omega
    obtain ⟨t, rfl⟩ : ∃ t, X = Y + 1 + t := ⟨X - Y - 1, by omega⟩
    rw [Nat.mul_add, Nat.mul_add, Nat.mul_one] at e1
    have h3 : x - y = (lx + p - ly) + p * t := by omega
    rw [h3, Nat.add_mul_div_left _ _ hp, Nat.div_eq_of_lt (by omega)]
    omega
  · rw [if_neg hl]
    have hYX : Y ≤ X := by
      rcases Nat.lt_or_ge X Y with h1 | h1
      · have h2 : p * (X + 1) ≤ p * Y := Nat.mul_le_mul_left p h1
        rw [Nat.mul_add, Nat.mul_one] at h2
        omega
      · exact h1
    obtain ⟨t, rfl⟩ : ∃ t, X = Y + t := ⟨X - Y, by omega⟩
    rw [Nat.mul_add] at e1
    have h3 : x - y = (lx - ly) + p * t := by omega
    rw [h3, Nat.add_mul_div_left _ _ hp, Nat.div_eq_of_lt (by omega)]
    omega

theorem dig_sub {b : Nat} (hb : 2 ≤ b) {x y : Nat} (h : y ≤ x) (i : Nat) : ((dig b x i : Int) - dig b y i - bor b x y i) % (b : Int) = dig b (x - y) i := by
  have hp : 0 < b ^ i := Nat.pow_pos (by omega)
  have hq : (x - y) / b ^ i + y / b ^ i + bor b x y i = x / b ^ i := sub_core (Nat.mod_lt x hp) (Nat.mod_lt y hp) (Nat.mod_add_div x (b ^ i)) (Nat.mod_add_div y (b ^ i)) h
  unfold dig
  have c1 : ((x / b ^ i % b : Nat) : Int) = (x / b ^ i : Nat) % (b : Int) := by simp
  have c2 : ((y / b ^ i % b : Nat) : Int) = (y / b ^ i : Nat) % (b : Int) := by simp
  have c3 : (((x - y) / b ^ i % b : Nat) : Int) = ((x - y) / b ^ i : Nat) % (b : Int) := by simp
  rw [c1, c2, c3]
  have hq' : (((x - y) / b ^ i : Nat) : Int) = (x / b ^ i : Nat) - (y / b ^ i : Nat) - (bor b x y i : Nat) := by omega
  rw [hq']
  simp [Int.sub_emod]

theorem len_digs_div {b : Nat} (hb : 2 ≤ b) : ∀ (k x : Nat), b ^ k ≤ x → (digs b x).length = k + (digs b (x / b ^ k)).length
  | 0, x, _ => by simp
  | k + 1, x, h => by
    have hx : x ≠ 0 := by have : 0 < b ^ (k + 1) := Nat.pow_pos (by omega); omega
    have h1 : b ^ k ≤ x / b := by
      rw [Nat.le_div_iff_mul_le (by omega), ← Nat.pow_succ]; exact h
    rw [digs_pos hb hx, List.length_cons, len_digs_div hb k (x / b) h1, Nat.div_div_eq_div_mul, Nat.pow_succ, Nat.mul_comm b (b ^ k)]
    omega

theorem cmp_of_lt {x y : Nat} (h : x < y) : cmpN x y = -1 := by simp [cmpN, h]
theorem cmp_of_gt {x y : Nat} (h : y < x) : cmpN x y = 1 := by unfold cmpN; rw [if_neg (by omega), if_pos h]
theorem cmp_self (x : Nat) : cmpN x x = 0 := by simp [cmpN]

theorem len_digs_le {b : Nat} (hb : 2 ≤ b) {x n : Nat} : (digs b x).length ≤ n ↔ x < b ^ n := by
  constructor
  · intro h
    have h1 := val_lt (b := b) (digs b x) (digs_lt hb x)
    rw [val_digs hb] at h1
    exact Nat.lt_of_lt_of_le h1 (Nat.pow_le_pow_right (by omega) h)
  · intro h
    rcases Nat.lt_or_ge n (digs b x).length with h1 | h1
    · exfalso
      have hne : digs b x ≠ [] := by intro e; rw [e] at h1; simp at h1
      obtain ⟨d, hd⟩ : ∃ d, (digs b x).getLast? = some d := ⟨_, List.getLast?_eq_some_getLast hne⟩
      have h0 := digs_last hb x d hd
      rw [List.getLast?_eq_getElem?] at hd
      have h2 := getElem?_digs hb ((digs b x).length - 1) x
      rw [hd] at h2
      simp only [Option.getD_some] at h2
      have h3 : x / b ^ ((digs b x).length - 1) = 0 := by
        apply Nat.div_eq_of_lt
        exact Nat.lt_of_lt_of_le h (Nat.pow_le_pow_right (by omega) (by omega))
      rw [h3] at h2
      simp at h2
      exact h0 h2
    · exact h1

theorem le_of_len {b : Nat} (hb : 2 ≤ b) {x n : Nat} (h : n < (digs b x).length) : b ^ n ≤ x := by
  rcases Nat.lt_or_ge x (b ^ n) with h1 | h1
  · have := (len_digs_le hb).2 h1; omega
  · exact h1

theorem lt_of_len_lt {b : Nat} (hb : 2 ≤ b) {x y : Nat} (h : (digs b x).length < (digs b y).length) : x < y := by
  have h1 := (len_digs_le hb).1 (Nat.le_refl (digs b x).length)
  exact Nat.lt_of_lt_of_le h1 (le_of_len hb h)

theorem len_mono {b : Nat} (hb : 2 ≤ b) {x y : Nat} (h : x ≤ y) : (digs b x).length ≤ (digs b y).length := by
  rcases Nat.lt_or_ge (digs b y).length (digs b x).length with h1 | h1
  · have := lt_of_len_lt hb h1; omega
  · exact h1

theorem len_add {x y : Nat} : (digs 2 (x + y)).length ≤ max (digs 2 x).length (digs 2 y).length + 1 := by
  rw [len_digs_le (by omega)]
  exact add_lt_pow (by omega) ((len_digs_le (by omega)).1 (by omega)) ((len_digs_le (by omega)).1 (by omega))

theorem val_len_lt {b : Nat} (hb : 2 ≤ b) {l : List Nat} (h : ∀ d ∈ l, d < b) : (digs b (val b l)).length ≤ l.length := (len_digs_le hb).2 (val_lt l h)

end Go.Cd

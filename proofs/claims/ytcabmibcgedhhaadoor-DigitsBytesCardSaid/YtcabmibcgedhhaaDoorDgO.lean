/-
  The order of decimal texts. Plain; no condition.
-/
import Derived.Test.YtcabmibcgedhhaaDoorTxt
import Derived.Laws.Strings
import Derived.Laws.Cover1
namespace Go.Proofs.YtcabmibcgedhhaaDoor
open Go.RowKit Go.Cd

/-- A number's digits, the highest first; of nought one. -/
def dl (x : Nat) : List Nat := if x = 0 then [0] else (digs 10 x).reverse
theorem decT_dl (x : Nat) : decT x = (dl x).map (48 + ·) := by
  unfold decT dl
  by_cases h : x = 0
  · simp [h]
  · simp [h]
theorem dl_lt (x : Nat) : ∀ d ∈ dl x, d < 10 := by
  unfold dl
  by_cases h : x = 0
  · rw [if_pos h]; simp
  · rw [if_neg h]; exact fun d hd => digs_lt (by omega) x d (List.mem_reverse.1 hd)
/-- What digits say, the highest first. -/
def hv (l : List Nat) : Nat := val 10 l.reverse
theorem hv_dl (x : Nat) : hv (dl x) = x := by
  unfold hv dl
  by_cases h : x = 0
  · rw [if_pos h, h]; rfl
  · rw [if_neg h, List.reverse_reverse]; exact val_digs (by omega) x
theorem hv_cons (d : Nat) (l : List Nat) : hv (d :: l) = hv l + 10 ^ l.length * d := by
  unfold hv
  rw [List.reverse_cons, val_append, List.length_reverse]
  simp [val]
theorem hv_lt {l : List Nat} (h : ∀ d ∈ l, d < 10) : hv l < 10 ^ l.length := by
  have := val_lt (b := 10) l.reverse (fun d hd => h d (List.mem_reverse.1 hd))
  rwa [List.length_reverse] at this

def let8 (d : Nat) : UInt8 := UInt8.ofNat (48 + d)
theorem let8_lt {x y : Nat} (hx : x < 10) (hy : y < 10) : (let8 x < let8 y) ↔ x < y := by
  have h1 : (let8 x).toNat = 48 + x := toNat_ofNat (by omega)
  have h2 : (let8 y).toNat = 48 + y := toNat_ofNat (by omega)
  rw [UInt8.lt_iff_toNat_lt, h1, h2]
  omega
theorem let8_inj {x y : Nat} (hx : x < 10) (hy : y < 10) : (let8 x = let8 y) ↔ x = y := by
  have h1 : (let8 x).toNat = 48 + x := toNat_ofNat (by omega)
  have h2 : (let8 y).toNat = 48 + y := toNat_ofNat (by omega)
  constructor
  · intro h; rw [h] at h1; omega
  · intro h; rw [h]

theorem lex_hv : ∀ (a b : List Nat), (∀ d ∈ a, d < 10) → (∀ d ∈ b, d < 10) → a.length = b.length → Op.bytesLess (a.map let8) (b.map let8) = decide (hv a < hv b)
  | [], [], _, _, _ => by simp [Op.bytesLess]
  | [], _ :: _, _, _, h => by simp at h
  | _ :: _, [], _, _, h => by simp at h
  | x :: a, y :: b, ha, hb, h => by
    have hx := ha x (by simp)
    have hy := hb y (by simp)
    have ha' : ∀ d ∈ a, d < 10 := fun d hd => ha d (List.mem_cons_of_mem _ hd)
    have hb' : ∀ d ∈ b, d < 10 := fun d hd => hb d (List.mem_cons_of_mem _ hd)
    have hl : a.length = b.length := by simpa using h
    have ih := lex_hv a b ha' hb' hl
    have h1 := hv_lt ha'
    have h2 := hv_lt hb'
    rw [List.map_cons, List.map_cons, Op.bytesLess, ih, hv_cons, hv_cons]
    rw [hl] at h1 ⊢
    generalize hv a = p at *
    generalize hv b = q at *
    generalize 10 ^ b.length = P at *
    by_cases c1 : x < y
    · have e1 : decide (let8 x < let8 y) = true := decide_eq_true ((let8_lt hx hy).2 c1)
      have e2 : p + P * x < q + P * y := by
        have := Nat.mul_le_mul_left P (show x + 1 ≤ y from c1)
        rw [Nat.mul_add, Nat.mul_one] at this
        omega
      rw [e1, decide_eq_true e2]; rfl
    · have e1 : decide (let8 x < let8 y) = false := decide_eq_false fun hc => c1 ((let8_lt hx hy).1 hc)
      by_cases c2 : x = y
      · subst c2
        rw [e1, beq_self_eq_true, Bool.false_or, Bool.true_and]
        by_cases c3 : p < q
        · rw [decide_eq_true c3, decide_eq_true (by omega)]
        · rw [decide_eq_false c3, decide_eq_false (by omega)]
      · have e2 : (let8 x == let8 y) = false := beq_eq_false_iff_ne.2 fun hc => c2 ((let8_inj hx hy).1 hc)
        have e3 : ¬ p + P * x < q + P * y := by
          have := Nat.mul_le_mul_left P (show y + 1 ≤ x by omega)
          rw [Nat.mul_add, Nat.mul_one] at this
          omega
        rw [e1, e2, decide_eq_false e3]; rfl

theorem str_dec (x : Nat) : (str (decT x)).toList = (dl x).map let8 := by
  rw [ByteArray.toList_eq, decT_dl]
  simp [str, let8]
theorem size_dec (x : Nat) : (str (decT x)).size = (dl x).length := by
  rw [decT_dl]
  simp [str, ByteArray.size]
theorem dl_len {x y : Nat} (h : x ≤ y) : (dl x).length ≤ (dl y).length := by
  unfold dl
  by_cases h1 : x = 0
  · by_cases h2 : y = 0
    · simp [h1, h2]
    · have : 0 < (digs 10 y).length := List.length_pos_iff.2 fun e => h2 ((digs_eq_nil (by omega)).1 e)
      simp [h1, h2]
      omega
  · have h2 : y ≠ 0 := by omega
    simp [h1, h2]
    exact len_mono (by omega) h

/-- Numbers go as their texts do. -/
theorem dec_less {x y : Nat} (h : (dl x).length = (dl y).length) : Op.bytesLess (str (decT x)).toList (str (decT y)).toList = decide (x < y) := by
  rw [str_dec, str_dec, lex_hv _ _ (dl_lt x) (dl_lt y) h, hv_dl, hv_dl]
theorem dec_eq {x y : Nat} : ((str (decT x)).toList == (str (decT y)).toList) = decide (x = y) := by
  by_cases h : x = y
  · subst h; simp
  · rw [decide_eq_false h]
    refine beq_eq_false_iff_ne.2 fun hc => h ?_
    have hl : (dl x).length = (dl y).length := by
      have := congrArg List.length hc
      rwa [str_dec, str_dec, List.length_map, List.length_map] at this
    have h1 := dec_less hl
    have h2 := dec_less (x := y) (y := y) rfl
    rw [hc, h2] at h1
    have h3 := dec_less hl.symm
    rw [hc, h2] at h3
    simp at h1 h3
    omega
end Go.Proofs.YtcabmibcgedhhaaDoor

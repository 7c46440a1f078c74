/-
  Regions that draw their order, a third time: operations that make new memory ('makers': alloc, make, a literal's array) may come anywhere among the calls; they are taken as told at the end. No program is named here; no condition.
-/
import Derived.Test.YtcabmibcgedhhaaDoorFlow
namespace Go.Cd
open Go.RowKit

section
variable {P : Program} {ops : Array Oper} {md : Region.Mode} {head : Array Bool}

/-- As wpE; between any two operations the world may have grown. -/
def wpH (P : Program) (md : Region.Mode) (ops : Array Oper) (head : Array Bool) (Q : Exit → Act → World → Prop) (T : Array Bool → Act → World → Prop) : Nat → Array Bool → Act → World → Prop
  | 0, listed, a, w => ∀ w', Below w.heap.size w w' → headDone head listed = true ∧ T listed a w'
  | n + 1, listed, a, w => ∀ w', Below w.heap.size w w' → Region.ready md ops listed ≠ [] ∧
    ∀ i ∈ Region.ready md ops listed, head.getD i false = true ∧ opE P ops Q i (wpH P md ops head Q T n (listed.setIfInBounds i true)) a w'

theorem wpH_mono {Q : Exit → Act → World → Prop} {T : Array Bool → Act → World → Prop} {n : Nat} {listed : Array Bool} {a : Act} {w w1 : World} (hb : Below w.heap.size w w1) (h : wpH P md ops head Q T n listed a w) : wpH P md ops head Q T n listed a w1 := by
  cases n with
  | zero => exact fun w' hw' => h w' (ext_trans hb hw')
  | succ n => exact fun w' hw' => h w' (ext_trans hb hw')

/-- An operation that only reads may be taken first. -/
theorem wpH_first {Q : Exit → Act → World → Prop} {T : Array Bool → Act → World → Prop} {i : Nat} {oi : Oper} {v : Value} (hi : ops[i]? = some oi) (hsel : ∀ (j : Nat) (o : Oper) cs b, ops[j]? = some o → o.op ≠ .select cs b)
    (hhi : head.getD i false = true) :
    ∀ (n : Nat) (listed : Array Bool) (a : Act) (w : World), Closed md ops listed →
      (∀ j oj, ops[j]? = some oj → j ≠ i → listed.getD j true = false → (∀ e ∈ oj.after, Region.binds md e = true → e.on ≠ i) → (head.getD j false = true ∧ oi.apart ops oj = true) ∨ waits md ops i ops.size j = true) →
      i ∈ Region.ready md ops listed → YieldsF P ops w oi v a →
      wpH P md ops head Q T n (listed.setIfInBounds i true) (a.put oi.dst v) w → wpH P md ops head Q T (n + 1) listed a w := by
  intro n
  have key : ∀ (listed : Array Bool), Closed md ops listed →
      (∀ j oj, ops[j]? = some oj → j ≠ i → listed.getD j true = false → (∀ e ∈ oj.after, Region.binds md e = true → e.on ≠ i) → (head.getD j false = true ∧ oi.apart ops oj = true) ∨ waits md ops i ops.size j = true) →
      i ∈ Region.ready md ops listed → ∀ j, j ∈ Region.ready md ops listed → j ≠ i → ∃ oj, ops[j]? = some oj ∧ listed.getD j true = false ∧ head.getD j false = true ∧ oi.apart ops oj = true := by
    intro listed hcl hfree hr j hj hji
    obtain ⟨hjun, oj, hoj, hall⟩ := mem_ready.1 hj
    have h0 := (mem_ready.1 hr).1
    have hi0 : listed.getD i false = false := by
      rcases Nat.lt_or_ge i listed.size with h' | h'
      · simp [h'] at h0 ⊢; exact h0
      · simp [Array.getElem?_eq_none h']
    have hnot : ∀ e ∈ oj.after, Region.binds md e = true → e.on ≠ i := fun e he hb heq => by
      have h1 := hall e he hb
      rw [heq, hi0] at h1
      cases h1
    rcases hfree j oj hoj hji hjun hnot with h | h
    · exact ⟨oj, hoj, hjun, h.1, h.2⟩
    · exact absurd hall (waits_spec hcl hi0 _ j oj hoj h)
  induction n with
  | zero =>
    intro listed a w hcl hfree hr hy H w' hw'
    refine ⟨fun h => (by rw [h] at hr; cases hr), fun j hj => ?_⟩
    by_cases hji : j = i
    · subst hji; exact ⟨hhi, (hy.mono hw').opE hi (wpH_mono (n := 0) hw' H)⟩
    · obtain ⟨oj, hoj, hjun, hjh, _⟩ := key listed hcl hfree hr j hj hji
      have h2 := headDone_spec (H w (Below.refl _ _)).1 hjh
      rw [getD_set_ne false (Ne.symm hji)] at h2
      rcases Nat.lt_or_ge j listed.size with h' | h'
      · simp [h'] at hjun h2; rw [hjun] at h2; cases h2
      · simp [Array.getElem?_eq_none h'] at h2
  | succ n ih =>
    intro listed a w hcl hfree hr hy H w' hw'
    refine ⟨fun h => (by rw [h] at hr; cases hr), fun j hj => ?_⟩
    by_cases hji : j = i
    · subst hji; exact ⟨hhi, (hy.mono hw').opE hi (wpH_mono (n := n + 1) hw' H)⟩
    · obtain ⟨hhj, h1⟩ := (H w' hw').2 j (ready_mono hj hji)
      obtain ⟨oj, hoj, hjun, _, hap⟩ := key listed hcl hfree hr j hj hji
      have h2 := opE_put hoj hap (fun cs b => hsel i oi cs b hi) (fun cs b => hsel j oj cs b hoj) (hy.mono hw') h1
      have hfree' : ∀ k ok, ops[k]? = some ok → k ≠ i → (listed.setIfInBounds j true).getD k true = false →
          (∀ e ∈ ok.after, Region.binds md e = true → e.on ≠ i) → (head.getD k false = true ∧ oi.apart ops ok = true) ∨ waits md ops i ops.size k = true := fun k ok hk hki hun hno => by
        refine hfree k ok hk hki ?_ hno
        by_cases hjk : j = k
        · subst hjk; exact hjun
        · rw [getD_set_ne true hjk] at hun; exact hun
      refine ⟨hhj, opE_mono (fun a' w'' h3 => ih (listed.setIfInBounds j true) a' w'' (hcl.step hj) hfree' (ready_mono hr (Ne.symm hji)) h3.1 ?_) h2⟩
      rw [Array.setIfInBounds_comm _ _ hji]
      exact h3.2

theorem wpH_seg {Q : Exit → Act → World → Prop} {T : Array Bool → Act → World → Prop} (hs : Region.noSelect ops = true) : ∀ (l : List Nat) (n : Nat) (listed : Array Bool) (a : Act) (w : World), Closed md ops listed →
    (fltAll ops l && segOk md ops head l listed) = true → wpQuiet P ops (fun w' => ∃ g : Gr w, w' = g.to) (fun a' => wpH P md ops head Q T n (setAll l listed) a' w) (pickOps ops l) a → wpH P md ops head Q T (n + l.length) listed a w
  | [], n, listed, a, w, _, _, h => h
  | i :: l, n, listed, a, w, hcl, hB, h => by
    simp only [segOk, fltAll, List.all_cons, Bool.and_eq_true] at hB
    obtain ⟨⟨hfi, hfl⟩, ⟨⟨hr, hf⟩, hh⟩, hB'⟩ := hB
    cases ho : ops[i]? with
    | none => rw [ho] at hfi; cases hfi
    | some o =>
      rw [ho] at hfi
      simp only at hfi
      have hp : pickOps ops (i :: l) = o :: pickOps ops l := by simp [pickOps, ho]
      rw [hp] at h
      have hB2 : (fltAll ops l && segOk md ops head l (listed.setIfInBounds i true)) = true := by simp only [fltAll, Bool.and_eq_true]; exact ⟨hfl, hB'⟩
      simp only [wpQuiet] at h
      by_cases hw : Region.wanted o (yielded ops a.tmps) = true
      · rw [if_pos hw] at h
        obtain ⟨v, hv, hK⟩ := h
        refine wpH_first ho (Region.noSelect_spec hs) hh (n + l.length) listed a w hcl (freeE_spec ho hf) (by simpa using hr) (.inl ⟨hw, fun w' hw' => ?_⟩)
          (wpH_seg hs l n _ _ w (hcl.step (by simpa using hr)) hB2 hK)
        have h1 := hv w' ⟨⟨w', hw'⟩, rfl⟩
        unfold Oper.quietAt at h1
        generalize hrun : (execOp a.eval o).run P w' = r at h1
        cases r with
        | ok x w1 =>
          cases x <;> simp only [Oper.quietUpon] at h1
          case value u => rw [h1.1, h1.2]; exact .inl rfl
          case skip => rw [h1.1, h1.2]; exact .inr ⟨rfl, rfl⟩
          case enter f args => exact absurd hrun (no_enter hfi _ _ _ _)
        | halt x w1 => exact h1.elim
      · rw [if_neg hw] at h
        exact wpH_first ho (Region.noSelect_spec hs) hh (n + l.length) listed a w hcl (freeE_spec ho hf) (by simpa using hr) (.inr ⟨by simpa using hw, rfl⟩)
          (wpH_seg hs l n _ _ w (hcl.step (by simpa using hr)) hB2 h)

theorem wpH_seg' {Q : Exit → Act → World → Prop} {T : Array Bool → Act → World → Prop} (l : List Nat) (n : Nat) {m : Nat} {listed : Array Bool} {a : Act} {w : World} (hn : m = n + l.length)
    (hB : ((Region.noSelect ops && closedB md ops listed) && (fltAll ops l && segOk md ops head l listed)) = true) (h : wpQuiet P ops (fun w' => ∃ g : Gr w, w' = g.to) (fun a' => wpH P md ops head Q T n (setAll l listed) a' w) (pickOps ops l) a) : wpH P md ops head Q T m listed a w := by
  subst hn
  rw [Bool.and_eq_true, Bool.and_eq_true] at hB
  exact wpH_seg hB.1.1 l n listed a w (closedB_spec hB.1.2) hB.2 h

/-- The next one is forced. -/
theorem wpH_one {Q : Exit → Act → World → Prop} {T : Array Bool → Act → World → Prop} {n : Nat} (i : Nat) {o : Oper} {listed : Array Bool} {a : Act} {w : World} (hB : (Region.ready md ops listed == [i] && head.getD i false) = true) (hi : nth ops.toList i = some o)
    (h : ∀ w', Below w.heap.size w w' → wpList P ops (QE Q w' (wpH P md ops head Q T n (listed.setIfInBounds i true))) [o] a w') : wpH P md ops head Q T (n + 1) listed a w := by
  simp only [Bool.and_eq_true, beq_iff_eq] at hB
  obtain ⟨hr, hh⟩ := hB
  intro w' hw'
  refine ⟨by rw [hr]; simp, fun j hj => ?_⟩
  rw [hr] at hj
  obtain rfl : j = i := by simpa using hj
  exact ⟨hh, opE_of_list (at_of_nth hi) (h w' hw')⟩

/-! ### The makers -/

/-- What a maker's operation does, whatever has been done before it. -/
def MkAt (P : Program) (ops : Array Oper) (R : Value → World → Prop) (bk : Value → Nat) (o : Oper) (a : Act) (w : World) : Prop :=
  Region.wanted o (yielded ops a.tmps) = true ∧ ∀ W, Below w.heap.size w W → ∃ v W', (execOp a.eval o).run P W = .ok (.value v) W' ∧ Below W.heap.size W W' ∧ R v W' ∧ W.heap.size ≤ bk v ∧ bk v < W'.heap.size

theorem MkAt.mono {R : Value → World → Prop} {bk : Value → Nat} {o : Oper} {a : Act} {w w' : World} (h : MkAt P ops R bk o a w) (hb : Below w.heap.size w w') : MkAt P ops R bk o a w' :=
  ⟨h.1, fun W hW => h.2 W (ext_trans hb hW)⟩

theorem MkAt.same {R : Value → World → Prop} {bk : Value → Nat} {o : Oper} {a a' : Act} {w : World} (h : MkAt P ops R bk o a w) (he : execOp a'.eval o = execOp a.eval o)
    (hw : Region.wanted o (yielded ops a'.tmps) = Region.wanted o (yielded ops a.tmps)) : MkAt P ops R bk o a' w := by
  unfold MkAt at *
  rw [he, hw]
  exact h

theorem MkAt.opE {R : Value → World → Prop} {bk : Value → Nat} {Q : Exit → Act → World → Prop} {K : Act → World → Prop} {i : Nat} {o : Oper} {a : Act} {w : World} (hi : ops[i]? = some o) (h : MkAt P ops R bk o a w)
    (hK : ∀ v W', Below w.heap.size w W' → R v W' → w.heap.size ≤ bk v → bk v < W'.heap.size → K (a.put o.dst v) W') : opE P ops Q i K a w := by
  obtain ⟨hw, h⟩ := h
  obtain ⟨v, W', hr, hb, hR, h1, h2⟩ := h w (Below.refl _ _)
  unfold Cd.opE wpOp
  simp only [hi, hw, if_true, Oper.wp, hr, Oper.upon]
  exact .inl ⟨hb, hK v W' hb hR h1 h2⟩

/-- What is kept by every step of an operation is kept by it. -/
theorem opE_keep {Q : Exit → Act → World → Prop} {Φ : Act → World → Prop} {j : Nat} {oj : Oper} (hj : ops[j]? = some oj) (hput : ∀ a w v, Φ a w → Φ (a.put oj.dst v) w)
    (hdef : ∀ a w d, Φ a w → Φ { a with defers := d :: a.defers } w) (hmono : ∀ a w w', Below w.heap.size w w' → Φ a w → Φ a w') {K : Act → World → Prop} {a : Act} {w : World} (h : opE P ops Q j K a w) (hΦ : Φ a w) :
    opE P ops Q j (fun a' w' => Φ a' w' ∧ K a' w') a w := by
  unfold opE wpOp at *
  simp only [hj] at *
  split
  · rename_i hw
    simp only [hw, if_true] at h
    rcases h with h | ⟨h1, h2⟩
    case inr => exact .inr ⟨h1, h2⟩
    refine .inl ?_
    unfold Oper.wp at *
    generalize (execOp a.eval oj).run P w = r at *
    cases r with
    | ok n w' =>
      cases n <;> simp only [Oper.upon] at h ⊢
      case value u => exact ⟨h.1, hmono _ _ _ h.1 (hput _ _ _ hΦ), h.2⟩
      case skip => exact ⟨h.1, hmono _ _ _ h.1 (hput _ _ _ hΦ), h.2⟩
      case defer d => exact ⟨h.1, hmono _ _ _ h.1 (hput _ _ _ (hdef _ _ _ hΦ)), h.2⟩
      case enter f args =>
        refine Calls.mono h fun e w'' he => ?_
        cases e with
        | returned u => exact ⟨he.1, hmono _ _ _ he.1 (hput _ _ _ hΦ), he.2⟩
        | panicked c => exact he.elim
        | outgrown => exact he
      case row row args => exact Rows.mono h fun u w'' he => ⟨he.1, hmono _ _ _ he.1 (hput _ _ _ hΦ), he.2⟩
    | halt x w' =>
      cases x <;> simp only [Oper.upon] at h ⊢
      case panic u => exact h.elim
  · rename_i hw
    simp only [hw] at h
    exact ⟨h.1, hput _ _ _ hΦ, h.2⟩

/-- An operation that does not look at a slot runs alike where that slot has been written. -/
theorem opE_under {Q : Exit → Act → World → Prop} {j : Nat} {oj : Oper} {d : Option Tmp} {v : Value} (hj : ops[j]? = some oj) (hsj : ∀ cs b, oj.op ≠ .select cs b)
    (h1 : ∀ t, d = some t → t ∉ oj.looksAt ops) (h2 : ∀ t, d = some t → oj.dst ≠ some t) {K : Act → World → Prop} {a : Act} {w : World} (h : opE P ops Q j K a w) :
    opE P ops Q j (fun a' w' => ∃ b, a' = b.put d v ∧ K b w') (a.put d v) w := by
  unfold opE wpOp at *
  simp only [hj] at *
  rw [wanted_put oj a d v h1]
  split
  · rename_i hw
    simp only [hw, if_true] at h
    rcases h with h | ⟨hasks, hlets⟩
    case inr => exact .inr ⟨by unfold Oper.asks at *; rw [execOp_put oj hsj a d v h1]; exact hasks, hlets⟩
    refine .inl ?_
    unfold Oper.wp at *
    rw [execOp_put oj hsj a d v h1]
    generalize (execOp a.eval oj).run P w = r at *
    cases r with
    | ok n w' =>
      cases n <;> simp only [Oper.upon] at h ⊢
      case value u => exact ⟨h.1, _, Act.put_comm a v u h2, h.2⟩
      case skip => exact ⟨h.1, _, Act.put_comm a v undef h2, h.2⟩
      case defer x =>
        refine ⟨h.1, _, ?_, h.2⟩
        rw [Act.put_defers, Act.put_comm _ v undef h2]
      case enter f args =>
        refine Calls.mono h fun e w'' he => ?_
        cases e with
        | returned u => exact ⟨he.1, _, Act.put_comm a v u h2, he.2⟩
        | panicked c => exact he.elim
        | outgrown => exact he
      case row row args => exact Rows.mono h fun u w'' he => ⟨he.1, _, Act.put_comm a v u h2, he.2⟩
    | halt x w' =>
      cases x <;> simp only [Oper.upon] at h ⊢
      case panic u => exact h.elim
  · rename_i hw
    simp only [hw] at h
    exact ⟨h.1, _, Act.put_comm a v undef h2, h.2⟩

def dstOf (ops : Array Oper) (i : Nat) : Option Tmp := (ops[i]?).bind (·.dst)

/-- What the makers have made is put into their slots. -/
def putS (ops : Array Oper) (vs : Nat → Value) : List Nat → Act → Act
  | [], a => a
  | i :: S, a => putS ops vs S (a.put (dstOf ops i) (vs i))

theorem putS_put {vs : Nat → Value} {d : Option Tmp} {v : Value} : ∀ (S : List Nat) (a : Act), (∀ i ∈ S, ∀ t, d = some t → dstOf ops i ≠ some t) → (putS ops vs S a).put d v = putS ops vs S (a.put d v)
  | [], _, _ => rfl
  | i :: S, a, h => by
    simp only [putS]
    rw [putS_put S _ fun k hk => h k (List.mem_cons_of_mem _ hk), Act.put_comm a (vs i) v]
    intro t ht
    rintro rfl
    exact h i (by simp) t rfl ht

def upd (vs : Nat → Value) (j : Nat) (v : Value) : Nat → Value := fun i => if i = j then v else vs i

theorem putS_congr {vs us : Nat → Value} : ∀ (S : List Nat) (a : Act), (∀ i ∈ S, vs i = us i) → putS ops vs S a = putS ops us S a
  | [], _, _ => rfl
  | i :: S, a, h => by
    simp only [putS]
    rw [h i (by simp), putS_congr S _ fun k hk => h k (List.mem_cons_of_mem _ hk)]

/-- One maker more has made what it makes. -/
theorem putS_step {vs : Nat → Value} {p : Nat → Bool} {j : Nat} {v : Value} (hpj : p j = false) : ∀ (S : List Nat) (a : Act), j ∈ S → S.Nodup → (∀ i ∈ S, i ≠ j → ∀ t, dstOf ops j = some t → dstOf ops i ≠ some t) →
    (putS ops vs (S.filter p) a).put (dstOf ops j) v = putS ops (upd vs j v) (S.filter fun i => p i || i == j) a
  | [], _, h, _, _ => by cases h
  | i :: S, a, hmem, hnd, hd => by
    rw [List.nodup_cons] at hnd
    by_cases hij : i = j
    · subst hij
      have hnot := hnd.1
      have e : S.filter (fun k => p k || k == i) = S.filter p := List.filter_congr fun k hk => by
        have : k ≠ i := fun e => hnot (e ▸ hk)
        simp [this]
      rw [List.filter_cons_of_neg (by simp [hpj]), List.filter_cons_of_pos (by simp), e]
      simp only [putS]
      have e2 : upd vs i v i = v := by simp [upd]
      rw [e2, putS_put]
      · refine putS_congr _ _ fun k hk => ?_
        have : k ≠ i := fun e => hnot (e ▸ (List.mem_filter.1 hk).1)
        simp [upd, this]
      · intro k hk
        have hkS := (List.mem_filter.1 hk).1
        exact hd k (by simp [hkS]) (fun e => hnot (e ▸ hkS))
    · have hj' : j ∈ S := by
        rcases List.mem_cons.1 hmem with h | h
        · exact absurd h.symm hij
        · exact h
      have hd' : ∀ k ∈ S, k ≠ j → ∀ t, dstOf ops j = some t → dstOf ops k ≠ some t := fun k hk => hd k (by simp [hk])
      cases hp : p i
      · rw [List.filter_cons_of_neg (by simp [hp]), List.filter_cons_of_neg (by simp [hp, hij])]
        exact putS_step hpj S a hj' hnd.2 hd'
      · rw [List.filter_cons_of_pos hp, List.filter_cons_of_pos (by simp [hp])]
        simp only [putS]
        rw [putS_step hpj S _ hj' hnd.2 hd']
        have : upd vs j v i = vs i := by simp [upd, hij]
        rw [this]

theorem opE_underS {Q : Exit → Act → World → Prop} {j : Nat} {oj : Oper} {vs : Nat → Value} (hj : ops[j]? = some oj) (hsj : ∀ cs b, oj.op ≠ .select cs b) : ∀ (S : List Nat),
    (∀ i ∈ S, (∀ t, dstOf ops i = some t → t ∉ oj.looksAt ops) ∧ ∀ t, dstOf ops i = some t → oj.dst ≠ some t) → ∀ {K : Act → World → Prop} {a : Act} {w : World}, opE P ops Q j K a w →
    opE P ops Q j (fun a' w' => ∃ b, a' = putS ops vs S b ∧ K b w') (putS ops vs S a) w
  | [], _, _, _, _, h => opE_mono (fun a' w' h => ⟨a', rfl, h⟩) h
  | i :: S, hS, K, a, w, h => by
    have h1 := opE_under (v := vs i) hj hsj (hS i (by simp)).1 (hS i (by simp)).2 h
    have h2 := opE_underS (vs := vs) hj hsj S (fun k hk => hS k (by simp [hk])) h1
    exact opE_mono (fun a' w' ⟨b, hb, c, hc, hk⟩ => ⟨c, by subst hc; exact hb, hk⟩) h2

/-- The makers: of the head; apart from one another and from the head's others; what is not of the head waits for each. -/
def mkOk (md : Region.Mode) (ops : Array Oper) (head listed : Array Bool) (S : List Nat) : Bool :=
  (Region.noSelect ops && closedB md ops listed) && (S.all fun i => (Region.ready md ops listed).contains i && head.getD i false && match ops[i]? with
    | none => false
    | some oi => (List.range ops.size).all fun j => j == i || listed.getD j true || match ops[j]? with
      | some oj => if head.getD j false then oi.apart ops oj && oj.apart ops oi else waits md ops i ops.size j
      | none => true) && decide S.Nodup

theorem setAll_get : ∀ (l : List Nat) (listed : Array Bool) (k : Nat) (d : Bool), (setAll l listed).getD k d = if k ∈ l ∧ k < listed.size then true else listed.getD k d
  | [], _, _, _ => by simp [setAll]
  | i :: l, listed, k, d => by
    simp only [setAll]
    rw [setAll_get l]
    by_cases hk : k = i
    · subst hk
      by_cases hs : k < listed.size
      · simp [hs]
      · simp [hs]
    · have : (listed.setIfInBounds i true).getD k d = listed.getD k d := getD_set_ne d (Ne.symm hk)
      rw [this]
      simp [hk]

theorem setAll_size : ∀ (l : List Nat) (listed : Array Bool), (setAll l listed).size = listed.size
  | [], _ => rfl
  | i :: l, listed => by simp only [setAll]; rw [setAll_size l]; simp

theorem setAll_ext {l l' : List Nat} {x y : Array Bool} (hs : x.size = y.size) (h : ∀ k, k < x.size → ((k ∈ l ∨ x.getD k false = true) ↔ (k ∈ l' ∨ y.getD k false = true))) : setAll l x = setAll l' y := by
  apply Array.ext_getElem?
  intro k
  by_cases hk : k < x.size
  · have e1 := setAll_get l x k false
    have e2 := setAll_get l' y k false
    have hk1 : k < (setAll l x).size := by rw [setAll_size]; exact hk
    have hk2 : k < (setAll l' y).size := by rw [setAll_size, ← hs]; exact hk
    rw [Array.getElem?_eq_getElem hk1, Array.getElem?_eq_getElem hk2]
    have g1 : (setAll l x).getD k false = (setAll l x)[k] := by simp [hk1]
    have g2 : (setAll l' y).getD k false = (setAll l' y)[k] := by simp [hk2]
    rw [← g1, ← g2, e1, e2]
    have h := h k hk
    have hky : k < y.size := by omega
    simp only [hk, hky, and_true]
    by_cases a1 : k ∈ l <;> by_cases a2 : k ∈ l' <;> simp only [a1, a2, if_true, if_false, true_or, false_or, true_iff, iff_true] at h ⊢
    · exact congrArg some h.symm
    · exact congrArg some h
    · exact congrArg some (Bool.eq_iff_iff.2 h)
  · rw [Array.getElem?_eq_none (by rw [setAll_size]; omega), Array.getElem?_eq_none (by rw [setAll_size]; omega)]


/-- The end that a region with makers comes to: whatever they have made. -/
def TMk (ops : Array Oper) (S : List Nat) (R : Nat → Value → World → Prop) (bk : Value → Nat) (N : Nat) (T : Array Bool → Act → World → Prop) : Array Bool → Act → World → Prop :=
  fun L a w => ∀ vs : Nat → Value, (∀ i ∈ S, R i (vs i) w ∧ N ≤ bk (vs i) ∧ bk (vs i) < w.heap.size) → (∀ i ∈ S, ∀ k ∈ S, i ≠ k → bk (vs i) ≠ bk (vs k)) → T L (putS ops vs S a) w

theorem getD_false_of_true {x : Array Bool} {k : Nat} (h : x.getD k true = false) : x.getD k false = false := by
  rcases Nat.lt_or_ge k x.size with h' | h'
  · simp [h'] at h ⊢; exact h
  · simp [Array.getElem?_eq_none h']

theorem putS_exec {vs : Nat → Value} {o : Oper} (hs : ∀ cs b, o.op ≠ .select cs b) : ∀ (S : List Nat) (a : Act), (∀ i ∈ S, ∀ t, dstOf ops i = some t → t ∉ o.looksAt ops) →
    execOp (putS ops vs S a).eval o = execOp a.eval o ∧ Region.wanted o (yielded ops (putS ops vs S a).tmps) = Region.wanted o (yielded ops a.tmps)
  | [], _, _ => ⟨rfl, rfl⟩
  | i :: S, a, h => by
    obtain ⟨h1, h2⟩ := putS_exec (vs := vs) hs S (a.put (dstOf ops i) (vs i)) (fun k hk => h k (by simp [hk]))
    simp only [putS]
    rw [h1, h2, execOp_put o hs a _ _ (h i (by simp)), wanted_put o a _ _ (h i (by simp))]
    exact ⟨rfl, rfl⟩

theorem filter_drop {p : Nat → Bool} {j : Nat} (hpj : p j = false) : ∀ (S : List Nat), j ∈ S → S.Nodup → (S.filter fun i => !(p i || i == j)).length + 1 = (S.filter fun i => !p i).length
  | [], h, _ => by cases h
  | i :: S, hmem, hnd => by
    rw [List.nodup_cons] at hnd
    by_cases hij : i = j
    · subst hij
      have e : S.filter (fun k => !(p k || k == i)) = S.filter (fun k => !p k) := List.filter_congr fun k hk => by
        have : k ≠ i := fun e => hnd.1 (e ▸ hk)
        simp [this]
      rw [List.filter_cons_of_neg (by simp), List.filter_cons_of_pos (by simp [hpj]), e]
      simp
    · have hj' : j ∈ S := by
        rcases List.mem_cons.1 hmem with h | h
        · exact absurd h.symm hij
        · exact h
      have ih := filter_drop hpj S hj' hnd.2
      cases hp : p i
      · rw [List.filter_cons_of_pos (by simp [hp, hij]), List.filter_cons_of_pos (by simp [hp])]
        simp only [List.length_cons]; omega
      · rw [List.filter_cons_of_neg (by simp [hp]), List.filter_cons_of_neg (by simp [hp])]
        exact ih

theorem wpE_makers {Q : Exit → Act → World → Prop} {T : Array Bool → Act → World → Prop} (S : List Nat) (R : Nat → Value → World → Prop) (bk : Value → Nat) (N : Nat)
    (hRm : ∀ i v w w', Below w.heap.size w w' → R i v w → R i v w') (hs : Region.noSelect ops = true) (hnd : S.Nodup)
    (hhead : ∀ i ∈ S, head.getD i false = true) (L0 : Array Bool) (hS0 : ∀ i ∈ S, L0.getD i true = false)
    (hap : ∀ i ∈ S, ∃ oi, ops[i]? = some oi ∧ ∀ j oj, ops[j]? = some oj → j ≠ i → L0.getD j true = false → (head.getD j false = true ∧ oi.apart ops oj = true ∧ oj.apart ops oi = true) ∨ (head.getD j false = false ∧ waits md ops i ops.size j = true)) :
    ∀ (m n : Nat) (done : Nat → Bool) (vs : Nat → Value) (listed : Array Bool) (a : Act) (w : World), m = n + (S.filter fun i => !done i).length → Closed md ops listed →
      (∀ j, listed.getD j true = false → L0.getD j true = false) →
      (∀ i ∈ S, done i = false → i ∈ Region.ready md ops listed ∧ ∀ oi, ops[i]? = some oi → MkAt P ops (R i) bk oi a w) →
      (∀ i ∈ S, done i = true → listed.getD i false = true ∧ R i (vs i) w ∧ N ≤ bk (vs i) ∧ bk (vs i) < w.heap.size) → (∀ i ∈ S, ∀ k ∈ S, done i = true → done k = true → i ≠ k → bk (vs i) ≠ bk (vs k)) → N ≤ w.heap.size →
      wpH P md ops head Q (TMk ops S R bk N T) n (setAll (S.filter fun i => !done i) listed) a w →
      wpE P md ops head Q T m listed (putS ops vs (S.filter done) a) w := by
  intro m
  induction m with
  | zero =>
    intro n done vs listed a w hm hcl hL hrem hdone hdist hN H
    obtain ⟨rfl, hr⟩ : n = 0 ∧ (S.filter fun i => !done i).length = 0 := by omega
    have hrn := List.length_eq_zero_iff.1 hr
    rw [hrn] at H
    have hall : ∀ i ∈ S, done i = true := fun i hi => by
      have := (List.filter_eq_nil_iff.1 hrn) i hi
      simpa using this
    obtain ⟨h1, h2⟩ := H w (Below.refl _ _)
    have hf : S.filter done = S := List.filter_eq_self.2 hall
    rw [hf]
    exact ⟨h1, h2 vs (fun i hi => (hdone i hi (hall i hi)).2) (fun i hi k hk => hdist i hi k hk (hall i hi) (hall k hk))⟩
  | succ m ih =>
    intro n done vs listed a w hm hcl hL hrem hdone hdist hN H
    have hready : ∀ j, j ∈ Region.ready md ops listed → j ∉ S → j ∈ Region.ready md ops (setAll (S.filter fun i => !done i) listed) := by
      intro j hj hjS
      rw [mem_ready] at hj ⊢
      obtain ⟨h0, o, ho, hall⟩ := hj
      refine ⟨?_, o, ho, fun e he hb => ?_⟩
      · rw [setAll_get, if_neg (fun h => hjS (List.mem_filter.1 h.1).1)]; exact h0
      · rw [setAll_get]; split
        · rfl
        · exact hall e he hb
    constructor
    · -- something is ready
      cases hf : S.filter (fun i => !done i) with
      | cons i l =>
        have hi : i ∈ S.filter (fun i => !done i) := by rw [hf]; simp
        obtain ⟨hiS, hid⟩ := List.mem_filter.1 hi
        have := (hrem i hiS (by simpa using hid)).1
        intro h; rw [h] at this; cases this
      | nil =>
        rw [hf] at hm H
        obtain rfl : n = m + 1 := by simp at hm; omega
        exact (H w (Below.refl _ _)).1
    · intro j hj
      by_cases hjS : j ∈ S
      · -- a maker
        have hjd : done j = false := by
          cases hd : done j
          · rfl
          · have h1 := (hdone j hjS hd).1
            have h2 := getD_false_of_true (mem_ready.1 hj).1
            rw [h1] at h2; cases h2
        refine ⟨hhead j hjS, ?_⟩
        obtain ⟨oj, hoj, hapj⟩ := hap j hjS
        have hMK := (hrem j hjS hjd).2 oj hoj
        have hdstj : dstOf ops j = oj.dst := by simp [dstOf, hoj]
        -- the slots of those that are done are apart
        have hapS : ∀ i ∈ S, i ≠ j → (∀ t, dstOf ops i = some t → t ∉ oj.looksAt ops) ∧ (∀ t, dstOf ops j = some t → dstOf ops i ≠ some t) := by
          intro i hi hij
          obtain ⟨oi, hoi, _⟩ := hap i hi
          have hdsti : dstOf ops i = oi.dst := by simp [dstOf, hoi]
          rcases hapj i oi hoi hij (hS0 i hi) with ⟨_, h, _⟩ | ⟨h, _⟩
          · obtain ⟨_, h2, h3⟩ := Oper.apart_spec h
            rw [hdsti, hdstj]
            exact ⟨h3, h2⟩
          · rw [hhead i hi] at h; cases h
        have hex := putS_exec (vs := vs) (Region.noSelect_spec hs j oj · · hoj) (S.filter done) a (fun i hi => (hapS i (List.mem_filter.1 hi).1 (fun e => by have h := (List.mem_filter.1 hi).2; rw [e, hjd] at h; cases h)).1)
        refine MkAt.opE hoj (hMK.same hex.1 hex.2) fun v W' hb hR h1 h2 => ?_
        rw [← hdstj, putS_step hjd S a hjS hnd (fun i hi hij => (hapS i hi hij).2)]
        have hjlt : j < listed.size := by
          have h0 := (mem_ready.1 hj).1
          rcases Nat.lt_or_ge j listed.size with h' | h'
          · exact h'
          · simp [Array.getElem?_eq_none h'] at h0
        have hvj : upd vs j v j = v := by simp [upd]
        have hvi : ∀ i, i ≠ j → upd vs j v i = vs i := fun i hi => by simp [upd, hi]
        refine ih n (fun i => done i || i == j) (upd vs j v) (listed.setIfInBounds j true) a W' (by have := filter_drop hjd S hjS hnd; omega) (hcl.step hj) ?_ ?_ ?_ ?_ (Nat.le_trans hN hb.size) ?_
        · intro k hk
          by_cases hkj : j = k
          · subst hkj; simp [hjlt] at hk
          · rw [getD_set_ne true hkj] at hk; exact hL k hk
        · intro i hi hid
          simp only [Bool.or_eq_false_iff, beq_eq_false_iff_ne] at hid
          obtain ⟨g1, g2⟩ := hrem i hi hid.1
          exact ⟨ready_mono g1 hid.2, fun oi hoi => (g2 oi hoi).mono hb⟩
        · intro i hi hid
          by_cases hij : i = j
          · subst hij
            rw [hvj]
            exact ⟨by simp [hjlt], hR, Nat.le_trans hN h1, h2⟩
          · simp only [Bool.or_eq_true, beq_iff_eq, hij, or_false] at hid
            rw [hvi i hij]
            obtain ⟨g1, g2, g3, g4⟩ := hdone i hi hid
            exact ⟨getD_set_true g1, hRm _ _ _ _ hb g2, g3, Nat.lt_of_lt_of_le g4 hb.size⟩
        · intro i hi k hk hid hkd hik
          by_cases hij : i = j
          · subst hij
            have hki : k ≠ i := Ne.symm hik
            simp only [Bool.or_eq_true, beq_iff_eq, hki, or_false] at hkd
            rw [hvj, hvi k hki]
            have := (hdone k hk hkd).2.2.2
            omega
          · simp only [Bool.or_eq_true, beq_iff_eq, hij, or_false] at hid
            rw [hvi i hij]
            by_cases hkj : k = j
            · subst hkj
              rw [hvj]
              have := (hdone i hi hid).2.2.2
              omega
            · simp only [Bool.or_eq_true, beq_iff_eq, hkj, or_false] at hkd
              rw [hvi k hkj]
              exact hdist i hi k hk hid hkd hik
        · have e : setAll (S.filter fun i => !(done i || i == j)) (listed.setIfInBounds j true) = setAll (S.filter fun i => !done i) listed := by
            refine setAll_ext (by simp) fun k hk => ?_
            simp only [Array.size_setIfInBounds] at hk
            simp only [List.mem_filter]
            by_cases hkj : k = j
            · subst hkj; simp [hk, hjS, hjd]
            · rw [getD_set_ne false (Ne.symm hkj)]; simp [hkj]
          rw [e]
          exact wpH_mono hb H
      · -- another one
        have hjun := (mem_ready.1 hj).1
        have hGj : ∀ d, (setAll (S.filter fun i => !done i) listed).getD j d = listed.getD j d := fun d => by
          rw [setAll_get, if_neg (fun h => hjS (List.mem_filter.1 h.1).1)]
        cases n with
        | zero =>
          exfalso
          obtain ⟨_, oj, hoj, hall⟩ := mem_ready.1 hj
          have hH := (H w (Below.refl _ _)).1
          have hhj : head.getD j false = false := by
            cases hh : head.getD j false
            · rfl
            · have := headDone_spec hH hh
              rw [hGj, getD_false_of_true hjun] at this; cases this
          obtain ⟨i, hi⟩ : ∃ i, i ∈ S.filter fun i => !done i := by
            cases hf : S.filter (fun i => !done i) with
            | nil => rw [hf] at hm; simp at hm
            | cons i l => exact ⟨i, by simp⟩
          obtain ⟨hiS, hid⟩ := List.mem_filter.1 hi
          have hid' : done i = false := by simpa using hid
          obtain ⟨oi, hoi, hapi⟩ := hap i hiS
          have hij : j ≠ i := fun e => hjS (e ▸ hiS)
          rcases hapi j oj hoj hij (hL j hjun) with ⟨h, _⟩ | ⟨_, h⟩
          · rw [hhj] at h; cases h
          · have hi0 := getD_false_of_true (mem_ready.1 (hrem i hiS hid').1).1
            exact waits_spec hcl hi0 _ j oj hoj h hall
        | succ n =>
          obtain ⟨hhj, hop⟩ := (H w (Below.refl _ _)).2 j (hready j hj hjS)
          refine ⟨hhj, ?_⟩
          obtain ⟨_, oj, hoj, _⟩ := mem_ready.1 hj
          have hapS : ∀ i ∈ S, (∀ t, dstOf ops i = some t → t ∉ oj.looksAt ops) ∧ (∀ t, dstOf ops i = some t → oj.dst ≠ some t) ∧ ∀ oi, ops[i]? = some oi → ∀ t, oj.dst = some t → t ∉ oi.looksAt ops := by
            intro i hi
            obtain ⟨oi, hoi, hapi⟩ := hap i hi
            have hdsti : dstOf ops i = oi.dst := by simp [dstOf, hoi]
            rcases hapi j oj hoj (fun e => hjS (e ▸ hi)) (hL j hjun) with ⟨_, h, _⟩ | ⟨h, _⟩
            · obtain ⟨g1, g2, g3⟩ := Oper.apart_spec h
              rw [hdsti]
              refine ⟨g1, g2, fun oi' hoi' => ?_⟩
              rw [hoi] at hoi'; cases hoi'
              exact g3
            · rw [hhj] at h; cases h
          have hk := opE_keep (Φ := fun a w' => (∀ i ∈ S, done i = false → ∀ oi, ops[i]? = some oi → MkAt P ops (R i) bk oi a w') ∧ (∀ i ∈ S, done i = true → R i (vs i) w' ∧ N ≤ bk (vs i) ∧ bk (vs i) < w'.heap.size) ∧ N ≤ w'.heap.size) hoj
            (fun a w' v h => ⟨fun i hi hid oi hoi => (h.1 i hi hid oi hoi).same (execOp_put oi (Region.noSelect_spec hs i oi · · hoi) a _ _ ((hapS i hi).2.2 oi hoi)) (wanted_put oi a _ _ ((hapS i hi).2.2 oi hoi)), h.2⟩)
            (fun a w' d h => ⟨fun i hi hid oi hoi => (h.1 i hi hid oi hoi).same rfl rfl, h.2⟩)
            (fun a w' w'' hb h => ⟨fun i hi hid oi hoi => (h.1 i hi hid oi hoi).mono hb, fun i hi hid => ⟨hRm _ _ _ _ hb (h.2.1 i hi hid).1, (h.2.1 i hi hid).2.1, Nat.lt_of_lt_of_le (h.2.1 i hi hid).2.2 hb.size⟩, Nat.le_trans h.2.2 hb.size⟩)
            hop ⟨fun i hi hid => (hrem i hi hid).2, fun i hi hid => (hdone i hi hid).2, hN⟩
          have hu := opE_underS (vs := vs) hoj (Region.noSelect_spec hs j oj · · hoj) (S.filter done) (fun i hi => ⟨(hapS i (List.mem_filter.1 hi).1).1, (hapS i (List.mem_filter.1 hi).1).2.1⟩) hk
          refine opE_mono (fun a' w' h => ?_) hu
          obtain ⟨b, rfl, ⟨hm1, hm2, hN'⟩, hH⟩ := h
          have hjlt : j < listed.size := by
            rcases Nat.lt_or_ge j listed.size with h' | h'
            · exact h'
            · simp [Array.getElem?_eq_none h'] at hjun
          refine ih n done vs (listed.setIfInBounds j true) b w' (by omega) (hcl.step hj) ?_ ?_ ?_ hdist hN' ?_
          · intro k hk
            by_cases hkj : j = k
            · subst hkj; simp [hjlt] at hk
            · rw [getD_set_ne true hkj] at hk; exact hL k hk
          · intro i hi hid
            exact ⟨ready_mono (hrem i hi hid).1 (fun e => hjS (e ▸ hi)), hm1 i hi hid⟩
          · intro i hi hid
            exact ⟨getD_set_true (hdone i hi hid).1, hm2 i hi hid⟩
          · have e : setAll (S.filter fun i => !done i) (listed.setIfInBounds j true) = (setAll (S.filter fun i => !done i) listed).setIfInBounds j true := by
              have : (setAll (S.filter fun i => !done i) listed).setIfInBounds j true = setAll [j] (setAll (S.filter fun i => !done i) listed) := rfl
              rw [this]
              have h2 : ∀ (l : List Nat) (x : Array Bool), setAll [j] (setAll l x) = setAll l (setAll [j] x) := by
                intro l
                induction l with
                | nil => intro x; rfl
                | cons k l ihl =>
                  intro x
                  simp only [setAll] at ihl ⊢
                  rw [ihl]
                  by_cases hkj : k = j
                  · subst hkj; rfl
                  · rw [Array.setIfInBounds_comm _ _ hkj]
              rw [h2]; rfl
            rw [e]
            exact hH

/-- Makers among the head's operations: they come when they come; at the end it is known what they have made. -/
theorem wpE_mk {Q : Exit → Act → World → Prop} {T : Array Bool → Act → World → Prop} (S : List Nat) (R : Nat → Value → World → Prop) (bk : Value → Nat) (n : Nat) {m : Nat} {listed : Array Bool} {a : Act} {w : World} (hm : m = n + S.length)
    (hB : mkOk md ops head listed S = true) (hRm : ∀ i v w w', Below w.heap.size w w' → R i v w → R i v w') (hM : ∀ i ∈ S, ∀ o, nth ops.toList i = some o → MkAt P ops (R i) bk o a w)
    (h : wpH P md ops head Q (TMk ops S R bk w.heap.size T) n (setAll S listed) a w) : wpE P md ops head Q T m listed a w := by
  simp only [mkOk, Bool.and_eq_true, decide_eq_true_eq, List.all_eq_true] at hB
  obtain ⟨⟨⟨hs, hcl⟩, hall⟩, hnd⟩ := hB
  have hready : ∀ i ∈ S, i ∈ Region.ready md ops listed := fun i hi => by have := (hall i hi).1.1; simpa using this
  have hf : S.filter (fun _ => false) = [] := by simp
  have ft : S.filter (fun i => !(fun _ => false) i) = S := List.filter_eq_self.2 (by simp)
  have := wpE_makers (P := P) (head := head) (Q := Q) (T := T) S R bk w.heap.size hRm hs hnd (fun i hi => (hall i hi).1.2) listed (fun i hi => (mem_ready.1 (hready i hi)).1) (fun i hi => by
    have h2 := (hall i hi).2
    cases ho : ops[i]? with
    | none => rw [ho] at h2; cases h2
    | some oi =>
      rw [ho] at h2
      refine ⟨oi, rfl, fun j oj hj hji hun => ?_⟩
      simp only [List.all_eq_true, List.mem_range] at h2
      have h3 := h2 j (Array.getElem?_eq_some_iff.1 hj).1
      simp only [hj, Bool.or_eq_true, beq_iff_eq, hji, false_or, hun, Bool.false_eq_true] at h3
      split at h3
      · rename_i hh
        simp only [Bool.and_eq_true] at h3
        exact .inl ⟨hh, h3⟩
      · rename_i hh
        exact .inr ⟨by simpa using hh, h3⟩) m n (fun _ => false) (fun _ => undef) listed a w (by rw [ft]; exact hm) (closedB_spec hcl) (fun j hj => hj)
    (fun i hi _ => ⟨hready i hi, fun oi hoi => hM i hi oi (by rw [nth_eq]; simpa using hoi)⟩) (fun i _ h => by cases h) (fun i _ k _ h => by cases h) (Nat.le_refl _) (by rw [ft]; exact h)
  rw [hf] at this
  exact this

/-- The tail behind the makers. -/
theorem wpH_tail {Q : Exit → Act → World → Prop} {S : List Nat} {R : Nat → Value → World → Prop} {bk : Value → Nat} {N : Nat} (l : List Nat) {listed : Array Bool} {a : Act} {w : World} (hB : (headDone head listed && (Region.noSelect ops && tailOk md ops l listed)) = true)
    (h : ∀ w', Below w.heap.size w w' → ∀ vs : Nat → Value, (∀ i ∈ S, R i (vs i) w' ∧ N ≤ bk (vs i) ∧ bk (vs i) < w'.heap.size) → (∀ i ∈ S, ∀ k ∈ S, i ≠ k → bk (vs i) ≠ bk (vs k)) → wpList P ops (QP Q) (pickOps ops l) (putS ops vs S a) w') :
    wpH P md ops head Q (TMk ops S R bk N (fun l' a w => wpAny P md ops Q l.length l' a w)) 0 listed a w := by
  simp only [Bool.and_eq_true] at hB
  exact fun w' hw' => ⟨hB.1, fun vs h1 h2 => wpAny_QP _ _ _ _ (wpAny_tail hB.2.1 l listed _ w' hB.2.2 (h w' hw' vs h1 h2))⟩


/-- A stage of the head: its operations come ahead of all others. -/
theorem wpE_stage {Q : Exit → Act → World → Prop} {T : Array Bool → Act → World → Prop} {head1 : Array Bool} {m : Nat} (hsub : ∀ i, head1.getD i false = true → head.getD i false = true) : ∀ (n : Nat) (listed : Array Bool) (a : Act) (w : World),
    wpE P md ops head1 Q (fun L a w => wpE P md ops head Q T m L a w) n listed a w → wpE P md ops head Q T (n + m) listed a w
  | 0, _, _, _, h => by rw [Nat.zero_add]; exact h.2
  | n + 1, _, _, _, h => by
    rw [Nat.add_right_comm]
    exact ⟨h.1, fun i hi => ⟨hsub i (h.2 i hi).1, opE_mono (fun a w h => wpE_stage hsub n _ a w h) (h.2 i hi).2⟩⟩

def subB (x y : Array Bool) : Bool := (List.range x.size).all fun i => !x.getD i false || y.getD i false

theorem subB_spec {x y : Array Bool} (h : subB x y = true) : ∀ i, x.getD i false = true → y.getD i false = true := by
  intro i hi
  have hlt : i < x.size := by
    rcases Nat.lt_or_ge i x.size with h' | h'
    · exact h'
    · simp [Array.getElem?_eq_none h'] at hi
  have := List.all_eq_true.1 h i (List.mem_range.2 hlt)
  rw [hi] at this
  simpa using this

theorem wpE_stage' {Q : Exit → Act → World → Prop} {T : Array Bool → Act → World → Prop} (head1 : Array Bool) (n m : Nat) {k : Nat} {listed : Array Bool} {a : Act} {w : World} (hk : k = n + m) (hsub : subB head1 head = true)
    (h : wpE P md ops head1 Q (fun L a w => wpE P md ops head Q T m L a w) n listed a w) : wpE P md ops head Q T k listed a w := by
  subst hk
  exact wpE_stage (subB_spec hsub) n listed a w h

/-- The end of a stage that has no makers. -/
theorem wpE_end {Q : Exit → Act → World → Prop} {T : Array Bool → Act → World → Prop} {listed : Array Bool} {a : Act} {w : World} (hB : headDone head listed = true) (h : T listed a w) : wpE P md ops head Q T 0 listed a w := ⟨hB, h⟩

/-- The end of a stage with makers. -/
theorem wpH_end {Q : Exit → Act → World → Prop} {T : Array Bool → Act → World → Prop} {S : List Nat} {R : Nat → Value → World → Prop} {bk : Value → Nat} {N : Nat} {listed : Array Bool} {a : Act} {w : World} (hB : headDone head listed = true)
    (h : ∀ w', Below w.heap.size w w' → ∀ vs : Nat → Value, (∀ i ∈ S, R i (vs i) w' ∧ N ≤ bk (vs i) ∧ bk (vs i) < w'.heap.size) → (∀ i ∈ S, ∀ k ∈ S, i ≠ k → bk (vs i) ≠ bk (vs k)) → T listed (putS ops vs S a) w') :
    wpH P md ops head Q (TMk ops S R bk N T) 0 listed a w := fun w' hw' => ⟨hB, fun vs h1 h2 => h w' hw' vs h1 h2⟩


theorem pick_list : ∀ (l : List Nat) (os : List Oper), l.map (nth ops.toList) = os.map some → pickOps ops l = os
  | [], [], _ => rfl
  | [], _ :: _, h => by cases h
  | _ :: _, [], h => by cases h
  | i :: l, o :: os, h => by
    simp only [List.map_cons, List.cons.injEq] at h
    have h1 : pickOps ops (i :: l) = o :: pickOps ops l := by simp [pickOps, at_of_nth h.1]
    rw [h1, pick_list l os h.2]

/-- A tail, written out. -/
theorem tail_l {Q : Exit → Act → World → Prop} {a : Act} {w : World} : ∀ {l : List Nat} {os : List Oper}, l.map (nth ops.toList) = os.map some → wpList P ops Q os a w → wpList P ops Q (pickOps ops l) a w := by
  intro l os h hw
  have e := pick_list l os h
  rw [e]; exact hw

theorem qp_nil {Q : Exit → Act → World → Prop} {a : Act} {w : World} (h : Q .normal a w) : QP Q .normal a w := h

end
end Go.Cd

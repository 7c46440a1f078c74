/-
  Regions that draw their order and hold calls that make memory: the calls come in one order, what only reads may be taken first. No program is named here; no condition.
-/
import Derived.Deep.Quiet
import Derived.Tactics
import Derived.Below
namespace Go.Cd
open Go.RowKit

theorem ext_refl (w : World) : Below w.heap.size w w := Below.refl _ _
theorem ext_trans {a b c : World} (h : Below a.heap.size a b) (k : Below b.heap.size b c) : Below a.heap.size a c := h.trans (k.mono h.size)

/-- A world that has all that 'w' has, as it was. -/
structure Gr (w : World) where
  to : World
  ext : Below w.heap.size w to

def Gr.self (w : World) : Gr w := ⟨w, Below.refl _ _⟩

section
variable {P : Program} {ops : Array Oper} {md : Region.Mode} {head : Array Bool}

/-- No panic. -/
def QP (Q : Exit → Act → World → Prop) : Exit → Act → World → Prop
  | .panic _, _, _ => False
  | e, a, w => Q e a w

theorem QP_mono {Q : Exit → Act → World → Prop} (e : Exit) (a : Act) (w : World) (h : QP Q e a w) : Q e a w := by
  cases e <;> first | exact h | exact h.elim

theorem wpOp_QP {Q : Exit → Act → World → Prop} {i : Nat} {a : Act} {w : World} {K : Act → World → Prop} (hh : wpOp P ops (QP Q) i K a w) : wpOp P ops Q i K a w := by
  unfold wpOp at *
  split
  · rename_i ho; simpa only [ho] using hh
  · rename_i o ho
    simp only [ho] at hh
    split
    · rename_i hw
      simp only [hw, if_true] at hh
      rcases hh with hh | ⟨h1, h2⟩
      · refine .inl ?_
        unfold Oper.wp at *
        generalize (execOp a.eval o).run P w = r at *
        cases r with
        | ok n w' =>
          cases n <;> simp only [Oper.upon] at hh ⊢
          case enter f args =>
            refine Calls.mono hh fun e w'' he => ?_
            cases e with
            | returned u => exact he
            | panicked c => exact he.elim
            | outgrown => exact he
          all_goals exact hh
        | halt x w' => cases x <;> simp only [Oper.upon] at hh ⊢; exact hh.elim
      · exact .inr ⟨h1, h2⟩
    · rename_i hw; simpa only [hw, if_false, Bool.false_eq_true] using hh

def opE (P : Program) (ops : Array Oper) (Q : Exit → Act → World → Prop) (i : Nat) (K : Act → World → Prop) (a : Act) (w : World) : Prop :=
  wpOp P ops (QP Q) i (fun a' w' => Below w.heap.size w w' ∧ K a' w') a w

def headDone (head listed : Array Bool) : Bool := (List.range head.size).all fun i => !head.getD i false || listed.getD i false

theorem headDone_spec {head listed : Array Bool} (h : headDone head listed = true) {i : Nat} (hi : head.getD i false = true) : listed.getD i false = true := by
  have hlt : i < head.size := by
    rcases Nat.lt_or_ge i head.size with h' | h'
    · exact h'
    · simp [Array.getElem?_eq_none h'] at hi
  have := List.all_eq_true.1 h i (List.mem_range.2 hlt)
  rw [hi] at this
  simpa using this

/-- The head's operations in whatever order; each of them keeps what there was; then T. -/
def wpE (P : Program) (md : Region.Mode) (ops : Array Oper) (head : Array Bool) (Q : Exit → Act → World → Prop) (T : Array Bool → Act → World → Prop) : Nat → Array Bool → Act → World → Prop
  | 0, listed, a, w => headDone head listed = true ∧ T listed a w
  | n + 1, listed, a, w => Region.ready md ops listed ≠ [] ∧
    ∀ i ∈ Region.ready md ops listed, head.getD i false = true ∧ opE P ops Q i (wpE P md ops head Q T n (listed.setIfInBounds i true)) a w

theorem wpAny_of_E {Q : Exit → Act → World → Prop} {t : Nat} : ∀ (n : Nat) (listed : Array Bool) (a : Act) (w : World),
    wpE P md ops head Q (fun l a w => wpAny P md ops Q t l a w) n listed a w → wpAny P md ops Q (n + t) listed a w
  | 0, _, _, _, h => by simpa using h.2
  | n + 1, listed, a, w, h => by
    rw [Nat.add_right_comm]
    refine ⟨fun h0 => absurd h0 h.1, fun i hi => ?_⟩
    exact wpOp_mono (fun a' w' h' => wpAny_of_E n _ a' w' h'.2) (wpOp_QP (h.2 i hi).2)

/-- 'o' yields 'v' in this state, in every world that has all that 'w' has, and leaves that world alone. -/
def YieldsF (P : Program) (ops : Array Oper) (w : World) (o : Oper) (v : Value) (a : Act) : Prop :=
  (Region.wanted o (yielded ops a.tmps) = true ∧ ∀ w', Below w.heap.size w w' → ((execOp a.eval o).run P w' = .ok (.value v) w' ∨ ((execOp a.eval o).run P w' = .ok .skip w' ∧ v = undef))) ∨
  (Region.wanted o (yielded ops a.tmps) = false ∧ v = undef)

theorem YieldsF.mono {w w' : World} {o : Oper} {v : Value} {a : Act} (h : YieldsF P ops w o v a) (hw : Below w.heap.size w w') : YieldsF P ops w' o v a :=
  h.imp (fun ⟨h1, h2⟩ => ⟨h1, fun w'' hw'' => h2 w'' (ext_trans hw hw'')⟩) id

theorem YieldsF.of_same {w : World} {o : Oper} {v : Value} {a a' : Act} (hy : YieldsF P ops w o v a) (he : execOp a'.eval o = execOp a.eval o)
    (hw : Region.wanted o (yielded ops a'.tmps) = Region.wanted o (yielded ops a.tmps)) : YieldsF P ops w o v a' := by
  unfold YieldsF at *
  rw [he, hw]
  exact hy

theorem YieldsF.opE {Q : Exit → Act → World → Prop} {w : World} {i : Nat} {o : Oper} {v : Value} {a : Act} (hi : ops[i]? = some o) (hy : YieldsF P ops w o v a)
    {K : Act → World → Prop} (h : K (a.put o.dst v) w) : opE P ops Q i K a w := by
  unfold Cd.opE wpOp
  simp only [hi]
  rcases hy with ⟨hw, hv⟩ | ⟨hw, rfl⟩
  · have h1 := hv w (Below.refl _ _)
    clear hv
    rcases h1 with h1 | ⟨h1, rfl⟩
    · simp only [hw, if_true, Oper.wp, h1, Oper.upon]; exact .inl ⟨Below.refl _ _, h⟩
    · simp only [hw, if_true, Oper.wp, h1, Oper.upon]; exact .inl ⟨Below.refl _ _, h⟩
  · simp only [hw, Bool.false_eq_true, if_false]; exact ⟨Below.refl _ _, h⟩

theorem opE_put {Q : Exit → Act → World → Prop} {j : Nat} {oi oj : Oper} {v : Value} (hj : ops[j]? = some oj) (hap : oi.apart ops oj = true)
    (hsi : ∀ cs b, oi.op ≠ .select cs b) (hsj : ∀ cs b, oj.op ≠ .select cs b)
    {K : Act → World → Prop} {a : Act} {w : World}
    (hy : YieldsF P ops w oi v a) (h : opE P ops Q j K (a.put oi.dst v) w) :
    opE P ops Q j (fun a' w' => YieldsF P ops w' oi v a' ∧ K (a'.put oi.dst v) w') a w := by
  obtain ⟨h1, h2, h3⟩ := Oper.apart_spec hap
  have keep : ∀ (a : Act), YieldsF P ops w oi v a → ∀ u, YieldsF P ops w oi v (a.put oj.dst u) := fun a hy u =>
    hy.of_same (execOp_put oi hsi a oj.dst u h3) (wanted_put oi a oj.dst u h3)
  have keepD : ∀ d, YieldsF P ops w oi v { a with defers := d :: a.defers } := fun d => hy.of_same rfl rfl
  unfold opE wpOp at *
  simp only [hj] at *
  rw [wanted_put oj a oi.dst v h1] at h
  split
  · rename_i hw
    simp only [hw, if_true] at h
    rcases h with h | ⟨hasks, hlets⟩
    case inr => exact .inr ⟨by unfold Oper.asks at *; rw [execOp_put oj hsj a oi.dst v h1] at hasks; exact hasks, hlets⟩
    refine .inl ?_
    unfold Oper.wp at *
    rw [execOp_put oj hsj a oi.dst v h1] at h
    generalize (execOp a.eval oj).run P w = r at *
    cases r with
    | ok n w' =>
      cases n <;> simp only [Oper.upon] at h ⊢
      case value u => exact ⟨h.1, (keep a hy u).mono h.1, by rw [← Act.put_comm a v u h2]; exact h.2⟩
      case skip => exact ⟨h.1, (keep a hy _).mono h.1, by rw [← Act.put_comm a v undef h2]; exact h.2⟩
      case defer d =>
        refine ⟨h.1, (YieldsF.of_same (keepD d) (execOp_put oi hsi _ oj.dst _ h3) (wanted_put oi _ oj.dst _ h3)).mono h.1, ?_⟩
        rw [← Act.put_comm _ v undef h2, ← Act.put_defers]
        exact h.2
      case enter f args =>
        refine Calls.mono h fun e w'' he => ?_
        cases e with
        | returned u => exact ⟨he.1, (keep a hy u).mono he.1, by rw [← Act.put_comm a v u h2]; exact he.2⟩
        | panicked c => exact he.elim
        | outgrown => exact he
      case row row args => exact Rows.mono h fun u w'' he => ⟨he.1, (keep a hy u).mono he.1, by rw [← Act.put_comm a v u h2]; exact he.2⟩
    | halt x w' =>
      cases x <;> simp only [Oper.upon] at h ⊢
      case panic u => exact h.elim
  · rename_i hw
    simp only [hw] at h
    exact ⟨h.1, keep a hy _, by rw [← Act.put_comm a v undef h2]; exact h.2⟩

theorem opE_mono {Q : Exit → Act → World → Prop} {i : Nat} {a : Act} {w : World} {K K' : Act → World → Prop} (h : ∀ a w, K a w → K' a w)
    (hh : opE P ops Q i K a w) : opE P ops Q i K' a w := wpOp_mono (fun _ _ ⟨h1, h2⟩ => ⟨h1, h _ _ h2⟩) hh

/-- What is listed has had all for which it waits listed before. -/
def Closed (md : Region.Mode) (ops : Array Oper) (listed : Array Bool) : Prop :=
  ∀ j o, ops[j]? = some o → listed.getD j false = true → ∀ e ∈ o.after, Region.binds md e = true → listed.getD e.on false = true

/-- j waits for i, by way of others too. -/
def waits (md : Region.Mode) (ops : Array Oper) (i : Nat) : Nat → Nat → Bool
  | 0, _ => false
  | n + 1, j => match ops[j]? with
    | some o => o.after.any (fun e => Region.binds md e && e.on == i) || o.after.any (fun e => Region.binds md e && waits md ops i n e.on)
    | none => false

theorem waits_spec {i : Nat} {listed : Array Bool} (hc : Closed md ops listed) (hi : listed.getD i false = false) : ∀ (n j : Nat) (oj : Oper), ops[j]? = some oj → waits md ops i n j = true →
    ¬ ∀ e ∈ oj.after, Region.binds md e = true → listed.getD e.on false = true
  | 0, _, _, _, h => by cases h
  | n + 1, j, oj, hj, h => by
    intro hall
    simp only [waits, hj, Bool.or_eq_true] at h
    rcases h with h | h
    · obtain ⟨e, he, hb⟩ := Array.any_eq_true'.1 h
      simp only [Bool.and_eq_true, beq_iff_eq] at hb
      have := hall e he hb.1
      rw [hb.2, hi] at this
      cases this
    · obtain ⟨e, he, hb⟩ := Array.any_eq_true'.1 h
      simp only [Bool.and_eq_true] at hb
      have hl := hall e he hb.1
      cases ho : ops[e.on]? with
      | none => rw [show waits md ops i n e.on = false from by cases n <;> simp [waits, ho]] at hb; exact absurd hb.2 (by simp)
      | some o => exact waits_spec hc hi n e.on o ho hb.2 (hc e.on o ho hl)

theorem Closed.step {listed : Array Bool} (hc : Closed md ops listed) {j : Nat} (hj : j ∈ Region.ready md ops listed) : Closed md ops (listed.setIfInBounds j true) := by
  intro k o ho hk e he hb
  apply getD_set_true
  by_cases hkj : j = k
  · subst hkj
    obtain ⟨_, o', ho', hall⟩ := mem_ready.1 hj
    rw [ho'] at ho
    cases ho
    exact hall e he hb
  · rw [getD_set_ne false hkj] at hk
    exact hc k o ho hk e he hb

/-- An operation that only reads may be taken first. -/
theorem wpE_first {Q : Exit → Act → World → Prop} {T : Array Bool → Act → World → Prop} {i : Nat} {oi : Oper} {v : Value} (hi : ops[i]? = some oi) (hsel : ∀ (j : Nat) (o : Oper) cs b, ops[j]? = some o → o.op ≠ .select cs b)
    (hhi : head.getD i false = true) :
    ∀ (n : Nat) (listed : Array Bool) (a : Act) (w : World), Closed md ops listed →
      (∀ j oj, ops[j]? = some oj → j ≠ i → listed.getD j true = false → (∀ e ∈ oj.after, Region.binds md e = true → e.on ≠ i) → (head.getD j false = true ∧ oi.apart ops oj = true) ∨ waits md ops i ops.size j = true) →
      i ∈ Region.ready md ops listed → YieldsF P ops w oi v a →
      wpE P md ops head Q T n (listed.setIfInBounds i true) (a.put oi.dst v) w → wpE P md ops head Q T (n + 1) listed a w := by
  intro n
  have key : ∀ (listed : Array Bool), Closed md ops listed →
      (∀ j oj, ops[j]? = some oj → j ≠ i → listed.getD j true = false → (∀ e ∈ oj.after, Region.binds md e = true → e.on ≠ i) → (head.getD j false = true ∧ oi.apart ops oj = true) ∨ waits md ops i ops.size j = true) →
      i ∈ Region.ready md ops listed → ∀ j, j ∈ Region.ready md ops listed → j ≠ i → ∃ oj, ops[j]? = some oj ∧ listed.getD j true = false ∧ head.getD j false = true ∧ oi.apart ops oj = true := by
    intro listed hcl hfree hr j hj hji
    obtain ⟨hjun, oj, hoj, hall⟩ := mem_ready.1 hj
    have h0 := (mem_ready.1 hr).1
    have hi0 : listed.getD i false = false := by
      rcases Nat.lt_or_ge i listed.size with h' | h'
      · simp [h'] at h0 ⊢; exact h0
      · simp [Array.getElem?_eq_none h']
    have hnot : ∀ e ∈ oj.after, Region.binds md e = true → e.on ≠ i := fun e he hb heq => by
      have h1 := hall e he hb
      rw [heq, hi0] at h1
      cases h1
    rcases hfree j oj hoj hji hjun hnot with h | h
    · exact ⟨oj, hoj, hjun, h.1, h.2⟩
    · exact absurd hall (waits_spec hcl hi0 _ j oj hoj h)
  induction n with
  | zero =>
    intro listed a w hcl hfree hr hy H
    refine ⟨fun h => (by rw [h] at hr; cases hr), fun j hj => ?_⟩
    by_cases hji : j = i
    · subst hji; exact ⟨hhi, hy.opE hi H⟩
    · obtain ⟨oj, hoj, hjun, hjh, _⟩ := key listed hcl hfree hr j hj hji
      have h2 := headDone_spec H.1 hjh
      rw [getD_set_ne false (Ne.symm hji)] at h2
      rcases Nat.lt_or_ge j listed.size with h' | h'
      · simp [h'] at hjun h2; rw [hjun] at h2; cases h2
      · simp [Array.getElem?_eq_none h'] at h2
  | succ n ih =>
    intro listed a w hcl hfree hr hy H
    refine ⟨fun h => (by rw [h] at hr; cases hr), fun j hj => ?_⟩
    by_cases hji : j = i
    · subst hji; exact ⟨hhi, hy.opE hi H⟩
    · obtain ⟨hhj, h1⟩ := H.2 j (ready_mono hj hji)
      obtain ⟨oj, hoj, hjun, _, hap⟩ := key listed hcl hfree hr j hj hji
      have h2 := opE_put hoj hap (fun cs b => hsel i oi cs b hi) (fun cs b => hsel j oj cs b hoj) hy h1
      have hfree' : ∀ k ok, ops[k]? = some ok → k ≠ i → (listed.setIfInBounds j true).getD k true = false →
          (∀ e ∈ ok.after, Region.binds md e = true → e.on ≠ i) → (head.getD k false = true ∧ oi.apart ops ok = true) ∨ waits md ops i ops.size k = true := fun k ok hk hki hun hno => by
        refine hfree k ok hk hki ?_ hno
        by_cases hjk : j = k
        · subst hjk; exact hjun
        · rw [getD_set_ne true hjk] at hun; exact hun
      refine ⟨hhj, opE_mono (fun a' w' h3 => ih (listed.setIfInBounds j true) a' w' (hcl.step hj) hfree' (ready_mono hr (Ne.symm hji)) h3.1 ?_) h2⟩
      rw [Array.setIfInBounds_comm _ _ hji]
      exact h3.2

/-- i may be taken first: every other operation of the head waits for it, or is apart from it; what is not of the head waits for it. -/
def freeE (md : Region.Mode) (ops : Array Oper) (head listed : Array Bool) (i : Nat) : Bool :=
  match ops[i]? with
  | none => false
  | some oi => (List.range ops.size).all fun j => j == i || listed.getD j true || match ops[j]? with
      | some oj => oj.after.any (fun e => Region.binds md e && e.on == i) || (head.getD j false && oi.apart ops oj) || waits md ops i ops.size j
      | none => true

theorem freeE_spec {i : Nat} {oi : Oper} {listed : Array Bool} (hi : ops[i]? = some oi) (h : freeE md ops head listed i = true) (j : Nat) (oj : Oper)
    (hj : ops[j]? = some oj) (hne : j ≠ i) (hun : listed.getD j true = false) (hno : ∀ e ∈ oj.after, Region.binds md e = true → e.on ≠ i) :
    (head.getD j false = true ∧ oi.apart ops oj = true) ∨ waits md ops i ops.size j = true := by
  simp only [freeE, hi, List.all_eq_true, List.mem_range] at h
  have h1 := h j (Array.getElem?_eq_some_iff.1 hj).1
  simp only [hj, Bool.or_eq_true, beq_iff_eq, hne, false_or, hun, Bool.false_eq_true] at h1
  rcases h1 with (h1 | h1) | h1
  · obtain ⟨e, he, hb⟩ := Array.any_eq_true'.1 h1
    simp only [Bool.and_eq_true, beq_iff_eq] at hb
    exact absurd hb.2 (hno e he hb.1)
  · exact .inl (by simpa using h1)
  · exact .inr h1

def closedB (md : Region.Mode) (ops : Array Oper) (listed : Array Bool) : Bool :=
  (List.range ops.size).all fun j => !listed.getD j false || match ops[j]? with
    | some o => o.after.all fun e => !Region.binds md e || listed.getD e.on false
    | none => true

theorem closedB_spec {listed : Array Bool} (h : closedB md ops listed = true) : Closed md ops listed := by
  intro j o ho hj e he hb
  have h1 := List.all_eq_true.1 h j (List.mem_range.2 (Array.getElem?_eq_some_iff.1 ho).1)
  simp only [hj, ho, Bool.not_true, Bool.false_or] at h1
  have h2 := Array.all_eq_true_iff_forall_mem.1 h1 e he
  simpa [hb] using h2

/-- These may be listed one behind the other, each of them free. -/
def segOk (md : Region.Mode) (ops : Array Oper) (head : Array Bool) : List Nat → Array Bool → Bool
  | [], _ => true
  | i :: l, listed => (Region.ready md ops listed).contains i && freeE md ops head listed i && head.getD i false && segOk md ops head l (listed.setIfInBounds i true)

def setAll : List Nat → Array Bool → Array Bool
  | [], listed => listed
  | i :: l, listed => setAll l (listed.setIfInBounds i true)

/-- What only reads: no call of a Go function among them. -/
def isFlt : Op → Bool
  | .move _ | .assign _ | .pick .. | .load .. | .binOp .. | .unOp .. | .convert .. | .slice .. | .fieldAddr .. | .field .. | .indexAddr .. | .index .. | .extract .. | .build .. => true
  | .call { callee := .builtin b, .. } => match b with | .len | .cap | .max | .min => true | _ => false
  | _ => false

theorem no_enter_v (s : Sem Value) (w : World) (f : FuncId) (args : Array Value) (w' : World) : (s.bind fun x => Sem.pure (Next.value x)).run P w ≠ .ok (.enter f args) w' := by
  rw [Sem.run_bind']
  cases s.run P w with
  | ok x w1 => intro h; cases h
  | halt x w1 => intro h; cases h

theorem no_enter {ρ : Operand → Value} {o : Oper} (h : isFlt o.op = true) (w : World) (f : FuncId) (args : Array Value) (w' : World) : (execOp ρ o).run P w ≠ .ok (.enter f args) w' := by
  obtain ⟨dst, op, type, pos, after, guard⟩ := o
  cases op <;> simp only [isFlt, Bool.false_eq_true] at h
  case move x => intro h; cases h
  case assign x => intro h; cases h
  case pick c a b =>
    simp only [execOp]
    cases ρ c <;> first | (intro h; cases h; done) | (intro h; simp [asBool] at h)
  case call c =>
    obtain ⟨callee, args', ats⟩ := c
    cases callee <;> simp only [Bool.false_eq_true] at h
    case builtin b =>
      cases b <;> simp only [Bool.false_eq_true] at h
      all_goals exact no_enter_v _ _ _ _ _
  all_goals exact no_enter_v _ _ _ _ _

def fltAll (ops : Array Oper) (l : List Nat) : Bool := l.all fun i => match ops[i]? with | some o => isFlt o.op | none => false

def pickOps (ops : Array Oper) (l : List Nat) : List Oper := l.filterMap (ops[·]?)

theorem wpE_seg {Q : Exit → Act → World → Prop} {T : Array Bool → Act → World → Prop} (hs : Region.noSelect ops = true) : ∀ (l : List Nat) (n : Nat) (listed : Array Bool) (a : Act) (w : World), Closed md ops listed →
    (fltAll ops l && segOk md ops head l listed) = true → wpQuiet P ops (fun w' => ∃ g : Gr w, w' = g.to) (fun a' => wpE P md ops head Q T n (setAll l listed) a' w) (pickOps ops l) a → wpE P md ops head Q T (n + l.length) listed a w
  | [], n, listed, a, w, _, _, h => h
  | i :: l, n, listed, a, w, hcl, hB, h => by
    simp only [segOk, fltAll, List.all_cons, Bool.and_eq_true] at hB
    obtain ⟨⟨hfi, hfl⟩, ⟨⟨hr, hf⟩, hh⟩, hB'⟩ := hB
    cases ho : ops[i]? with
    | none => rw [ho] at hfi; cases hfi
    | some o =>
      rw [ho] at hfi
      simp only at hfi
      have hp : pickOps ops (i :: l) = o :: pickOps ops l := by simp [pickOps, ho]
      rw [hp] at h
      have hB2 : (fltAll ops l && segOk md ops head l (listed.setIfInBounds i true)) = true := by simp only [fltAll, Bool.and_eq_true]; exact ⟨hfl, hB'⟩
      simp only [wpQuiet] at h
      by_cases hw : Region.wanted o (yielded ops a.tmps) = true
      · rw [if_pos hw] at h
        obtain ⟨v, hv, hK⟩ := h
        refine wpE_first ho (Region.noSelect_spec hs) hh (n + l.length) listed a w hcl (freeE_spec ho hf) (by simpa using hr) (.inl ⟨hw, fun w' hw' => ?_⟩)
          (wpE_seg hs l n _ _ w (hcl.step (by simpa using hr)) hB2 hK)
        have h1 := hv w' ⟨⟨w', hw'⟩, rfl⟩
        unfold Oper.quietAt at h1
        generalize hrun : (execOp a.eval o).run P w' = r at h1
        cases r with
        | ok x w1 =>
          cases x <;> simp only [Oper.quietUpon] at h1
          case value u => rw [h1.1, h1.2]; exact .inl rfl
          case skip => rw [h1.1, h1.2]; exact .inr ⟨rfl, rfl⟩
          case enter f args => exact absurd hrun (no_enter hfi _ _ _ _)
        | halt x w1 => exact h1.elim
      · rw [if_neg hw] at h
        exact wpE_first ho (Region.noSelect_spec hs) hh (n + l.length) listed a w hcl (freeE_spec ho hf) (by simpa using hr) (.inr ⟨by simpa using hw, rfl⟩)
          (wpE_seg hs l n _ _ w (hcl.step (by simpa using hr)) hB2 h)

/-- The i-th, found by counting. -/
def nth : List Oper → Nat → Option Oper
  | [], _ => none
  | o :: _, 0 => some o
  | _ :: l, i + 1 => nth l i

theorem nth_eq : ∀ (l : List Oper) (i : Nat), nth l i = l[i]?
  | [], _ => by simp [nth]
  | _ :: _, 0 => by simp [nth]
  | _ :: l, i + 1 => by simp [nth, nth_eq l i]

theorem at_of_nth {i : Nat} {o : Oper} (h : nth ops.toList i = some o) : ops[i]? = some o := by rw [nth_eq] at h; simpa using h

theorem seg_cons {C : World → Prop} {K : Act → Prop} {i : Nat} {o : Oper} {l : List Nat} {a : Act} (ho : nth ops.toList i = some o) (h : wpQuiet P ops C K (o :: pickOps ops l) a) : wpQuiet P ops C K (pickOps ops (i :: l)) a := by
  have hp : pickOps ops (i :: l) = o :: pickOps ops l := by simp [pickOps, at_of_nth ho]
  rw [hp]; exact h
theorem seg_nil {C : World → Prop} {K : Act → Prop} {a : Act} (h : K a) : wpQuiet P ops C K (pickOps ops []) a := h
theorem tail_cons {Q : Exit → Act → World → Prop} {i : Nat} {o : Oper} {l : List Nat} {a : Act} {w : World} (ho : nth ops.toList i = some o) (h : wpList P ops Q (o :: pickOps ops l) a w) : wpList P ops Q (pickOps ops (i :: l)) a w := by
  have hp : pickOps ops (i :: l) = o :: pickOps ops l := by simp [pickOps, at_of_nth ho]
  rw [hp]; exact h
theorem tail_nil {Q : Exit → Act → World → Prop} {a : Act} {w : World} (h : Q .normal a w) : wpList P ops (QP Q) (pickOps ops []) a w := h

/-- The same, the count said as an equation. -/
theorem wpE_seg' {Q : Exit → Act → World → Prop} {T : Array Bool → Act → World → Prop} (l : List Nat) (n : Nat) {m : Nat} {listed : Array Bool} {a : Act} {w : World} (hn : m = n + l.length)
    (hB : ((Region.noSelect ops && closedB md ops listed) && (fltAll ops l && segOk md ops head l listed)) = true) (h : wpQuiet P ops (fun w' => ∃ g : Gr w, w' = g.to) (fun a' => wpE P md ops head Q T n (setAll l listed) a' w) (pickOps ops l) a) : wpE P md ops head Q T m listed a w := by
  subst hn
  rw [Bool.and_eq_true, Bool.and_eq_true] at hB
  exact wpE_seg hB.1.1 l n listed a w (closedB_spec hB.1.2) hB.2 h

/-- The exit of one operation of the head, said as an exit of a list. -/
def QE (Q : Exit → Act → World → Prop) (w : World) (K : Act → World → Prop) : Exit → Act → World → Prop
  | .normal, a, w' => Below w.heap.size w w' ∧ K a w'
  | .panic _, _, _ => False
  | e, a, w' => Q e a w'

theorem opE_of_list {Q : Exit → Act → World → Prop} {K : Act → World → Prop} {i : Nat} {o : Oper} {a : Act} {w : World} (hi : ops[i]? = some o)
    (h : wpList P ops (QE Q w K) [o] a w) : opE P ops Q i K a w := by
  unfold opE wpOp
  simp only [hi]
  unfold wpList at h
  split
  · rename_i hw
    rw [if_pos hw] at h
    rcases h with h | ⟨h1, h2⟩
    · refine .inl ?_
      unfold Oper.wp at *
      generalize (execOp a.eval o).run P w = r at *
      cases r with
      | ok n w' =>
        cases n <;> simp only [Oper.upon] at h ⊢
        case enter f args =>
          refine Calls.mono h fun e w'' he => ?_
          cases e with
          | returned u => exact he
          | panicked c => exact he
          | outgrown => exact he
        case row row args => exact Rows.mono h fun u w'' he => he
        all_goals exact h
      | halt x w' => cases x <;> simp only [Oper.upon] at h ⊢; exact h
    · exact .inr ⟨h1, h2⟩
  · rename_i hw
    rw [if_neg hw] at h
    exact h

/-- The next one is forced. -/
theorem wpE_one {Q : Exit → Act → World → Prop} {T : Array Bool → Act → World → Prop} {n : Nat} (i : Nat) {o : Oper} {listed : Array Bool} {a : Act} {w : World} (hB : (Region.ready md ops listed == [i] && head.getD i false) = true) (hi : nth ops.toList i = some o)
    (h : wpList P ops (QE Q w (wpE P md ops head Q T n (listed.setIfInBounds i true))) [o] a w) : wpE P md ops head Q T (n + 1) listed a w := by
  simp only [Bool.and_eq_true, beq_iff_eq] at hB
  obtain ⟨hr, hh⟩ := hB
  refine ⟨by rw [hr]; simp, fun j hj => ?_⟩
  rw [hr] at hj
  obtain rfl : j = i := by simpa using hj
  exact ⟨hh, opE_of_list (at_of_nth hi) h⟩

/-- One of two may come. -/
theorem wpE_two {Q : Exit → Act → World → Prop} {T : Array Bool → Act → World → Prop} {n : Nat} (i k : Nat) {o u : Oper} {listed : Array Bool} {a : Act} {w : World} (hB : (Region.ready md ops listed == [i, k] && (head.getD i false && head.getD k false)) = true) (hi : nth ops.toList i = some o) (hk : nth ops.toList k = some u)
    (h : wpList P ops (QE Q w (wpE P md ops head Q T n (listed.setIfInBounds i true))) [o] a w) (h' : wpList P ops (QE Q w (wpE P md ops head Q T n (listed.setIfInBounds k true))) [u] a w) : wpE P md ops head Q T (n + 1) listed a w := by
  simp only [Bool.and_eq_true, beq_iff_eq] at hB
  obtain ⟨hr, hh⟩ := hB
  refine ⟨by rw [hr]; simp, fun j hj => ?_⟩
  rw [hr] at hj
  simp only [List.mem_cons, List.not_mem_nil, or_false] at hj
  rcases hj with rfl | rfl
  · exact ⟨hh.1, opE_of_list (at_of_nth hi) h⟩
  · exact ⟨hh.2, opE_of_list (at_of_nth hk) h'⟩

/-- Behind a forced one: it has kept what there was. -/
theorem QE_intro {Q : Exit → Act → World → Prop} {w : World} {K : Act → World → Prop} {a : Act} {w' : World} (h1 : Below w.heap.size w w') (h2 : K a w') : QE Q w K .normal a w' := ⟨h1, h2⟩

/-- What does not look at memory. -/
def isPure : Op → Bool
  | .move _ | .assign _ | .pick .. | .extract .. => true
  | _ => false

theorem pure_run {ρ : Operand → Value} {o : Oper} (h : isPure o.op = true) : (∃ v, ∀ w, (execOp ρ o).run P w = .ok (.value v) w ∧ ∀ es, ((execOp ρ o).runT P w es).2 = es) ∨ (∃ s, ∀ w, (execOp ρ o).run P w = .halt (.stuck s) w ∧ ∀ es, ((execOp ρ o).runT P w es).2 = es) := by
  obtain ⟨dst, op, type, pos, after, guard⟩ := o
  cases op <;> simp only [isPure, Bool.false_eq_true] at h
  case move x => exact .inl ⟨ρ x, fun w => ⟨rfl, fun _ => rfl⟩⟩
  case assign x => exact .inl ⟨ρ x, fun w => ⟨rfl, fun _ => rfl⟩⟩
  case pick c a b =>
    cases hc : ρ c
    case bool t => cases t <;> exact .inl ⟨_, fun w => by constructor; { simp only [execOp, hc]; rfl }; { intro es; simp only [execOp, hc]; rfl }⟩
    all_goals exact .inr ⟨_, fun w => by constructor; { simp only [execOp, hc]; rfl }; { intro es; simp only [execOp, hc]; rfl }⟩
  case extract x ix =>
    cases hc : ρ x
    case tuple vs =>
      cases hv : vs[ix]? with
      | none => exact .inr ⟨_, fun w => by constructor; { simp only [execOp, hc, Instr.extract, hv]; rfl }; { intro es; simp only [execOp, hc, Instr.extract, hv]; rfl }⟩
      | some y => exact .inl ⟨y, fun w => by constructor; { simp only [execOp, hc, Instr.extract, hv]; rfl }; { intro es; simp only [execOp, hc, Instr.extract, hv]; rfl }⟩
    all_goals exact .inr ⟨_, fun w => by constructor; { simp only [execOp, hc, Instr.extract]; rfl }; { intro es; simp only [execOp, hc, Instr.extract]; rfl }⟩

/-- The tail: one behind the other; what does not look at memory may come when it likes. -/
def tailOk (md : Region.Mode) (ops : Array Oper) : List Nat → Array Bool → Bool
  | [], listed => (Region.ready md ops listed).isEmpty
  | i :: l, listed => (Region.ready md ops listed == [i] || ((Region.ready md ops listed).contains i && Region.free md ops listed i && (match ops[i]? with | some o => isPure o.op | none => false))) && tailOk md ops l (listed.setIfInBounds i true)

theorem wpAny_tail {Q : Exit → Act → World → Prop} (hs : Region.noSelect ops = true) : ∀ (l : List Nat) (listed : Array Bool) (a : Act) (w : World),
    tailOk md ops l listed = true → wpList P ops (QP Q) (pickOps ops l) a w → wpAny P md ops (QP Q) l.length listed a w
  | [], listed, a, w, hB, h => ⟨by simpa [tailOk] using hB, h⟩
  | i :: l, listed, a, w, hB, h => by
    simp only [tailOk, Bool.and_eq_true, Bool.or_eq_true, beq_iff_eq] at hB
    obtain ⟨hr, hB'⟩ := hB
    rcases hr with hr | ⟨⟨hr, hfree⟩, hp⟩
    · refine wpAny_all hr (by simp) fun j hj => ?_
      obtain rfl : j = i := by simpa using hj
      have hj' : j ∈ Region.ready md ops listed := by rw [hr]; simp
      obtain ⟨_, o, ho, _⟩ := mem_ready.1 hj'
      have hp : pickOps ops (j :: l) = o :: pickOps ops l := by simp [pickOps, ho]
      rw [hp] at h
      unfold wpOp
      simp only [ho]
      unfold wpList at h
      split
      · rename_i hw
        rw [if_pos hw] at h
        exact h.imp (Oper.wp_mono fun a w h => wpAny_tail hs l _ a w hB' h) id
      · rename_i hw
        rw [if_neg hw] at h
        exact wpAny_tail hs l _ _ w hB' h
    · cases ho : ops[i]? with
      | none => rw [ho] at hp; cases hp
      | some o =>
        rw [ho] at hp
        simp only at hp
        have hpk : pickOps ops (i :: l) = o :: pickOps ops l := by simp [pickOps, ho]
        rw [hpk] at h
        unfold wpList at h
        by_cases hw : Region.wanted o (yielded ops a.tmps) = true
        · rw [if_pos hw] at h
          rcases pure_run (P := P) (ρ := a.eval) hp with ⟨v, hv⟩ | ⟨s, hv⟩
          · refine wpAny_take ho hs hfree hr (fun _ _ _ h => h.elim) (.inl ⟨hw, fun w => (hv w).1⟩) (wpAny_tail hs l _ _ w hB' ?_)
            rcases h with h | ⟨h1, _⟩
            · unfold Oper.wp at h
              rw [(hv w).1] at h
              exact h
            · exfalso
              have := h1.1
              rw [(hv w).2] at this
              simp at this
          · exfalso
            rcases h with h | ⟨h1, _⟩
            · unfold Oper.wp at h
              rw [(hv w).1] at h
              exact h
            · have := h1.1
              rw [(hv w).2] at this
              simp at this
        · rw [if_neg hw] at h
          exact wpAny_take ho hs hfree hr (fun _ _ _ h => h.elim) (.inr ⟨by simpa using hw, rfl⟩) (wpAny_tail hs l _ _ w hB' h)

theorem wpAny_QP {Q : Exit → Act → World → Prop} : ∀ (n : Nat) (listed : Array Bool) (a : Act) (w : World), wpAny P md ops (QP Q) n listed a w → wpAny P md ops Q n listed a w
  | 0, _, _, _, h => ⟨h.1, h.2⟩
  | n + 1, _, _, _, h => ⟨fun h0 => h.1 h0, fun i hi => wpOp_mono (fun a w h => wpAny_QP n _ a w h) (wpOp_QP (h.2 i hi))⟩

theorem wpE_tail {Q : Exit → Act → World → Prop} (l : List Nat) {listed : Array Bool} {a : Act} {w : World} (hB : (headDone head listed && (Region.noSelect ops && tailOk md ops l listed)) = true)
    (h : wpList P ops (QP Q) (pickOps ops l) a w) : wpE P md ops head Q (fun l' a w => wpAny P md ops Q l.length l' a w) 0 listed a w := by
  simp only [Bool.and_eq_true] at hB
  exact ⟨hB.1, wpAny_QP _ _ _ _ (wpAny_tail hB.2.1 l listed a w hB.2.2 h)⟩

/-- A region that draws: n operations form its head ('head' marks them), t (stores, what may come behind them) its tail. -/
theorem wp_region_E {id : Nat} {Q : Exit → Act → World → Prop} {a : Act} {w : World} {l : List Oper} (head : Array Bool) (n t : Nat) (hm : P.follows .mixedOrders = true) (hn : n + t = l.length)
    (h : wpE P .any l.toArray head Q (fun l' a w => wpAny P .any l.toArray Q t l' a w) n (Array.replicate l.length false) a w.drew) : (Code.region id l.toArray true).wp P Q a w := by
  refine wp_region_any hm ?_
  have := wpAny_of_E n _ _ _ h
  rw [hn] at this
  simpa using this

end
end Go.Cd

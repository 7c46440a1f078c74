/-
  'append' on one of two rows of the call's own: the other one stays; the two never share a block.
-/
import Derived.Test.YtcabmibcgedhhaaStr7
import Derived.Lib.AppendZerosOnto
namespace Go.Proofs.Ytcabmibcgedhhaa
open Go.RowKit Go.Cd

/-- Two rows that share no block. -/
def Apart (u v : Value) : Prop := ∀ k, u.ownBlock = some k → v.ownBlock ≠ some k
theorem Apart.symm {u v : Value} (h : Apart u v) : Apart v u := fun k hv hu => h k hu hv
theorem apart_nil (v : Value) (n c : Nat) : Apart (.slice none n c) v := fun k h => by simp [Value.ownBlock] at h
/-- The row behind an append: the old block, or a new one. -/
def NewRow (W : World) (v v' : Value) : Prop := v'.ownBlock = v.ownBlock ∨ ∃ k, v'.ownBlock = some k ∧ W.heap.size ≤ k
theorem Apart.push {W : World} {base n : Nat} {e : TypeId} {u v v' : Value} {xs : List Value} (h : Apart u v) (hu : W.ownsRow base e 1 u n xs) (hn : NewRow W v v') : Apart u v' := by
  intro k hk hv'
  rcases hn with hn | ⟨k', h1, h2⟩
  · exact h k hk (hn ▸ hv')
  · rw [h1] at hv'
    cases hv'
    have := (hu.lt k hk).2
    omega
theorem Apart.stays {W W' : World} {base n : Nat} {e : TypeId} {u v : Value} {xs : List Value} (h : Apart u v) (hu : W.ownsRow base e 1 u n xs) (hg : W.grownBy W' v.ownBlock) : W'.ownsRow base e 1 u n xs := by
  refine hu.kept hg ?_
  cases hk : u.ownBlock with
  | none => exact .inl rfl
  | some k => exact .inr fun e => h k hk e.symm

/-- 'append(out, x)', out one of the call's own rows of texts. -/
theorem push2 {W : World} {ops : Array Oper} {rest : List Oper} {o : Oper} {a : Act} {Q : Exit → Act → World → Prop} (hgd : o.guard = none) (s x : Operand)
    (ho : o.op = .call { callee := .builtin .append, args := #[s, x], argTypes := #[71, 71] })
    (base : Nat) (v : Value) (n : Nat) (l : List Txt) (hs : a.eval s = v) (hown : W.ownsRow base eStr 1 v n (txs l))
    (t : Txt) (hx : a.eval x = .slice (some ⟨W.heap.size, 0, none⟩) 1 1) (hn : n < 1099511627776) (w0 : World) (hb : Below base w0 W) (hbase : base ≤ w0.heap.size)
    (h : ∀ v' w', w'.ownsRow base eStr 1 v' (n + 1) (txs (l ++ [t])) → Below base w0 w' → W.grownBy w' v.ownBlock → NewRow W v v' → wpList Try.prog ops Q rest (a.put o.dst v') w') :
    wpList Try.prog ops Q (o :: rest) a (W.alloc (.cells #[.string (sv t)] eStr)) := by
  have hsz := hb.size
  obtain ⟨hz1, ht, i, hi, hz, hsize, hby⟩ := elemStr
  have hown2 := hown.alloc (.cells #[.string (sv t)] eStr)
  have hnews : ∀ (j : Nat) (u : Value), ([Value.string (sv t)] : List Value)[j]? = some u → (W.alloc (.cells #[.string (sv t)] eStr)).cell? ((⟨W.heap.size, 0, none⟩ : Addr).add j) = some u := by
    intro j u hj
    have : j = 0 := by
      rcases j with _ | j
      · rfl
      · simp at hj
    subst this
    have e0 : (⟨W.heap.size, 0, none⟩ : Addr).add 0 = ⟨W.heap.size, 0, none⟩ := rfl
    rw [e0]
    unfold World.cell?
    rw [heap_alloc_new]
    simpa using hj
  have h1 : ∀ u ∈ ([Value.string (sv t)] : List Value), u.oneCell' = true := by intro u hu; rw [List.mem_singleton.1 hu]; rfl
  have hmax : n + 1 ≤ maxLen := by unfold maxLen; omega
  have hl1 : ([Value.string (sv t)] : List Value).length = 1 * i.size := by rw [hsize]; rfl
  have hzs : (Value.string ⟨#[]⟩).cells.size = 1 := oneCell_size hz1
  obtain ⟨v', w', hr, h2, h3, _⟩ := run_append_own (P := Try.prog) (W.alloc (.cells #[.string (sv t)] eStr)) base 71 o.type eStr i (.string ⟨#[]⟩) 1 16 ht hi hz hsize hby hzs (by decide) v n (txs l) hown2
    ⟨W.heap.size, 0, none⟩ 1 1 [.string (sv t)] rfl hnews h1 hmax (by omega) (by simp; omega)
  have hnew : NewRow W v v' := by
    rcases hown2.2 with ⟨rfl, rfl⟩ | ⟨g, cap, cur, rfl, hbg, hg, hnc, hcm, hcs, htake⟩
    · have hr' := run_append_nil (P := Try.prog) (W.alloc (.cells #[.string (sv t)] eStr)) 71 o.type eStr i (.string ⟨#[]⟩) ht hi hz ⟨W.heap.size, 0, none⟩ 1 1 [.string (sv t)] hl1 hnews (by decide) (by decide) (by rw [hby]; decide)
      rw [hr'] at hr
      injection hr with e1 _
      subst e1
      exact .inr ⟨_, rfl, by simp⟩
    · by_cases hroom : n + 1 ≤ cap
      · have hr' := run_append_room (P := Try.prog) (W.alloc (.cells #[.string (sv t)] eStr)) 71 o.type eStr i ht hi g n cap cur hg ⟨W.heap.size, 0, none⟩ 1 1 [.string (sv t)] hl1 hnews h1 hroom (by rw [hsize, List.length_singleton, hcs]; omega)
        rw [hr'] at hr
        injection hr with e1 _
        subst e1
        exact .inl rfl
      · have hr' := run_append_grow (P := Try.prog) (W.alloc (.cells #[.string (sv t)] eStr)) 71 o.type eStr i (.string ⟨#[]⟩) ht hi hz ⟨g, 0, none⟩ n cap (txs l) (by rw [hsize]; exact hown2.1) (hown2.cells (g := g) rfl) ⟨W.heap.size, 0, none⟩ 1 1 [.string (sv t)] hl1 hnews (by omega) (by omega) (growslice_fits (by omega) (by rw [hby]; omega))
        rw [hr'] at hr
        injection hr with e1 _
        subst e1
        exact .inr ⟨_, rfl, by simp⟩
  refine Lib.wpList_append_run _ hgd s x _ _ ho v _ hs hx v' w' hr ?_
  refine h v' w' (by rw [txs_append]; exact h2) ((hb.alloc (by omega) _).grown h3 (by simp; omega) (fun k hk => (hown.lt k hk).1)) ?_ hnew
  have ha := World.grownBy_alloc W (.cells #[.string (sv t)] eStr) v.ownBlock
  exact ha.trans h3
end Go.Proofs.Ytcabmibcgedhhaa

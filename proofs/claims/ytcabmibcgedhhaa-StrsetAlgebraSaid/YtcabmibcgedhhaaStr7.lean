/-
  The walks of the document's list of two lists (ref.Has, ref.Sorted) and of the statements' own helpers (Cut, Few). 
-/
import Derived.Test.YtcabmibcgedhhaaStr1
import Derived.Test.YtcabmibcgedhhaaStrQ
import Derived.Test.YtcabmibcgedhhaaBw0
namespace Go.Proofs.Ytcabmibcgedhhaa
open Go.RowKit Go.Cd

theorem SlA.outTn {w : World} {v : Value} {l : List Txt} {n : Nat} (h : SlA w v (txs l)) (hn : n = l.length) : ∃ a cap, v = .slice a n cap ∧ n ≤ cap ∧
    ∀ i (hi : i < l.length), ∃ b off, a = some ⟨b, off, none⟩ ∧ b < w.heap.size ∧ w.cell? ⟨b, off + i, none⟩ = some (.string (sv l[i])) := by subst hn; exact SlA.outT h

theorem sv_take (t : Txt) (n : Nat) : (sv t).extract 0 n = sv (t.take n) := by
  apply ByteArray.ext
  simp [sv]

/-- 'append(out, x)', out a row of texts of the call's own. -/
theorem pushT {W : World} {ops : Array Oper} {rest : List Oper} {o : Oper} {a : Act} {Q : Exit → Act → World → Prop} (hgd : o.guard = none) (s x : Operand)
    (ho : o.op = .call { callee := .builtin .append, args := #[s, x], argTypes := #[71, 71] })
    (base : Nat) (v : Value) (n : Nat) (l : List Txt) (hs : a.eval s = v) (hown : W.ownsRow base eStr 1 v n (txs l))
    (t : Txt) (hx : a.eval x = .slice (some ⟨W.heap.size, 0, none⟩) 1 1) (hn : n < 1099511627776) (w0 : World) (hb : Below base w0 W) (hbase : base ≤ w0.heap.size)
    (h : ∀ v' w', w'.ownsRow base eStr 1 v' (n + 1) (txs (l ++ [t])) → Below base w0 w' → (W.alloc (.cells #[.string (sv t)] eStr)).grownBy w' v.ownBlock → wpList Try.prog ops Q rest (a.put o.dst v') w') :
    wpList Try.prog ops Q (o :: rest) a (W.alloc (.cells #[.string (sv t)] eStr)) := by
  have hsz := hb.size
  refine wpList_append_sl hgd s x _ ho base eStr _ 16 elemStr v n (txs l) hs (hown.alloc _) _ [.string (sv t)] hx (sla_new W #[.string (sv t)] eStr) (by simp [Value.oneCell']) (by simp [maxLen]; omega) (by simp; omega) (by simp; omega) ?_
  intro v' w' h2 h3
  refine h v' w' (by rw [txs_append]; simpa [txs] using h2) ((hb.alloc (by omega) _).grown h3 (by simp; omega) ?_) h3
  intro k hk
  exact (hown.lt k hk).1

theorem str_ne {s t : Txt} (h : ¬ s = t) : ((sv s).toList == (sv t).toList) = false := by rw [sv_toList, sv_toList]; simpa using h

set_option maxRecDepth 100000 in
set_option maxHeartbeats 1600000 in
theorem refHas_ok {w : World} {v : Value} {l : List Txt} (h : SlA w v (txs l)) (hmax : l.length < 1099511627776) (t : Txt) :
    Calls Try.prog 66 #[v, .string (sv t)] w fun e w' => e = .returned (.bool (decide (t ∈ l))) ∧ Below w.heap.size w w' := by
  obtain ⟨a, cap, rfl, _, hx⟩ := SlA.outT h
  have HX := Lib.hid hx
  obtain ⟨n, hn⟩ : ∃ n, n = l.length := ⟨_, rfl⟩
  rw [← hn] at hmax ⊢
  have HN := Lib.hid hn
  clear h hx hn
  go_enter Try.func66, Try.ntmps66
  go_wp2_with fail
  go_loopw [9] (fun i wr => ∃ j : Nat, j ≤ n ∧ i = .int .i64 j ∧ t ∉ l.take j ∧ wr = w) (fun i _ => n - (intOf i).toNat)
  case atStart => exact ⟨0, Nat.zero_le _, rfl, by simp, rfl⟩
  case round =>
    obtain ⟨j, hj, rfl, hm, rfl⟩ := hrel
    by_cases hjn : j < n
    · have hjl : j < l.length := by have := HN.out; omega
      obtain ⟨b, off, rfl, _, hc⟩ := HX.out j hjl
      have HM := Lib.hid hm
      have HT := Lib.hid (mem_take_succ (c := l) hjl (x := t))
      have HE := Lib.hid (List.getElem_mem hjl)
      generalize l[j] = s at *
      clear hm
      by_cases hst : s = t
      · subst hst
        have HR := Lib.hid (decide_eq_true HE.out)
        go_wp2
        go_ret
        exact ⟨ret_bool HR.out.symm, Below.refl _ _⟩
      · have hne := str_ne hst
        go_wp2
        go_roundw
        case rel => exact ⟨j + 1, by omega, rfl, fun h => (HT.out.1 h).elim HM.out (fun e => hst e.symm), trivial⟩
        case measure => simp [intOf]; omega
    · obtain rfl : j = n := by omega
      have HR := Lib.hid (decide_eq_false (fun h => hm (by rw [HN.out, List.take_length]; exact h)) : decide (t ∈ l) = false)
      go_wp2
      go_ret
      exact ⟨ret_bool HR.out.symm, Below.refl _ _⟩

set_option maxRecDepth 100000 in
set_option maxHeartbeats 1600000 in
theorem cut05_ok {w : World} (t : Txt) (n : Nat) (hn : n < 1099511627776) :
    Calls Try.prog 56 #[.string (sv t), .int .i64 n] w fun e w' => e = .returned (.string (sv (t.take n))) ∧ w' = w := by
  have hs := size_sv t
  by_cases hlt : n < t.length
  · go_enter Try.func56, Try.ntmps56
    go_wp2
    go_ret
    exact ⟨congrArg (fun s => Ending.returned (.string s)) (sv_take t n), rfl⟩
  · go_enter Try.func56, Try.ntmps56
    go_wp2
    go_ret
    rw [List.take_of_length_le (by omega)]
    exact ⟨rfl, rfl⟩

set_option maxRecDepth 100000 in
set_option maxHeartbeats 1600000 in
theorem fewT_ok {w : World} {v : Value} {l : List Txt} (h : SlA w v (txs l)) :
    Calls Try.prog 55 #[v] w fun e w' => ∃ r m, e = .returned r ∧ w'.ownsRow w.heap.size eStr 1 r m.length (txs m) ∧ m.length ≤ 40 ∧ Below w.heap.size w w' := by
  obtain ⟨a, cap, rfl, _, hx⟩ := SlA.outT h
  have HX := Lib.hid hx
  obtain ⟨n, hn⟩ : ∃ n, n = l.length := ⟨_, rfl⟩
  rw [← hn]
  have HN := Lib.hid hn
  clear h hx hn
  go_enter Try.func55, Try.ntmps55
  go_wp2_with fail
  go_loopw [3, 4] (fun o i wr => ∃ (j : Nat) (m : List Txt), j ≤ n ∧ j ≤ 40 ∧ i = .int .i64 j ∧ m.length = j ∧ wr.ownsRow w.heap.size eStr 1 o j (txs m) ∧ Below w.heap.size w wr) (fun _ i _ => n - (intOf i).toNat)
  case atStart => exact ⟨0, [], Nat.zero_le _, Nat.zero_le _, rfl, rfl, World.ownsRow_nil _ _ _ _, Below.refl _ _⟩
  case round =>
    obtain ⟨j, m, hj, hj40, rfl, hm, ho, hE⟩ := hrel
    by_cases hjn : j < n
    · by_cases h40 : j < 40
      · have hjl : j < l.length := by have := HN.out; omega
        obtain ⟨b, off, rfl, hbs, hc⟩ := HX.out j hjl
        have hc := (hE.cell (p := ⟨b, off + j, none⟩) hbs).trans hc
        generalize l[j] = s at *
        have CU := Lib.hid (cut05_ok (w := wr) s 30 (by omega))
        go_wp2_with fail
        refine CU.out.mono ?_
        rintro e w1 ⟨rfl, rfl⟩
        go_wp2_with (at_builtin; refine pushT rfl _ _ rfl w.heap.size _ j m rfl ho (s.take 30) rfl (by omega) w hE (Nat.le_refl _) ?_; intro v' w' hown' hb' _)
        go_roundw
        case rel => exact ⟨j + 1, m ++ [s.take 30], by omega, by omega, rfl, by simp [hm], hown', hb'⟩
        case measure => simp [intOf]; omega
      · obtain rfl : j = 40 := by omega
        go_wp2
        go_ret
        exact ⟨_, m, rfl, by rw [hm]; exact ho, by omega, hE⟩
    · go_wp2
      go_ret
      exact ⟨_, m, rfl, by rw [hm]; exact ho, by omega, hE⟩
end Go.Proofs.Ytcabmibcgedhhaa

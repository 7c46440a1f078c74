/-
  The walk of the document's Next.
-/
import Derived.Test.YtcabmibcgedhhaaLawRadixOrder
import Derived.Test.YtcabmibcgedhhaaSeg
namespace Go.Proofs.Ytcabmibcgedhhaa
open Go.RowKit Go.Cd

theorem own_addr {w : World} {base n cap : Nat} {e : TypeId} {a : Option Addr} {xs : List Value} (h : w.ownsRow base e 1 (.slice a n cap) n xs) (hn : 0 < n) : ∃ g, a = some ⟨g, 0, none⟩ ∧ base ≤ g := by
  obtain ⟨h1, h2⟩ := h
  rcases h2 with ⟨hv, _⟩ | ⟨g, cap', cur, hv, hg, _⟩
  · simp at hv; omega
  · simp only [Value.slice.injEq] at hv
    exact ⟨g, hv.1, hg⟩

theorem nxt_len : ∀ (bs l : List Nat), l.length = bs.length → (nxt bs l).1.length = bs.length
  | [], [], _ => rfl
  | b :: bs, d :: l, h => by
    have ih := nxt_len bs l (by simpa using h)
    simp only [nxt]
    cases hn : nxt bs l with
    | mk r ok =>
      rw [hn] at ih
      cases ok with
      | true => simpa using ih
      | false => by_cases hd : d + 1 < b <;> simpa [hd] using ih

theorem nxt_drop {bs l : List Nat} {m : Nat} (h1 : m < bs.length) (h2 : m < l.length) (hf : (nxt (bs.drop (m + 1)) (l.drop (m + 1))).2 = false) :
    nxt (bs.drop m) (l.drop m) = if l[m] + 1 < bs[m] then ((l[m] + 1) :: (nxt (bs.drop (m + 1)) (l.drop (m + 1))).1, true) else (0 :: (nxt (bs.drop (m + 1)) (l.drop (m + 1))).1, false) := by
  rw [List.drop_eq_getElem_cons h1, List.drop_eq_getElem_cons h2]
  simp only [nxt]
  cases hn : nxt (bs.drop (m + 1)) (l.drop (m + 1)) with
  | mk r ok =>
    rw [hn] at hf
    simp only at hf
    subst hf
    rfl

theorem nxt_up : ∀ (bs l : List Nat) (m : Nat), l.length = bs.length → m ≤ bs.length → (nxt (bs.drop m) (l.drop m)).2 = true → nxt bs l = (l.take m ++ (nxt (bs.drop m) (l.drop m)).1, true)
  | bs, l, 0, _, _, h => by
    simp only [List.drop_zero, List.take_zero, List.nil_append] at h ⊢
    rw [← h]
  | [], _, m + 1, _, hm, _ => by simp at hm
  | _ :: _, [], m + 1, hl, _, _ => by simp at hl
  | b :: bs, d :: l, m + 1, hl, hm, h => by
    have ih := nxt_up bs l m (by simpa using hl) (by simpa using hm) h
    simp only [nxt, ih, List.drop_succ_cons, List.take_succ_cons, List.cons_append]

theorem take_set {l F : List Nat} {m x : Nat} (h : m < l.length) : (l.take (m + 1) ++ F).set m x = l.take m ++ x :: F := by
  rw [List.take_succ_eq_append_getElem h, List.append_assoc, List.set_append_right _ _ (by simp; omega)]
  simp [Nat.min_eq_left (Nat.le_of_lt h)]

set_option maxRecDepth 100000 in
set_option maxHeartbeats 3200000 in
theorem refNext_ok {w : World} {v u : Value} {bs l : List Nat} (h : SlA w v (ds bs)) (g : SlA w u (ds l)) (hl : l.length = bs.length) (hlt : ∀ j (h1 : j < l.length) (h2 : j < bs.length), l[j] < bs[j]) (hb : ∀ b ∈ bs, b ≤ 1073741824) (hmax : bs.length < 1099511627776) :
    Calls Try.prog 28 #[v, u] w fun e w' => ∃ r, e = .returned (.tuple #[r, .bool (nxt bs l).2]) ∧ SlA w' r (ds (nxt bs l).1) ∧ Below w.heap.size w w' := by
  obtain ⟨a1, c1, rfl, _, hy1⟩ := SlA.outN h
  obtain ⟨a2, c2, rfl, hc2, _⟩ := SlA.outN g
  have H := Lib.hid g
  have HY1 := Lib.hid hy1
  have HLT := Lib.hid hlt
  have HB := Lib.hid hb
  clear h g hy1 hlt hb
  rw [hl] at H hc2 ⊢
  have HL := Lib.hid hl
  go_enter Try.func28, Try.ntmps28
  go_wp2_with (at_builtin; refine wpList_append_sl rfl _ _ 22 rfl w.heap.size eInt _ 8 elemInt (.slice (some ⟨w.heap.size, 0, none⟩) 0 0) 0 [] rfl (own_empty _ _) _ (ds l) rfl (H.out.mono (below_new _)) (by intro u hu; obtain ⟨d, _, rfl⟩ := List.mem_map.1 hu; rfl) (by simp [maxLen]; omega) (by simp; omega) (by simp) ?_; intro v' w' hown' hgrow; rw [length_ds, Nat.zero_add, List.nil_append, hl] at hown'; obtain ⟨a6, c6, rfl, _⟩ := SlA.outN (Sl.of_own hown').any; rw [hl] at hown' ⊢)
  have EB := (below_new (w := w) (.cells #[] eInt)).grown hgrow (by simp) (fun k hk => Nat.le_of_eq (Option.some.inj hk))
  go_loopw [7] (fun i wr => ∃ t : Nat, t ≤ bs.length ∧ i = .int .i64 ((t : Int) - 1) ∧ (nxt (bs.drop t) (l.drop t)).2 = false ∧ wr.ownsRow w.heap.size eInt 1 (.slice a6 bs.length c6) bs.length (ds (l.take t ++ (nxt (bs.drop t) (l.drop t)).1)) ∧ Below w.heap.size w wr)
    (fun i _ => (intOf i + 1).toNat)
  case atStart =>
    have hd1 : bs.drop bs.length = [] := List.drop_length
    exact ⟨bs.length, Nat.le_refl _, by first | rfl | exact congrArg (Value.int .i64) (by omega), by rw [hd1]; rfl, by rw [hd1, List.take_of_length_le (by omega)]; simpa [nxt] using hown', EB⟩
  case round =>
    clear hown' hgrow EB
    obtain ⟨t, ht, rfl, hf, ho, hE⟩ := hrel
    by_cases ht0 : 0 < t
    · obtain ⟨m, rfl⟩ : ∃ m, t = m + 1 := ⟨t - 1, by omega⟩
      have hsi : ((m + 1 : Nat) : Int) - 1 = m := by omega
      rw [hsi]
      clear hsi
      have hml : m < l.length := by omega
      have hmb : m < bs.length := by omega
      obtain ⟨g, rfl, hg⟩ := own_addr ho (by omega)
      obtain ⟨b1, o1, rfl, hb1, k1⟩ := HY1.out m hmb
      have k1 := (hE.cell (p := ⟨b1, o1 + m, none⟩) hb1).trans k1
      have ND := Lib.hid (nxt_drop hmb hml hf)
      have NU := Lib.hid (nxt_up bs l m hl (by omega))
      have TS := Lib.hid (fun (F : List Nat) (x : Nat) => take_set (F := F) (x := x) hml)
      have hlt := HLT.out m hml hmb
      have hbb := HB.out _ (List.getElem_mem hmb)
      obtain ⟨hc, hfr⟩ := own_at ho (j := m) (by simp; omega)
      rw [ds_getElem _ _ (by simp; omega), List.getElem_append_left (by simp; omega), List.getElem_take] at hc
      generalize l[m] = d at *
      generalize bs[m] = b at *
      generalize (nxt (bs.drop (m + 1)) (l.drop (m + 1))).1 = F at *
      have HS := Lib.hid (fun (u : Value) => (ho.stored m u).1)
      have hS1 := HS.out (.int .i64 ((d : Int) + 1))
      obtain ⟨hcS, hfS⟩ := own_at hS1 (j := m) (by simp; omega)
      rw [List.getElem_set_self] at hcS
      have hES := below_put (u := .int .i64 ((d : Int) + 1)) (off := m) hE hg
      have k1S := (hES.cell (p := ⟨b1, o1 + m, none⟩) hb1).trans (by first | exact k1 | exact (hE.cell (p := ⟨b1, o1 + m, none⟩) hb1).symm.trans k1)
      have hset : (ds (l.take (m + 1) ++ F)).set m (.int .i64 ((d : Int) + 1)) = ds (l.take m ++ (d + 1) :: F) := by
        rw [← TS.out, ← ds_set]; rfl
      rw [hset] at hS1
      have HS1 := Lib.hid hS1
      clear hS1 hset
      by_cases hd : d + 1 < b
      · have hdd : decide ((d : Int) + 1 < (b : Int)) = true := decide_eq_true (by omega)
        go_wp2_with fail
        go_quiet (fail)
        go_wp2
        go_ret2
        have hnd := ND.out
        rw [if_pos hd] at hnd
        have hnu := NU.out (by rw [hnd])
        rw [hnu, hnd]
        exact ⟨_, rfl, (Sl.of_own (own_ext HS1.out ⟨rfl, rfl, rfl, Nat.le_refl _, fun _ _ => rfl⟩)).any, ⟨hES.os, hES.tape, hES.output, hES.size, hES.block⟩⟩
      · have hdd : decide ((d : Int) + 1 < (b : Int)) = false := decide_eq_false (by omega)
        go_wp2_with fail
        go_quiet (fail)
        go_wp2_with fail
        go_roundw
        case rel =>
          have hnd := ND.out
          rw [if_neg hd] at hnd
          have ho3 := ((own_ext (w' := (wr.setCell ⟨g, m, none⟩ (.int .i64 ((d : Int) + 1))).drewN nq) HS1.out ⟨rfl, rfl, rfl, Nat.le_refl _, fun _ _ => rfl⟩).stored m (.int .i64 0)).1
          have hset : (ds (l.take m ++ (d + 1) :: F)).set m (.int .i64 0) = ds (l.take m ++ 0 :: F) := by
            have h0 : (l.take m ++ (d + 1) :: F).set m 0 = l.take m ++ 0 :: F := by
              rw [List.set_append_right _ _ (by simp; omega)]
              simp [Nat.min_eq_left (Nat.le_of_lt hml)]
            rw [← h0, ← ds_set]; rfl
          rw [hset] at ho3
          refine ⟨m, by omega, rfl, by rw [hnd], by rw [hnd]; exact ho3, ?_⟩
          exact below_put (off := m) (u := .int .i64 0) (⟨hES.os, hES.tape, hES.output, hES.size, hES.block⟩ : Below w.heap.size w ((wr.setCell ⟨g, m, none⟩ (.int .i64 ((d : Int) + 1))).drewN nq)) hg
        case measure => simp [intOf]
    · obtain rfl : t = 0 := by omega
      simp only [List.drop_zero, List.take_zero, List.nil_append] at hf ho
      go_wp2
      go_ret2
      exact ⟨_, by rw [hf]; rfl, (Sl.of_own ho).any, hE⟩
end Go.Proofs.Ytcabmibcgedhhaa

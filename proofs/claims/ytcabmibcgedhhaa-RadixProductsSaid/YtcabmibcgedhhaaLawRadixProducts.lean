/-
  The walk of the law RadixProducts.
-/
import Derived.Test.YtcabmibcgedhhaaRad9
import Derived.Test.YtcabmibcgedhhaaRad10
import Derived.Test.YtcabmibcgedhhaaRad7
namespace Go.Proofs.Ytcabmibcgedhhaa
open Go.RowKit Go.Cd

theorem prodL_le {xs : List Nat} {c : Nat} (h : ∀ x ∈ xs, x ≤ c) : ∀ k, k ≤ xs.length → prodL (xs.take k) ≤ c ^ k := by
  intro k
  induction k with
  | zero => intro _; simp [prodL]
  | succ k ih =>
    intro hk
    rw [prodL_take xs k (by omega), Nat.pow_succ]
    exact Nat.mul_le_mul (ih (by omega)) (h _ (List.getElem_mem _))

theorem pow_few (k : Nat) : (2 ^ 63) ^ k < 10 ^ (19 * k + 1) := by
  have h1 : (2 ^ 63) ^ k ≤ (10 ^ 19) ^ k := Nat.pow_le_pow_left (by decide) k
  rw [← Nat.pow_mul (10) 19 k] at h1
  have h2 : 10 ^ (19 * k) < 10 ^ (19 * k + 1) := Nat.pow_lt_pow_right (by decide) (by omega)
  exact Nat.lt_of_le_of_lt h1 h2

theorem prodL_lens {xs : List Nat} (h : ∀ x ∈ xs, x ≤ 2 ^ 63) {k : Nat} (hk : k ≤ xs.length) (h20 : k ≤ 20) :
    (digs B (prodL (xs.take k))).length ≤ 41 ∧ (digs 10 (prodL (xs.take k))).length ≤ 19 * k + 1 := by
  have h1 := prodL_le h k hk
  have h2 : (2 ^ 63) ^ k ≤ (2 ^ 63) ^ 20 := Nat.pow_le_pow_right (by decide) h20
  have h3 : (2 ^ 63) ^ 20 < B ^ 41 := by decide
  have h4 : (2 ^ 63) ^ k < 10 ^ (19 * k + 1) := pow_few k
  exact ⟨(len_digs_le two_le_B).2 (Nat.lt_of_le_of_lt (Nat.le_trans h1 h2) h3), (len_digs_le (by omega)).2 (Nat.lt_of_le_of_lt h1 h4)⟩

theorem natL_take (l : List Int) (k : Nat) : natL (l.take k) = (natL l).take k := by simp [natL, List.map_take]

/-- wt's block is not o's own. -/
def Apart (o wt : Value) : Prop := ∀ b off m cap, wt = .slice (some ⟨b, off, none⟩) m cap → some b ≠ o.ownBlock

theorem dec_grown {w w' : World} {o v : Value} {x : Nat} (h : DecV w v x) (hg : w.grownBy w' o.ownBlock) (ha : Apart o v) : DecV w' v x := by
  obtain ⟨a, cap, rfl, hc, hr⟩ := h
  refine ⟨a, cap, rfl, hc, ?_⟩
  rcases hr with hr | ⟨b, off, cs, fr, rfl, hh, hx⟩
  · exact .inl hr
  · exact .inr ⟨b, off, cs, fr, rfl, by rw [hg.block b (block_lt hh) (ha _ _ _ _ rfl)]; exact hh, hx⟩

theorem apart_of {w : World} {base n : Nat} {e : TypeId} {o wt : Value} {xs : List Value} {w' : World} (h : w.ownsRow base e 1 o n xs) (hf : From w'.heap.size wt) (hs : w.heap.size ≤ w'.heap.size) : Apart o wt := by
  intro b off m cap hv hb
  have h1 := hf _ _ _ _ hv
  have h2 := (h.lt b hb.symm).2
  omega

/-- 'append(out, x)', out the call's own; and what it leaves be. -/
theorem wpList_push2 {P : Program} {W : World} {ops : Array Oper} {rest : List Oper} {o : Oper} {a : Act} {Q : Exit → Act → World → Prop} (hgd : o.guard = none) (s x : Operand) (t : TypeId)
    (ho : o.op = .call { callee := .builtin .append, args := #[s, x], argTypes := #[t, t] })
    (base : Nat) (e : TypeId) (z : Value) (bytes : Nat) (hE : Elem P t e z bytes)
    (v : Value) (n : Nat) (xs : List Value) (hs : a.eval s = v) (hown : W.ownsRow base e 1 v n xs)
    (u : Value) (hx : a.eval x = .slice (some ⟨W.heap.size, 0, none⟩) 1 1) (h1 : u.oneCell' = true)
    (hbytes : (n + 1) * bytes ≤ 140737488355328) (h63 : n + 1 ≤ maxLen) (w0 : World) (hb : Below base w0 W) (hbase : base ≤ w0.heap.size)
    (h : ∀ v' w', w'.ownsRow base e 1 v' (n + 1) (xs ++ [u]) → Below base w0 w' → (W.alloc (.cells #[u] e)).grownBy w' v.ownBlock → wpList P ops Q rest (a.put o.dst v') w') : wpList P ops Q (o :: rest) a (W.alloc (.cells #[u] e)) := by
  have hsz := hb.size
  refine wpList_append_sl hgd s x t ho base e z bytes hE v n xs hs (hown.alloc _) _ [u] hx (sla_new W #[u] e) (by simpa using h1) (by simpa using h63) (by simpa using hbytes) (by simp; omega) ?_
  intro v' w' h2 h3
  refine h v' w' (by simpa using h2) ((hb.alloc (by omega) _).grown h3 (by simp; omega) ?_) h3
  intro k hk
  exact (hown.lt k hk).1

set_option maxRecDepth 100000 in
set_option maxHeartbeats 3200000 in
theorem radixProducts_ok {w : World} {v : Value} {l : List Int} (h : SlA w v (i64s l)) (hl : ∀ d ∈ l, -9223372036854775808 ≤ d ∧ d ≤ 9223372036854775807) :
    Calls Try.prog 7 #[v] w fun e w' => e = .returned (.bool true) ∧ Below w.heap.size w w' := by
  obtain ⟨x1, cp1, rfl, _, hx1⟩ := SlA.outI h
  have hN : ∀ x ∈ natL l, x ≤ 2 ^ 63 := by
    intro x hx
    obtain ⟨d, hd, rfl⟩ := List.mem_map.1 (show x ∈ l.map Int.toNat from hx)
    have := hl d hd
    omega
  have hLen := Lib.hid (fun (k : Nat) (h1 : k ≤ l.length) (h2 : k ≤ 20) => prodL_lens hN (k := k) (by simpa [natL] using h1) h2)
  have HX1 := Lib.hid hx1
  have HLL := Lib.hid hl
  clear h hx1 hl hN
  go_enter Try.func7, Try.ntmps7
  go_wp2_with fail
  refine (awake23_ok _).mono ?_
  rintro e w1 ⟨rfl, h1⟩
  go_wp2_with fail
  have hE1 := ext_trans h1 (below_new (.cells #[.int .i64 1] eInt))
  have e1 : digs 10 1 = [1] := by rw [digs_pos (by omega) (by omega)]; simp [digs_zero]
  have d1 : DecV (w1.alloc (.cells #[.int .i64 1] eInt)) (.slice (some ⟨w1.heap.size, 0, none⟩) 1 1) 1 := by
    unfold DecV
    rw [e1]
    exact ⟨_, 1, rfl, Nat.le_refl _, .inr ⟨w1.heap.size, 0, _, _, rfl, heap_alloc_new _ _, fun i hi => by cases i with
      | zero => rfl
      | succ i => exact absurd hi (by simp [ds])⟩⟩
  clear e1
  have hWW := hE1.size
  clear h1
  go_loopw [3, 4, 5] (fun o wt i wr => ∃ k : Nat, k ≤ l.length ∧ k ≤ 20 ∧ i = .int .i64 k ∧ wr.ownsRow w.heap.size eInt 1 o k (i64s (l.take k)) ∧ DecV wr wt (prodL ((natL l).take k)) ∧ Apart o wt ∧ Below w.heap.size w wr)
    (fun _ _ i _ => 21 - (intOf i).toNat)
  case atStart => exact ⟨0, Nat.zero_le _, by omega, rfl, ⟨by simp [i64s], .inl (by simp)⟩, d1, (fun _ _ _ _ _ h => by cases h), hE1⟩
  case round =>
    clear d1 hE1
    obtain ⟨k, hk, hk20, rfl, ho, hd, hap, hE⟩ := hrel
    have hlen := hLen.out k hk hk20
    have HLE := Lib.hid hlen
    have PR := Lib.hid (product_ok (Sl.of_own ho).any (by simp; omega) (fun d hd => by have := HLL.out d (List.mem_of_mem_take hd); omega) (fun j hj => by
      rw [natL_take, List.take_take]
      have := (hLen.out (min j k) (by omega) (by omega)).1
      omega))
    by_cases hkl : k < l.length
    · by_cases h20 : k < 20
      · obtain ⟨b, off, rfl, hb, hc⟩ := HX1.out k hkl
        have hc0 := hc
        have hc := cellE hE hc
        have hdl := HLL.out _ (List.getElem_mem hkl)
        have HP := Lib.hid (prodL_take (natL l) k (by simpa [natL] using hkl))
        have HT := Lib.hid (List.take_succ_eq_append_getElem hkl)
        have hge : (natL l)[k]'(by simpa [natL] using hkl) = l[k].toNat := by simp [natL]
        rw [hge] at HP
        clear hge
        generalize l[k] = d at *
        obtain ⟨n, hn⟩ : ∃ n, n = d.toNat := ⟨_, rfl⟩
        rw [← hn] at HP
        have hmx : max d 0 = (n : Int) := by omega
        have hwr : IntKind.u64.wrap (n : Int) = (n : Int) := by rw [IntKind.wrap_u64]; omega
        have hn64 : n < 18446744073709551616 := by omega
        have HNN := Lib.hid hn
        have HD10 := Lib.hid (show (digs 10 n).length ≤ 20 from (len_digs_le (by omega)).2 (by omega))
        clear hn hdl hlen
        go_wp2_with (at_builtin; refine wpList_push2 rfl _ _ 22 rfl w.heap.size eInt _ 8 elemInt _ k _ rfl ho _ rfl rfl (by omega) (by unfold maxLen; omega) w hE (Nat.le_refl _) ?_; intro v' w' hown' hb' hgr; have hc' := cellE hb' hc0; have hd' := dec_grown (hd.mono (below_new (.cells #[.int .i64 d] eInt))) hgr hap; clear hd)
        refine (num_ok n hn64 _).mono ?_
        rintro e w4 ⟨r4, rfl, d4, h4⟩
        go_wp2_with fail
        refine (refMul_fresh (hd'.mono h4) d4 (by have := HLE.out; omega) (by have := HD10.out; omega)).mono ?_
        rintro e w5 ⟨r5, rfl, d5, f5, h5⟩
        have h45 := ext_trans h4 h5
        go_wp2
        go_roundw
        case rel => exact ⟨k + 1, by omega, by omega, rfl, by rw [HT.out]; simpa [i64s] using own_ext hown' h45, by rw [HP.out]; exact d5, apart_of hown' f5 h4.size, hb'.trans (h45.mono hb'.size)⟩
        case measure => simp [intOf]; omega
      · obtain rfl : k = 20 := by omega
        clear HX1
        go_wp2_with fail
        refine PR.out.mono ?_
        rintro e w6 ⟨r6, rfl, n6, h6⟩
        rw [natL_take] at n6
        go_wp2_with fail
        refine (is_ok n6 (hd.mono h6) (by have := HLE.out; omega) (by have := HLE.out; omega)).mono ?_
        rintro e w7 ⟨rfl, h7⟩
        have h67 := ext_trans h6 h7
        go_wp2
        go_ret
        exact ⟨by simp, hE.trans (h67.mono hE.size)⟩
    · obtain rfl : k = l.length := by omega
      clear HX1
      go_wp2_with fail
      refine PR.out.mono ?_
      rintro e w6 ⟨r6, rfl, n6, h6⟩
      rw [natL_take] at n6
      go_wp2_with fail
      refine (is_ok n6 (hd.mono h6) (by have := HLE.out; omega) (by have := HLE.out; omega)).mono ?_
      rintro e w7 ⟨rfl, h7⟩
      have h67 := ext_trans h6 h7
      go_wp2
      go_ret
      exact ⟨by simp, hE.trans (h67.mono hE.size)⟩
end Go.Proofs.Ytcabmibcgedhhaa

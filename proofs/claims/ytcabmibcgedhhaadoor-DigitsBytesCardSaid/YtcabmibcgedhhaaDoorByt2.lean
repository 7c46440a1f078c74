/-
  slices.Clone and slices.Reverse at bytes.
-/
import Derived.Test.YtcabmibcgedhhaaDoorByt1
namespace Go.Proofs.YtcabmibcgedhhaaDoor
open Go.RowKit Go.Cd

theorem eqlNilB (w : World) (a : Option Addr) (n c : Nat) : (Go.binOp .eql 39 (.slice a n c) (.slice none 0 0)).run Tryd.prog w = .ok (.bool a.isNone) w :=
  Lib.run_eql_slice_nil w 39 5 a n c 0 0 Tryd.underlying39

/-- slices.Clone at bytes. -/
theorem cloneB_ok {w : World} {v : Value} {l : List Nat} (h : SlA w v (bys l)) (hmax : l.length < 1099511627776) :
    Calls Tryd.prog 38 #[v] w fun e w' => ∃ r, e = .returned r ∧ w'.ownsRow w.heap.size eU8 1 r l.length (bys l) ∧ Below w.heap.size w w' := by
  obtain ⟨a, cap, rfl, hc, hr⟩ := id h
  have hl := length_bys l
  rw [hl] at h hc
  rw [hl]
  have hnil := eqlNilB
  cases a with
  | none =>
    have h0 : l = [] ∧ cap = 0 := by
      rcases hr with hr | ⟨b, off, cs, e, fr, ha, _⟩
      · exact ⟨by simpa [bys] using hr.1, hr.2 rfl⟩
      · cases ha
    obtain ⟨rfl, rfl⟩ := h0
    clear hr h hl
    go_enter Tryd.func38, Tryd.ntmps38
    go_wp2
    go_ret
    exact ⟨_, rfl, World.ownsRow_nil _ _ _ _, Below.refl _ _⟩
  | some ad =>
    have H := Lib.hid h
    clear hr h hl
    go_enter Tryd.func38, Tryd.ntmps38
    go_wp2_with (at_builtin; refine wpList_append_sl rfl _ _ 39 rfl w.heap.size eU8 _ 1 elemU8 (.slice (some ⟨w.heap.size, 0, none⟩) 0 0) 0 [] rfl (own_empty _ _) _ (bys l) rfl (H.out.mono (below_new _)) (oneCell_bys l) (by rw [length_bys]; unfold maxLen; omega) (by rw [length_bys]; omega) (by simp) ?_; intro v' w' hown' hgrow)
    rw [length_bys, Nat.zero_add, List.nil_append] at hown'
    go_wp2
    go_ret
    exact ⟨_, rfl, hown', (below_new _).grown hgrow (by simp) (fun k hk => Nat.le_of_eq (Option.some.inj hk))⟩

/-- As far as i from both ends it is turned round. -/
def Turned (l x : List Nat) (i : Nat) : Prop := x.length = l.length ∧ ∀ t (h : t < x.length) (h' : t < l.length), x[t] = if t < i ∨ l.length ≤ t + i then l[l.length - 1 - t] else l[t]

theorem turned_zero (l : List Nat) : Turned l l 0 := ⟨rfl, fun t h h' => by rw [if_neg (by omega)]⟩
theorem turned_all {l x : List Nat} {i : Nat} (h : Turned l x i) (hi : l.length ≤ 2 * i + 1) : x = l.reverse := by
  refine List.ext_getElem (by simp [h.1]) fun t h1 h2 => ?_
  have ht : t < l.length := by simpa using h2
  rw [h.2 t h1 ht, List.getElem_reverse]
  by_cases hc : t < i ∨ l.length ≤ t + i
  · rw [if_pos hc]
  · rw [if_neg hc]
    congr 1
    omega
theorem turned_step {l x : List Nat} {i j : Nat} (h : Turned l x i) (hij : i < j) (hj : i + j + 1 = l.length) (hi : i < x.length) (hj' : j < x.length) : Turned l ((x.set i x[j]).set j x[i]) (i + 1) := by
  refine ⟨by simp [h.1], fun t h1 h2 => ?_⟩
  have h3 : t < x.length := by simpa using h1
  by_cases e1 : t = j
  · subst e1
    rw [List.getElem_set_self, h.2 i hi (by omega), if_neg (by omega), if_pos (by omega)]
    congr 1
    omega
  · rw [List.getElem_set_ne (by omega)]
    by_cases e2 : t = i
    · subst e2
      rw [List.getElem_set_self, h.2 j hj' (by omega), if_neg (by omega), if_pos (by omega)]
      congr 1
      omega
    · rw [List.getElem_set_ne (by omega), h.2 t h3 h2]
      by_cases hc : t < i ∨ l.length ≤ t + i
      · rw [if_pos hc, if_pos (by omega)]
      · rw [if_neg hc, if_neg (by omega)]

theorem own_addrB {w : World} {base n cap : Nat} {e : TypeId} {a : Option Addr} {xs : List Value} (h : w.ownsRow base e 1 (.slice a n cap) n xs) (hn : 0 < n) : ∃ g, a = some ⟨g, 0, none⟩ ∧ base ≤ g := by
  obtain ⟨h1, h2⟩ := h
  rcases h2 with ⟨hv, _⟩ | ⟨g, cap', cur, hv, hg, _⟩
  · simp at hv; omega
  · simp only [Value.slice.injEq] at hv
    exact ⟨g, hv.1, hg⟩

set_option maxRecDepth 100000 in
set_option maxHeartbeats 1600000 in
/-- slices.Reverse at a row of bytes of the call's own. -/
theorem reverseB_ok {w : World} {base : Nat} {v : Value} {l : List Nat} (h : w.ownsRow base eU8 1 v l.length (bys l)) (hmax : l.length < 1099511627776) :
    Calls Tryd.prog 31 #[v] w fun e w' => e = .returned (.tuple #[]) ∧ w'.ownsRow base eU8 1 v l.length (bys l.reverse) ∧ Below base w w' := by
  obtain ⟨a, cap, rfl, _⟩ := SlA.outB (Sl.of_own h).any
  go_enter Tryd.func31, Tryd.ntmps31
  go_wp2_with fail
  go_loopw [2, 3] (fun i j wr => ∃ (k : Nat) (x : List Nat), k ≤ l.length ∧ 2 * k ≤ l.length + 1 ∧ i = .int .i64 k ∧ j = .int .i64 ((l.length : Int) - 1 - k) ∧ Turned l x k ∧ wr.ownsRow base eU8 1 (.slice a l.length cap) l.length (bys x) ∧ Below base w wr)
    (fun i _ _ => l.length - (intOf i).toNat)
  case atStart => exact ⟨0, l, Nat.zero_le _, by omega, rfl, by first | rfl | exact congrArg (Value.int .i64) (by omega), turned_zero l, h, Below.refl _ _⟩
  case round =>
    clear h
    obtain ⟨k, x, hk, hk2, rfl, rfl, hT, ho, hE⟩ := hrel
    by_cases hgo : 2 * k + 1 < l.length
    · obtain ⟨j, hj⟩ : ∃ j, k + j + 1 = l.length := ⟨l.length - 1 - k, by omega⟩
      have hje : (l.length : Int) - 1 - k = j := by omega
      rw [hje]
      obtain ⟨g, rfl, hg⟩ := own_addrB ho (by omega)
      have hxl := hT.1
      obtain ⟨hc1, hf1⟩ := own_at ho (j := k) (by simp; omega)
      obtain ⟨hc2, hf2⟩ := own_at ho (j := j) (by simp; omega)
      rw [bys_getElem _ _ (by omega)] at hc1 hc2
      have TS := Lib.hid (turned_step hT (i := k) (j := j) (by omega) hj (by omega) (by omega))
      generalize x[k]'(by omega) = p at *
      generalize x[j]'(by omega) = q at *
      have HS := Lib.hid (fun (u u' : Value) => ((ho.stored k u).1.stored j u').1)
      have hlt : (k : Int) < (j : Int) := by omega
      have hne : k ≠ j := by omega
      clear hje
      go_wp2_with fail
      go_region
      go_wp2
      go_roundw
      case rel =>
        have ho2 := own_ext (HS.out (.int .u8 q) (.int .u8 p)) (ext_drew _)
        rw [bys_set, bys_set] at ho2
        exact ⟨k + 1, _, by omega, by omega, rfl, by first | rfl | exact congrArg (Value.int .i64) (by omega), TS.out, ho2, (below_put (below_put hE hg) hg).trans (below_drew _)⟩
      case measure => simp [intOf]; omega
    · have hge : ¬ (k : Int) < (l.length : Int) - 1 - k := by omega
      have HT := Lib.hid (turned_all hT (by omega))
      go_wp2
      go_end0
      rw [HT.out] at ho
      exact ⟨rfl, ho, hE⟩
end Go.Proofs.YtcabmibcgedhhaaDoor

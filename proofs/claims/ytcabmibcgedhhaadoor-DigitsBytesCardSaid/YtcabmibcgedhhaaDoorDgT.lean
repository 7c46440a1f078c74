/-
  The walk of cedillaref03.Num.
-/
import Derived.Test.YtcabmibcgedhhaaDoorDgA
import Derived.Test.YtcabmibcgedhhaaDoorRef2
namespace Go.Proofs.YtcabmibcgedhhaaDoor
open Go.RowKit Go.Cd

/-- A text's bytes. -/
def bts (s : ByteArray) : List Nat := s.data.toList.map UInt8.toNat
@[simp] theorem length_bts (s : ByteArray) : (bts s).length = s.size := by
  unfold bts
  rw [List.length_map, Array.length_toList]; rfl
theorem bts_get (s : ByteArray) (j : Nat) (h : j < s.size) : (bts s)[j]'(by simpa using h) = s[j].toNat := by
  simp [bts]; rfl
theorem bts_lt (s : ByteArray) : ∀ d ∈ bts s, d < 256 := by
  intro d hd
  obtain ⟨c, _, rfl⟩ := List.mem_map.1 hd
  exact c.toNat_lt
theorem bts_str {l : List Nat} (h : ∀ d ∈ l, d < 256) : bts (str l) = l := by
  simp only [bts, str, List.map_map]
  conv => rhs; rw [← List.map_id l]
  exact List.map_congr_left fun d hd => toNat_ofNat (h d hd)
theorem str_bts (s : ByteArray) : str (bts s) = s := by
  apply ByteArray.ext
  apply Array.toList_inj.1
  simp only [bts, str, List.map_map]
  conv => rhs; rw [← List.map_id s.data.toList]
  exact List.map_congr_left fun d _ => by simp

theorem size_str (l : List Nat) : (str l).size = l.length := by simp [str, ByteArray.size]
theorem str_get {l : List Nat} (hl : ∀ d ∈ l, d < 256) {j : Nat} (h : j < (str l).size) (h' : j < l.length) : ((str l)[j]'h).toNat = l[j] := by
  rw [← bts_get _ j h]
  simp only [bts_str hl]

/-- The number of bytes, the highest first. -/
def nb (l : List Nat) : Nat := l.foldl (fun V c => V * 256 + c) 0
theorem nb_snoc (l : List Nat) (c : Nat) : nb (l ++ [c]) = nb l * 256 + c := by simp [nb]
theorem nb_val : ∀ (n : Nat) (l : List Nat), l.length = n → nb l = val 256 l.reverse
  | 0, l, h => by obtain rfl := List.length_eq_zero_iff.1 h; rfl
  | n + 1, l, h => by
    rcases List.eq_nil_or_concat l with rfl | ⟨q, c, rfl⟩
    · simp at h
    · rw [List.concat_eq_append] at h ⊢
      rw [nb_snoc, nb_val n q (by simpa using h), List.reverse_append]
      simp [val]
      omega
theorem nb_bb (x : Nat) : nb (bb x) = x := by
  rw [nb_val _ _ rfl]
  unfold bb
  rw [List.reverse_reverse]
  exact val_digs (by omega) x
theorem nb_lt {l : List Nat} (h : ∀ d ∈ l, d < 256) : nb l < 256 ^ l.length := by
  rw [nb_val _ _ rfl]
  have := val_lt (b := 256) l.reverse (fun d hd => h d (List.mem_reverse.1 hd))
  rwa [List.length_reverse] at this
theorem nb_len10 {l : List Nat} (h : ∀ d ∈ l, d < 256) : (digs 10 (nb l)).length ≤ 3 * l.length := by
  refine (len_digs_le (by omega)).2 ?_
  rw [Nat.pow_mul]
  exact Nat.lt_of_lt_of_le (nb_lt h) (Nat.pow_le_pow_left (by decide) _)
theorem nb_lenB {l : List Nat} (h : ∀ d ∈ l, d < 256) : (digs B (nb l)).length ≤ l.length := by
  refine (len_digs_le two_le_B).2 ?_
  exact Nat.lt_of_lt_of_le (nb_lt h) (Nat.pow_le_pow_left (by decide) _)

set_option maxRecDepth 100000 in
set_option maxHeartbeats 1600000 in
theorem refNum_ok {w : World} (s : ByteArray) (hs : s.size < 1000000) :
    Calls Tryd.prog 17 #[.string s] w fun e w' => ∃ r, e = .returned r ∧ DecV w' r (nb (bts s)) ∧ Below w.heap.size w w' := by
  have HL := Lib.hid (fun j (hj : j ≤ s.size) => nb_len10 (l := (bts s).take j) (fun d hd => bts_lt s d (List.mem_of_mem_take hd)))
  go_enter Tryd.func17, Tryd.ntmps17
  go_wp2_with fail
  go_loopw [3, 4] (fun o i wr => ∃ j : Nat, j ≤ s.size ∧ i = .int .i64 j ∧ DecV wr o (nb ((bts s).take j)) ∧ Below w.heap.size w wr)
    (fun _ i _ => s.size - (intOf i).toNat)
  case atStart =>
    refine ⟨0, Nat.zero_le _, rfl, ?_, below_new _⟩
    unfold DecV
    rw [show nb ((bts s).take 0) = 0 from rfl, digs_zero]
    exact Sl.of_own (own_empty w eInt)
  case round =>
    obtain ⟨j, hj, rfl, hd, hE⟩ := hrel
    by_cases hjs : j < s.size
    · have hl := HL.out j hj
      rw [List.length_take, length_bts] at hl
      have hc := bts_lt s _ (List.getElem_mem (show j < (bts s).length by simpa using hjs))
      rw [bts_get s j hjs] at hc
      have HS := Lib.hid (List.take_succ_eq_append_getElem (show j < (bts s).length by simpa using hjs))
      rw [bts_get s j hjs] at HS
      have hwr : IntKind.u64.wrap ((s[j].toNat : Nat) : Int) = ((s[j].toNat : Nat) : Int) := by rw [IntKind.wrap_u64]; omega
      go_wp2_with fail
      refine (times_ok hd 256 s[j].toNat (by omega) (by omega) (by omega)).mono ?_
      rintro e w2 ⟨r2, rfl, d2, h2⟩
      go_wp2
      go_roundw
      case rel => exact ⟨j + 1, by omega, rfl, by rw [HS.out, nb_snoc]; exact d2, hE.trans (h2.mono hE.size)⟩
      case measure => simp [intOf]; omega
    · obtain rfl : j = s.size := by omega
      rw [List.take_of_length_le (by simp)] at hd
      go_wp2
      go_ret
      exact ⟨_, rfl, hd, hE⟩
end Go.Proofs.YtcabmibcgedhhaaDoor

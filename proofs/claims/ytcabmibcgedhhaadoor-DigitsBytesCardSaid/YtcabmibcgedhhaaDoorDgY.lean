/-
  The walk of cedillaref03.Bytes.
-/
import Derived.Test.YtcabmibcgedhhaaDoorDgR
import Derived.Lib.ConvBytes
import Derived.Laws.AppendOwn
namespace Go.Proofs.YtcabmibcgedhhaaDoor
open Go.RowKit Go.Cd

theorem str_app2 (a b : List Nat) : str a ++ str b = str (a ++ b) := by
  apply ByteArray.ext
  simp [str, ByteArray.data_append]
/-- '[]byte(s)'. -/
theorem str_conv (w : World) (s : ByteArray) : ∃ cap W, (convert 9 39 (.string s)).run Tryd.prog w = .ok (.slice (some ⟨w.heap.size, 0, none⟩) s.size cap) W ∧
    SlA W (.slice (some ⟨w.heap.size, 0, none⟩) s.size cap) (bys (bts s)) ∧ Below w.heap.size w W := by
  refine ⟨_, _, Lib.run_convert_string_bytes w 9 39 5 s Tryd.underlying9 Tryd.underlying39 Tryd.underlying5, ?_, ⟨rfl, rfl, rfl, by rw [Lib.bytesWorld_size]; omega, fun k hk => Lib.bytesWorld_at_old w _ s k (by omega)⟩⟩
  refine ⟨_, _, by rw [length_bys, length_bts], by rw [length_bys, length_bts]; exact grownCap_ge _ _ _ _, .inr ⟨w.heap.size, 0, _, _, _, rfl, Lib.bytesWorld_at_new w _ s, fun i hi => ?_⟩⟩
  rw [length_bys, length_bts] at hi
  rw [bys_getElem _ _ (by simpa using hi), bts_get s i hi]
  unfold Lib.bytesCells
  rw [Nat.zero_add, Array.getElem?_append_left (by simpa using hi), Array.getElem?_map]
  simp
  exact ⟨s.data[i]'hi, Array.getElem?_eq_getElem _, rfl⟩

theorem len4_lt (n k : Nat) : ∀ d ∈ len4 n k, d < 256 := fun d hd => by
  obtain ⟨j, _, rfl⟩ := List.mem_map.1 hd
  exact Nat.mod_lt _ (by omega)
theorem bys_len4 {n : Nat} (h : n < 1000000) : bys (len4 n 4) = [.int .u8 ((n : Int) / 16777216), .int .u8 ((n : Int) / 65536), .int .u8 ((n : Int) / 256 % 256), .int .u8 ((n : Int) % 256)] := by
  have e : len4 n 4 = [n / 16777216 % 256, n / 65536 % 256, n / 256 % 256, n % 256] := by simp [len4, List.range_succ]
  rw [e]
  simp only [bys, List.map_cons, List.map_nil]
  have e1 : n / 16777216 % 256 = n / 16777216 := Nat.mod_eq_of_lt (by omega)
  have e2 : n / 65536 % 256 = n / 65536 := Nat.mod_eq_of_lt (by omega)
  have i1 : ((n / 16777216 : Nat) : Int) = (n : Int) / 16777216 := by omega
  have i2 : ((n / 65536 : Nat) : Int) = (n : Int) / 65536 := by omega
  have i3 : ((n / 256 % 256 : Nat) : Int) = (n : Int) / 256 % 256 := by omega
  have i4 : ((n % 256 : Nat) : Int) = (n : Int) % 256 := by omega
  rw [e1, e2, i1, i2, i3, i4]

set_option maxRecDepth 100000 in
set_option maxHeartbeats 1600000 in
theorem refBytes_ok {w : World} {v : Value} {L : List Nat} (h : SlA w v (bys L)) (hL : ∀ d ∈ L, d < 256) (hl : L.length < 1000000) :
    Calls Tryd.prog 19 #[v] w fun e w' => e = .returned (.string (str (len4 L.length 4 ++ L))) ∧ Below w.heap.size w w' := by
  obtain ⟨a, cap, rfl, _⟩ := SlA.outB h
  have hb := below_new (w := w) (.cells #[.int .u8 ((L.length : Int) / 16777216), .int .u8 ((L.length : Int) / 65536), .int .u8 ((L.length : Int) / 256 % 256), .int .u8 ((L.length : Int) % 256)] eU8)
  have hs := sla_new w #[.int .u8 ((L.length : Int) / 16777216), .int .u8 ((L.length : Int) / 65536), .int .u8 ((L.length : Int) / 256 % 256), .int .u8 ((L.length : Int) % 256)] eU8
  have hc1 : (convert 39 9 (.slice (some ⟨w.heap.size, 0, none⟩) 4 4)).run Tryd.prog (w.alloc (.cells #[.int .u8 ((L.length : Int) / 16777216), .int .u8 ((L.length : Int) / 65536), .int .u8 ((L.length : Int) / 256 % 256), .int .u8 ((L.length : Int) % 256)] eU8)) = .ok (.string (str (len4 L.length 4))) (w.alloc (.cells #[.int .u8 ((L.length : Int) / 16777216), .int .u8 ((L.length : Int) / 65536), .int .u8 ((L.length : Int) / 256 % 256), .int .u8 ((L.length : Int) % 256)] eU8)) := conv_str (L := len4 L.length 4) (by rw [bys_len4 hl]; exact hs) (len4_lt _ _)
  have hc2 := conv_str (h.mono hb) hL
  have HA := Lib.hid (str_app2 (len4 L.length 4) L)
  have s1 : (str (len4 L.length 4)).size = 4 := by rw [size_str, length_len4]
  have s2 : (str L).size = L.length := size_str L
  have s3 : ¬ 9223372036854775807 < 4 + L.length := by omega
  clear hs h
  go_enter Tryd.func19, Tryd.ntmps19
  go_wp2_with fail
  go_ret
  exact ⟨by rw [HA.out]; rfl, hb⟩
end Go.Proofs.YtcabmibcgedhhaaDoor

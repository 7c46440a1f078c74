/-
  The walk of cedillalaw23.awake.
-/
import Derived.Test.YtcabmibcgedhhaaRad5
namespace Go.Proofs.Ytcabmibcgedhhaa
open Go.RowKit Go.Cd
set_option maxRecDepth 100000 in
set_option maxHeartbeats 1600000 in
theorem awake23_ok (w : World) : Calls Try.prog 19 #[] w fun e w' => e = .returned (.bool true) ∧ Below w.heap.size w w' := by
  have NW := Lib.hid (fun (W : World) => new_walk (w := W.alloc (.cells #[.int .i64 2, .int .i64 3] eInt)) (bs := [2, 3]) (sla_new W #[.int .i64 2, .int .i64 3] eInt) (by decide) (by decide) (by decide))
  have hp : prodN [2, 3] = 6 := rfl
  go_enter Try.func19, Try.ntmps19
  go_wp2_with fail
  refine (NW.out _).mono ?_
  rintro e w1 ⟨r, e0, rfl, hb1, hr⟩
  have hb1 := ext_trans (below_new _) hb1
  rcases hr with ⟨_, rfl, hR⟩ | ⟨h, _⟩
  · obtain ⟨a1, c1, a2, c2, rfl, _⟩ := hR.out
    have IXc := Lib.hid (fun (W : World) (E : Below w1.heap.size w1 W) => index_ok (w := W.alloc (.cells #[.int .i64 1, .int .i64 0] eInt)) (l := [1, 0]) (hR.mono (ext_trans E (below_new _))) (sla_new W #[.int .i64 1, .int .i64 0] eInt) (by decide) (by decide) (by decide) (by decide))
    have SZ := Lib.hid (fun (W : World) (E : Below w1.heap.size w1 W) => size_ok (hR.mono E) (by decide) (by decide))
    have hv : vldI [2, 3] [1, 0] = true := by decide
    have hh : horN [2, 3] [1, 0] [2, 3].length = 3 := by decide
    rw [hv, hh] at IXc
    rw [hp] at SZ IXc
    have BN := below_new (w := w1) (.cells #[.slice a1 2 c1, .slice a2 2 c2, .int .i64 6] tRadix)
    have I3 : Is3 (w1.alloc (.cells #[.slice a1 2 c1, .slice a2 2 c2, .int .i64 6] tRadix)) w1.heap.size (.slice a1 2 c1) (.slice a2 2 c2) (.int .i64 6) tRadix := ⟨heap_alloc_new' _ _ _ rfl⟩
    clear hR NW
    go_wp2_with fail
    have IX1 := IXc.out _ BN
    simp only [World.size_alloc, List.size_toArray, List.length_cons, List.length_nil, Nat.zero_add, Nat.reduceAdd] at IX1
    refine IX1.mono ?_
    rintro e w2 ⟨rfl, hb2⟩
    have hb2 := (below_new (w := w1.alloc (.cells #[.slice a1 2 c1, .slice a2 2 c2, .int .i64 6] tRadix)) (.cells #[.int .i64 1, .int .i64 0] eInt)).trans (hb2.mono (by simp))
    obtain ⟨e0, e1, e2⟩ := (I3.mono hb2).cell
    have EB := ext_trans BN hb2
    go_wp2_with fail
    refine (SZ.out _ EB).mono ?_
    rintro e w3 ⟨rfl, hb3⟩
    go_wp2
    go_ret
    exact ⟨rfl, ext_trans hb1 (ext_trans EB hb3)⟩
  · rw [hp] at h; omega
end Go.Proofs.Ytcabmibcgedhhaa

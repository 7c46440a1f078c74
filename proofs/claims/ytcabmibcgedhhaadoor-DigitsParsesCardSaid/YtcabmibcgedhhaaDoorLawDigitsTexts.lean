/-
  The walk of the law DigitsTexts.
-/
import Derived.Test.YtcabmibcgedhhaaDoorDgQ
import Derived.Test.YtcabmibcgedhhaaDoorLawNatCompares
namespace Go.Proofs.YtcabmibcgedhhaaDoor
open Go.RowKit Go.Cd

theorem hvd_dec (x : Nat) : hvd (decT x) = x := by
  unfold decT
  split
  · subst x; rfl
  · unfold hvd hv
    rw [List.map_map]
    have e : ((fun c => c - 48) ∘ fun d => 48 + d) = (id : Nat → Nat) := by funext d; simp
    rw [e, List.map_id, List.reverse_reverse]
    exact val_digs (by omega) x
theorem isDec_dec (x : Nat) : isDec (decT x) = true := by
  unfold isDec decT
  rw [List.all_eq_true]
  split
  · simp
  · intro c hc
    obtain ⟨d, hd, rfl⟩ := List.mem_map.1 hc
    have := digs_lt (b := 10) (by omega) x d (List.mem_reverse.1 hd)
    simp; omega
theorem right_dec (x : Nat) : rightB (decT x) = true := by
  unfold rightB
  rw [isDec_dec, Bool.true_and]
  by_cases h0 : x = 0
  · subst h0; rfl
  · have hne : digs 10 x ≠ [] := fun e => h0 (by have := val_digs (b := 10) (by omega) x; rw [e] at this; exact this.symm)
    have hl := digs_last (b := 10) (by omega) x
    have e : decT x = (digs 10 x).reverse.map (48 + ·) := by unfold decT; rw [if_neg h0]
    rw [e]
    have h1 : ((digs 10 x).reverse.map (48 + ·)) ≠ [] := by simpa using hne
    have h2 : ((digs 10 x).reverse.map (48 + ·))[0]?.getD 0 ≠ 48 := by
      rw [← List.head?_eq_getElem?, List.head?_map, List.head?_reverse]
      cases hg : (digs 10 x).getLast? with
      | none => exact absurd (List.getLast?_eq_none_iff.1 hg) hne
      | some d =>
        have := hl d hg
        simp; omega
    rw [decide_eq_true h1, decide_eq_true h2]
    simp
theorem len_dec {x n : Nat} (h : (digs 10 x).length ≤ n) (hn : 0 < n) : (decT x).length ≤ n := by
  unfold decT
  split
  · exact hn
  · simpa using h
theorem ps_dec {x : Nat} (h : (digs 10 x).length ≤ 10000) : psE (decT x) = 0 := by
  unfold psE
  rw [if_neg (by have := len_dec h (by omega); omega), if_pos (right_dec x)]

set_option maxRecDepth 100000 in
set_option maxHeartbeats 3200000 in
theorem digitsTexts_ok {w : World} {v : Value} {l : List Nat} (h : SlA w v (u32s l)) (hl : ∀ d ∈ l, d < B) :
    Calls Tryd.prog 7 #[v] w fun e w' => e = .returned (.bool true) ∧ Below w.heap.size w w' := by
  have lx := fewLen l hl
  have F1 := Lib.hid (fun (W : World) (E : Below w.heap.size w W) => few_ok (h.mono E))
  have HL := Lib.hid (take_lt hl)
  have lenl : (l.take 40).length ≤ 40 := by simp; omega
  clear h hl
  generalize l.take 40 = l' at *
  go_enter Tryd.func7, Tryd.ntmps7
  go_wp2_with fail
  refine (awake03_ok _).mono ?_
  rintro e w1 ⟨rfl, h1⟩
  go_wp2_with fail
  refine (F1.out _ h1).mono ?_
  rintro e w2 ⟨r2, rfl, o2, h2⟩
  have RO := Lib.hid (fun (W : World) (E : Below w2.heap.size w2 W) => refOf_ok ((Sl.of_own o2).mono E) HL.out (by omega))
  go_wp2_with fail
  refine (limbs_ok (Sl.of_own o2) HL.out (by omega)).mono ?_
  rintro e w3 ⟨r3, rfl, x3, h3⟩
  have E3 := ext_trans h1 (ext_trans h2 h3)
  have l10 := len10 lx
  clear o2 h1 h2 F1 HL lenl
  generalize val B l' = X at *
  obtain ⟨a1, n1, cap1, rfl, x3⟩ := x3.out
  have hb := below_new (w := w3) (.cells #[.slice a1 n1 cap1] tNat)
  have c1 : (w3.alloc (.cells #[.slice a1 n1 cap1] tNat)).cell? ⟨w3.heap.size, 0, none⟩ = some (.slice a1 n1 cap1) := by unfold World.cell?; rw [heap_alloc_new]; rfl
  have y1 := x3.mono hb
  have E4 := E3.trans (hb.mono E3.size)
  have E24 := ext_trans h3 hb
  have TX := Lib.hid (text_ok y1 (by omega))
  have PA := Lib.hid (fun (W : World) => parse_ok (w := W) (str (decT X)) (by rw [size_str]; have := len_dec l10 (by omega); omega))
  have e1 : bts (str (decT X)) = decT X := bts_str (fun d hd => by have := isDec_mem (isDec_dec X) d hd; omega)
  have e2 := ps_dec (x := X) (by omega)
  have e3 := hvd_dec X
  rw [e1, e2, if_pos rfl, e3] at PA
  clear x3 h3 E3 hb e1 e2 e3
  go_wp2_with fail
  refine TX.out.mono ?_
  rintro e w5 ⟨rfl, h5⟩
  have c5 := cellE h5 c1
  go_wp2_with fail
  refine (PA.out _).mono ?_
  rintro e w6 ⟨r6, rfl, x6, h6⟩
  obtain ⟨a6, n6, cap6, rfl, x6⟩ := x6.out
  go_wp2_with fail
  have hb6 := below_new (w := w6) (.cells #[.slice a6 n6 cap6] tNat)
  have c2 : (w6.alloc (.cells #[.slice a6 n6 cap6] tNat)).cell? ⟨w6.heap.size, 0, none⟩ = some (.slice a6 n6 cap6) := by unfold World.cell?; rw [heap_alloc_new]; rfl
  have E47 := ext_trans h5 (ext_trans h6 hb6)
  have c3 := cellE (ext_trans h6 hb6) c5
  have z6 := x6.mono hb6
  have z1 := y1.mono E47
  have E7 := E4.trans (E47.mono E4.size)
  refine (RO.out _ (ext_trans E24 E47)).mono ?_
  rintro e w7 ⟨r7, rfl, x7, h7⟩
  have RT := Lib.hid (refText_ok x7 (by omega))
  have c4 := cellE h7 c2
  have c5 := cellE h7 c3
  clear TX PA c1 c2 c3 h5 h6 hb6
  go_wp2_with fail
  refine RT.out.mono ?_
  rintro e w8 ⟨rfl, h8⟩
  have c6 := cellE h8 c4
  have c7 := cellE h8 c5
  have h78 := ext_trans h7 h8
  have SM := Lib.hid (same_ok (z1.mono h78) (z6.mono h78) (by omega))
  rw [decide_eq_true rfl] at SM
  clear c4 c5 RT RO h7 h8
  go_wp2_with fail
  refine SM.out.mono ?_
  rintro e w9 ⟨rfl, h9⟩
  go_wp2
  go_ret
  exact ⟨by simp, E7.trans ((ext_trans h78 h9).mono E7.size)⟩
end Go.Proofs.YtcabmibcgedhhaaDoor

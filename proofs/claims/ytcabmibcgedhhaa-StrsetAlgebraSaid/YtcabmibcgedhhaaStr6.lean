/-
  The walks of the set's methods Between, Begin.
-/
import Derived.Test.YtcabmibcgedhhaaStr5
import Derived.Test.YtcabmibcgedhhaaShelf
namespace Go.Proofs.Ytcabmibcgedhhaa
open Go.RowKit Go.Cd Go.Sort Go.Lib

theorem sla_len0 {w : World} {a : Option Addr} {n cap : Nat} (h0 : n = 0) (ha : a = none → cap = 0) : SlA w (.slice a n cap) (txs []) := by
  subst h0; exact ⟨_, _, rfl, Nat.zero_le _, .inl ⟨rfl, ha⟩⟩
/-- A cut of a row: from its place p on, up to its place q. -/
theorem sl0_cut {w : World} {a : Option Addr} {n cap p q : Nat} {l : List Txt} (h : Sl0 w (.slice a n cap) (txs l)) (hpq : p ≤ q) (hq : q ≤ l.length) :
    (l = [] ∧ p = 0 ∧ q = 0 ∧ n = 0 ∧ (a = none → cap = 0)) ∨ ∃ b off, a = some ⟨b, off, none⟩ ∧ SlA w (.slice (some ⟨b, off + p, none⟩) (q - p) (cap - p)) (txs ((l.take q).drop p)) := by
  have hs := SlA.upto h.any (k := q) (by rw [length_txs]; exact hq)
  obtain ⟨a', cap', hv, hc, hx⟩ := h
  simp only [Value.slice.injEq] at hv
  obtain ⟨rfl, hn, rfl⟩ := hv
  rcases hx with ⟨h1, h2⟩ | ⟨b, off, cs, rfl, hh, hx⟩
  · have : l = [] := by simpa [txs] using h1
    subst this
    simp at hq hn
    exact .inl ⟨rfl, by omega, hq, hn, h2⟩
  · refine .inr ⟨b, off, rfl, ?_⟩
    have := SlA.from hs (k := p) (by rw [List.length_take, length_txs]; omega)
    rw [txs_drop, txs_take]
    exact this

set_option maxRecDepth 100000 in
set_option maxHeartbeats 1600000 in
theorem between_ok {w : World} {v : Value} {l : List Txt} (h : SetV w v l) (hi : inc l) (hmax : l.length < 1099511627776) (f t : Txt) :
    Calls Try.prog 60 #[v, .string (sv f), .string (sv t)] w fun e w' => ∃ r, e = .returned r ∧ SetV w' r (l.filter fun z => !decide (z < f) && decide (z < t)) ∧ Below w.heap.size w w' := by
  obtain ⟨a, n, cap, rfl, h, hn⟩ := h.out
  have hb := below2 (w := w) (.cells #[.slice a n cap] tSet) (.cells #[.slice none 0 0] tSet)
  obtain ⟨W0, hW⟩ : ∃ W0, W0 = (w.alloc (.cells #[.slice a n cap] tSet)).alloc (.cells #[.slice none 0 0] tSet) := ⟨_, rfl⟩
  have c00 : (w.alloc (.cells #[.slice a n cap] tSet)).cell? ⟨w.heap.size, 0, none⟩ = some (.slice a n cap) := by unfold World.cell?; rw [heap_alloc_new]; rfl
  have c0 : W0.cell? ⟨w.heap.size, 0, none⟩ = some (.slice a n cap) := by subst hW; exact cellE (below_new _) c00
  have hbx : W0.heap[w.heap.size + 1]? = some (.cells #[.slice none 0 0] tSet) := by subst hW; exact heap_alloc_new' _ _ _ (by simp)
  clear c00
  rw [← hW] at hb
  have IX := Lib.hid (fun (W : World) (E : Below w.heap.size w W) (t : Txt) => index_ok (v := .agg #[.slice a n cap]) ⟨_, rfl, h.mono E⟩ hi hmax t)
  have HS := Lib.hid h
  have hkl := rank_le l t
  have hil := rank_le l f
  obtain ⟨F, hF⟩ : ∃ F, F = l.filter fun z => !decide (z < f) && decide (z < t) := ⟨_, rfl⟩
  have hFl : F.length ≤ l.length := by rw [hF]; exact List.length_filter_le _ _
  have HL := Lib.hid ((between f t hi).trans hF.symm)
  rw [← hF]
  clear hF
  obtain ⟨p, hp⟩ : ∃ p, p = rank l f := ⟨_, rfl⟩
  obtain ⟨q, hq⟩ : ∃ q, q = rank l t := ⟨_, rfl⟩
  have HP := Lib.hid hp
  have HQ := Lib.hid hq
  rw [← hp] at hil
  rw [← hq] at hkl
  have hcap : n ≤ cap := by
    obtain ⟨a', cap', hv, hc, _⟩ := h
    simp only [Value.slice.injEq] at hv
    obtain ⟨_, h2, rfl⟩ := hv
    omega
  rw [← hn] at hil hkl
  have HN := Lib.hid hn
  clear h hp hq hn
  go_enter Try.func60, Try.ntmps60
  go_wp2_with fail
  rw [← hW]
  clear hW
  refine wp_region_E (Array.replicate 8 true) 8 0 mixed (by rfl) ?_
  have hg := Gr.cell (ext_drew W0) c0
  refine wpE_seg' [0, 1, 3, 4] 4 rfl (by kernel_rfl) ?_
  iterate 4 (refine seg_cons rfl ?_; go_big_quiet_step (rfl))
  refine seg_nil ?_
  refine wpE_one 2 (by kernel_rfl) rfl ?_
  go_wp2_with fail
  refine (IX.out _ (hb.trans ((ext_drew W0).mono hb.size)) f).mono ?_
  rintro e w2 ⟨rfl, hb2⟩
  go_wp2_with fail
  refine QE_intro hb2 ?_
  refine wpE_one 5 (by kernel_rfl) rfl ?_
  go_wp2_with fail
  refine (IX.out _ (hb.trans ((ext_trans (ext_drew W0) hb2).mono hb.size)) t).mono ?_
  rintro e w3 ⟨rfl, hb3⟩
  go_wp2_with fail
  refine QE_intro hb3 ?_
  have hE := ext_trans (ext_drew W0) (ext_trans hb2 hb3)
  refine wpE_seg' [6, 7] 0 rfl (by kernel_rfl) ?_
  iterate 2 (refine seg_cons rfl ?_; go_big_quiet_step (rfl))
  refine seg_nil ?_
  refine wpE_tail [] (by kernel_rfl) ?_
  refine tail_nil ?_
  have c3 := cellE hE c0
  have hbx3 := (hE.block _ (block_lt hbx)).trans hbx
  rw [← HP.out, ← HQ.out]
  have hbw := hb.trans (hE.mono hb.size)
  clear hg hb2 hb3 c0 hbx IX hE
  have CL := fun (v : Value) (h : SlA w3 v (txs F)) => Lib.hid (cloneS_ok h (by omega))
  obtain ⟨M, hM⟩ : ∃ M, M = min p q := ⟨_, rfl⟩
  have hMi : min (p : Int) (q : Int) = (M : Int) := by omega
  have hMq : M ≤ q := by omega
  have hFe : (l.take q).drop M = F := by rw [hM, HP.out, HQ.out]; exact HL.out
  have HFE := Lib.hid hFe
  clear hM hFe hFl HP HQ
  by_cases hlt : M < q
  · rcases sl0_cut (HS.out.mono hbw) (p := M) (q := q) hMq (by rw [← HN.out]; exact hkl) with ⟨_, _, h0, _⟩ | ⟨b, off, rfl, hs⟩
    · omega
    · rw [HFE.out] at hs
      have hne : ¬ cap = M := by omega
      have HS' := Lib.hid hs
      clear hs
      go_wp2_with fail
      refine (CL _ HS'.out).out.mono ?_
      rintro e w4 ⟨r4, rfl, o4, h4⟩
      have hbx4 := (h4.block _ (block_lt hbx3)).trans hbx3
      have hE4 := hbw.trans (h4.mono hbw.size)
      have s4 := Sl0.of_own o4
      obtain ⟨a4, cap4, rfl, _⟩ := SlA.outT s4.any
      have c4 : w4.cell? ⟨w.heap.size + 1, 0, none⟩ = some (.slice none 0 0) := by unfold World.cell?; rw [hbx4]; rfl
      have f4 : w4.frozen? ⟨w.heap.size + 1, 0, none⟩ = false := by unfold World.frozen?; rw [hbx4]; rfl
      have c5 := cell_put (u := .slice a4 F.length cap4) (o := 0) hbx4 (by simp)
      have s5 := s4.put (o := 0) (u := .slice a4 F.length cap4) hbx4 (by decide)
      have hE5 := below_put (off := 0) (u := .slice a4 F.length cap4) hE4 (by omega : w.heap.size ≤ w.heap.size + 1)
      clear hbx4 h4 o4
      go_wp2
      exact bodyPost_ret (v := .agg #[.slice a4 F.length cap4]) (by simp [results, Try.results60, go_sem, c5]) rfl ⟨_, rfl, ⟨_, rfl, s5⟩, hE5⟩
  · have hq : q = M := by omega
    have hF0 : F = [] := by rw [← HFE.out, hq]; simp
    by_cases hc : cap = M
    · have H0 := Lib.hid hF0
      subst hq
      clear hF0
      go_wp2_with fail
      refine (CL _ (by rw [H0.out]; exact sla_len0 (by omega) (fun _ => rfl))).out.mono ?_
      rintro e w4 ⟨r4, rfl, o4, h4⟩
      have hbx4 := (h4.block _ (block_lt hbx3)).trans hbx3
      have hE4 := hbw.trans (h4.mono hbw.size)
      have s4 := Sl0.of_own o4
      obtain ⟨a4, cap4, rfl, _⟩ := SlA.outT s4.any
      have c4 : w4.cell? ⟨w.heap.size + 1, 0, none⟩ = some (.slice none 0 0) := by unfold World.cell?; rw [hbx4]; rfl
      have f4 : w4.frozen? ⟨w.heap.size + 1, 0, none⟩ = false := by unfold World.frozen?; rw [hbx4]; rfl
      have c5 := cell_put (u := .slice a4 F.length cap4) (o := 0) hbx4 (by simp)
      have s5 := s4.put (o := 0) (u := .slice a4 F.length cap4) hbx4 (by decide)
      have hE5 := below_put (off := 0) (u := .slice a4 F.length cap4) hE4 (by omega : w.heap.size ≤ w.heap.size + 1)
      clear hbx4 h4 o4
      go_wp2
      exact bodyPost_ret (v := .agg #[.slice a4 F.length cap4]) (by simp [results, Try.results60, go_sem, c5]) rfl ⟨_, rfl, ⟨_, rfl, s5⟩, hE5⟩
    · obtain ⟨g, rfl⟩ : ∃ g, a = some g := by
        cases a with
        | some g => exact ⟨g, rfl⟩
        | none =>
          obtain ⟨a', cap', hv, hc', hx⟩ := HS.out
          simp only [Value.slice.injEq] at hv
          obtain ⟨rfl, _, rfl⟩ := hv
          rcases hx with ⟨_, hx⟩ | ⟨_, _, _, hx, _⟩
          · have := hx rfl; omega
          · cases hx
      have H0 := Lib.hid hF0
      subst hq
      clear hF0
      go_wp2_with fail
      refine (CL _ (by rw [H0.out]; exact sla_len0 (by omega) (fun e => by cases e))).out.mono ?_
      rintro e w4 ⟨r4, rfl, o4, h4⟩
      have hbx4 := (h4.block _ (block_lt hbx3)).trans hbx3
      have hE4 := hbw.trans (h4.mono hbw.size)
      have s4 := Sl0.of_own o4
      obtain ⟨a4, cap4, rfl, _⟩ := SlA.outT s4.any
      have c4 : w4.cell? ⟨w.heap.size + 1, 0, none⟩ = some (.slice none 0 0) := by unfold World.cell?; rw [hbx4]; rfl
      have f4 : w4.frozen? ⟨w.heap.size + 1, 0, none⟩ = false := by unfold World.frozen?; rw [hbx4]; rfl
      have c5 := cell_put (u := .slice a4 F.length cap4) (o := 0) hbx4 (by simp)
      have s5 := s4.put (o := 0) (u := .slice a4 F.length cap4) hbx4 (by decide)
      have hE5 := below_put (off := 0) (u := .slice a4 F.length cap4) hE4 (by omega : w.heap.size ≤ w.heap.size + 1)
      clear hbx4 h4 o4
      go_wp2
      exact bodyPost_ret (v := .agg #[.slice a4 F.length cap4]) (by simp [results, Try.results60, go_sem, c5]) rfl ⟨_, rfl, ⟨_, rfl, s5⟩, hE5⟩
theorem tw_take {α : Type} (pr : α → Bool) : ∀ (L : List α) (j : Nat), (∀ y ∈ L.take j, pr y = true) → (∀ h : j < L.length, pr L[j] = false) → L.takeWhile pr = L.take j
  | [], j, _, _ => by simp
  | y :: L, 0, _, h2 => by
    have := h2 (by simp)
    simp only [List.getElem_cons_zero] at this
    rw [List.takeWhile_cons_of_neg (by rw [this]; simp)]; rfl
  | y :: L, j + 1, h1, h2 => by
    rw [List.takeWhile_cons_of_pos (h1 y (by simp)), List.take_succ_cons, tw_take pr L j (fun z hz => h1 z (by rw [List.take_succ_cons]; exact List.mem_cons_of_mem _ hz)) (fun h => h2 (by simp; omega))]

set_option maxRecDepth 100000 in
set_option maxHeartbeats 3200000 in
theorem begin_ok {w : World} {v : Value} {l : List Txt} (h : SetV w v l) (hi : inc l) (hmax : l.length < 1099511627776) (x : Txt) :
    Calls Try.prog 61 #[v, .string (sv x)] w fun e w' => ∃ r, e = .returned r ∧ SetV w' r (l.filter (x.isPrefixOf ·)) ∧ Below w.heap.size w w' := by
  obtain ⟨a, n, cap, rfl, h, hn⟩ := h.out
  have hb := below2 (w := w) (.cells #[.slice a n cap] tSet) (.cells #[.slice none 0 0] tSet)
  obtain ⟨W0, hW⟩ : ∃ W0, W0 = (w.alloc (.cells #[.slice a n cap] tSet)).alloc (.cells #[.slice none 0 0] tSet) := ⟨_, rfl⟩
  have c00 : (w.alloc (.cells #[.slice a n cap] tSet)).cell? ⟨w.heap.size, 0, none⟩ = some (.slice a n cap) := by unfold World.cell?; rw [heap_alloc_new]; rfl
  have c0 : W0.cell? ⟨w.heap.size, 0, none⟩ = some (.slice a n cap) := by subst hW; exact cellE (below_new _) c00
  have hbx : W0.heap[w.heap.size + 1]? = some (.cells #[.slice none 0 0] tSet) := by subst hW; exact heap_alloc_new' _ _ _ (by simp)
  clear c00
  rw [← hW] at hb
  have IX := Lib.hid (index_ok (w := W0) (v := .agg #[.slice a n cap]) ⟨_, rfl, h.mono hb⟩ hi hmax x)
  have HS := Lib.hid h
  have hil := rank_le l x
  obtain ⟨F, hF⟩ : ∃ F, F = l.filter (x.isPrefixOf ·) := ⟨_, rfl⟩
  have hFl : F.length ≤ l.length := by rw [hF]; exact List.length_filter_le _ _
  have HL := Lib.hid ((begin_law x hi).trans hF.symm)
  rw [← hF]
  clear hF
  obtain ⟨p, hp⟩ : ∃ p, p = rank l x := ⟨_, rfl⟩
  have HP := Lib.hid hp
  rw [← hp] at hil
  obtain ⟨a', cap', hv, hcap, hx⟩ := SlA.outT h.any
  simp only [Value.slice.injEq] at hv
  obtain ⟨rfl, h9, rfl⟩ := hv
  clear h9
  rw [← hn] at hil hcap
  have HX := Lib.hid hx
  have HN := Lib.hid hn
  clear h hp hn hx
  go_enter Try.func61, Try.ntmps61
  go_wp2_with fail
  rw [← hW]
  clear hW
  refine IX.out.mono ?_
  rintro e w3 ⟨rfl, h3⟩
  rw [← HP.out]
  have c3 := cellE h3 c0
  have hbx3 := (h3.block _ (block_lt hbx)).trans hbx
  have hbw := hb.trans (h3.mono hb.size)
  have CL := fun (v : Value) (h : SlA w3 v (txs F)) => Lib.hid (cloneS_ok h (by omega))
  clear IX h3 c0 hbx hb hFl
  go_wp2_with fail
  go_loopw [6] (fun kv wr => ∃ j : Nat, p + j ≤ n ∧ kv = .int .i64 (p + j : Nat) ∧ (∀ y ∈ (l.drop p).take j, x.isPrefixOf y = true) ∧ wr = w3) (fun kv _ => n - (intOf kv).toNat)
  case atStart => exact ⟨0, by omega, rfl, by simp, rfl⟩
  case round =>
    obtain ⟨j, hj, rfl, hpre, rfl⟩ := hrel
    obtain ⟨q, hq⟩ : ∃ q, q = p + j := ⟨_, rfl⟩
    rw [← hq] at hj ⊢
    have HQ := Lib.hid hq
    have hpq : p ≤ q := by omega
    have HPR := Lib.hid hpre
    clear hpre hq
    have hEnd : ((∀ h : j < (l.drop p).length, x.isPrefixOf (l.drop p)[j] = false)) → (l.take q).drop p = F := by
      intro h
      rw [HQ.out, ← HL.out, ← HP.out, tw_take _ _ j HPR.out h, List.drop_take]
      congr 1
      omega
    by_cases hjn : q < n
    · have hql : q < l.length := by have := HN.out; omega
      obtain ⟨b, off, hab, hbs, hc⟩ := HX.out q hql
      have hc := (hbw.cell (p := ⟨b, off + q, none⟩) hbs).trans hc
      have hjl : j < (l.drop p).length := by rw [List.length_drop]; have := HQ.out; omega
      have hEl : (l.drop p)[j] = l[q] := by rw [List.getElem_drop]; congr 1; exact HQ.out.symm
      have HP' := Try.strings_HasPrefix (sv l[q]) (sv x) wr
      rw [sv_data, sv_data] at HP'
      have HPX := Lib.hid HP'
      clear HP'
      by_cases hpx : x.isPrefixOf l[q] = true
      · have HNX : ∀ y ∈ (l.drop p).take (j + 1), x.isPrefixOf y = true := by
          intro y hy
          rw [List.take_succ_eq_append_getElem hjl, List.mem_append, List.mem_singleton] at hy
          rcases hy with hy | hy
          · exact HPR.out y hy
          · rw [hy, hEl]; exact hpx
        have HN' := Lib.hid HNX
        generalize l[q] = s at *
        have hpx' := Lib.hid hpx
        subst hab
        clear HNX hEl hEnd hpx
        go_wp2_with fail
        refine HPX.out.mono ?_
        rintro e w4 ⟨rfl, rfl⟩
        rw [show Lib.hasPrefix s x = true from hpx'.out]
        go_wp2
        go_roundw
        case rel => exact ⟨j + 1, by have := HQ.out; omega, by have := HQ.out; exact congrArg (Value.int .i64) (by omega), HN'.out, trivial⟩
        case measure => simp [intOf]; omega
      · have hpf : x.isPrefixOf l[q] = false := Bool.eq_false_iff.2 hpx
        have HFE := Lib.hid (hEnd (fun _ => by rw [hEl]; exact hpf))
        generalize l[q] = s at *
        have hpx' := Lib.hid hpf
        subst hab
        clear hEl hEnd hpx hpf
        go_wp2_with fail
        refine HPX.out.mono ?_
        rintro e w4 ⟨rfl, rfl⟩
        rw [show Lib.hasPrefix s x = false from hpx'.out]
        by_cases hlt : p < q
        · rcases sl0_cut (HS.out.mono hbw) (p := p) (q := q) hpq (by rw [← HN.out]; exact hj) with ⟨_, _, h0, _⟩ | ⟨b, off, hab, hs⟩
          · omega
          · first | subst hab | (cases hab)
            rw [HFE.out] at hs
            have hne : ¬ cap = p := by omega
            have HS' := Lib.hid hs
            clear hs
            go_wp2_with fail
            refine (CL _ HS'.out).out.mono ?_
            rintro e w4 ⟨r4, rfl, o4, h4⟩
            have hbx4 := (h4.block _ (block_lt hbx3)).trans hbx3
            have hE4 := hbw.trans (h4.mono hbw.size)
            have s4 := Sl0.of_own o4
            obtain ⟨a4, cap4, rfl, _⟩ := SlA.outT s4.any
            have c4 : w4.cell? ⟨w.heap.size + 1, 0, none⟩ = some (.slice none 0 0) := by unfold World.cell?; rw [hbx4]; rfl
            have f4 : w4.frozen? ⟨w.heap.size + 1, 0, none⟩ = false := by unfold World.frozen?; rw [hbx4]; rfl
            have c5 := cell_put (u := .slice a4 F.length cap4) (o := 0) hbx4 (by simp)
            have s5 := s4.put (o := 0) (u := .slice a4 F.length cap4) hbx4 (by decide)
            have hE5 := below_put (off := 0) (u := .slice a4 F.length cap4) hE4 (by omega : w.heap.size ≤ w.heap.size + 1)
            clear hbx4 h4 o4
            go_wp2
            exact bodyPost_ret (v := .agg #[.slice a4 F.length cap4]) (by simp [results, Try.results61, go_sem, c5]) rfl ⟨_, rfl, ⟨_, rfl, s5⟩, hE5⟩
        · have hq : q = p := by omega
          have hF0 : F = [] := by rw [← HFE.out, hq]; simp
          by_cases hc : cap = p
          · omega
          · have H0 := Lib.hid hF0
            clear hF0
            go_wp2_with fail
            refine (CL _ (by rw [H0.out]; exact sla_len0 (by omega) (fun e => by cases e))).out.mono ?_
            rintro e w4 ⟨r4, rfl, o4, h4⟩
            have hbx4 := (h4.block _ (block_lt hbx3)).trans hbx3
            have hE4 := hbw.trans (h4.mono hbw.size)
            have s4 := Sl0.of_own o4
            obtain ⟨a4, cap4, rfl, _⟩ := SlA.outT s4.any
            have c4 : w4.cell? ⟨w.heap.size + 1, 0, none⟩ = some (.slice none 0 0) := by unfold World.cell?; rw [hbx4]; rfl
            have f4 : w4.frozen? ⟨w.heap.size + 1, 0, none⟩ = false := by unfold World.frozen?; rw [hbx4]; rfl
            have c5 := cell_put (u := .slice a4 F.length cap4) (o := 0) hbx4 (by simp)
            have s5 := s4.put (o := 0) (u := .slice a4 F.length cap4) hbx4 (by decide)
            have hE5 := below_put (off := 0) (u := .slice a4 F.length cap4) hE4 (by omega : w.heap.size ≤ w.heap.size + 1)
            clear hbx4 h4 o4
            go_wp2
            exact bodyPost_ret (v := .agg #[.slice a4 F.length cap4]) (by simp [results, Try.results61, go_sem, c5]) rfl ⟨_, rfl, ⟨_, rfl, s5⟩, hE5⟩
    · obtain rfl : q = n := by omega
      have HFE := Lib.hid (hEnd (fun h => by exfalso; rw [List.length_drop] at h; have := HQ.out; have := HN.out; omega))
      clear hEnd
      by_cases hlt : p < q
      · rcases sl0_cut (HS.out.mono hbw) (p := p) (q := q) hpq (by rw [← HN.out]; exact hj) with ⟨_, _, h0, _⟩ | ⟨b, off, hab, hs⟩
        · omega
        · first | subst hab | (cases hab)
          rw [HFE.out] at hs
          have hne : ¬ cap = p := by omega
          have HS' := Lib.hid hs
          clear hs
          go_wp2_with fail
          refine (CL _ HS'.out).out.mono ?_
          rintro e w4 ⟨r4, rfl, o4, h4⟩
          have hbx4 := (h4.block _ (block_lt hbx3)).trans hbx3
          have hE4 := hbw.trans (h4.mono hbw.size)
          have s4 := Sl0.of_own o4
          obtain ⟨a4, cap4, rfl, _⟩ := SlA.outT s4.any
          have c4 : w4.cell? ⟨w.heap.size + 1, 0, none⟩ = some (.slice none 0 0) := by unfold World.cell?; rw [hbx4]; rfl
          have f4 : w4.frozen? ⟨w.heap.size + 1, 0, none⟩ = false := by unfold World.frozen?; rw [hbx4]; rfl
          have c5 := cell_put (u := .slice a4 F.length cap4) (o := 0) hbx4 (by simp)
          have s5 := s4.put (o := 0) (u := .slice a4 F.length cap4) hbx4 (by decide)
          have hE5 := below_put (off := 0) (u := .slice a4 F.length cap4) hE4 (by omega : w.heap.size ≤ w.heap.size + 1)
          clear hbx4 h4 o4
          go_wp2
          exact bodyPost_ret (v := .agg #[.slice a4 F.length cap4]) (by simp [results, Try.results61, go_sem, c5]) rfl ⟨_, rfl, ⟨_, rfl, s5⟩, hE5⟩
      · have hq : q = p := by omega
        have hF0 : F = [] := by rw [← HFE.out, hq]; simp
        by_cases hc : cap = p
        · have H0 := Lib.hid hF0
          clear hF0
          go_wp2_with fail
          refine (CL _ (by rw [H0.out]; exact sla_len0 (by omega) (fun _ => by omega))).out.mono ?_
          rintro e w4 ⟨r4, rfl, o4, h4⟩
          have hbx4 := (h4.block _ (block_lt hbx3)).trans hbx3
          have hE4 := hbw.trans (h4.mono hbw.size)
          have s4 := Sl0.of_own o4
          obtain ⟨a4, cap4, rfl, _⟩ := SlA.outT s4.any
          have c4 : w4.cell? ⟨w.heap.size + 1, 0, none⟩ = some (.slice none 0 0) := by unfold World.cell?; rw [hbx4]; rfl
          have f4 : w4.frozen? ⟨w.heap.size + 1, 0, none⟩ = false := by unfold World.frozen?; rw [hbx4]; rfl
          have c5 := cell_put (u := .slice a4 F.length cap4) (o := 0) hbx4 (by simp)
          have s5 := s4.put (o := 0) (u := .slice a4 F.length cap4) hbx4 (by decide)
          have hE5 := below_put (off := 0) (u := .slice a4 F.length cap4) hE4 (by omega : w.heap.size ≤ w.heap.size + 1)
          clear hbx4 h4 o4
          go_wp2
          exact bodyPost_ret (v := .agg #[.slice a4 F.length cap4]) (by simp [results, Try.results61, go_sem, c5]) rfl ⟨_, rfl, ⟨_, rfl, s5⟩, hE5⟩
        · obtain ⟨g, hg⟩ : ∃ g, a = some g := by
            cases hAA : a with
            | some g => exact ⟨g, rfl⟩
            | none =>
              rw [hAA] at HS
              obtain ⟨a', cap', hv, hc', hx⟩ := HS.out
              simp only [Value.slice.injEq] at hv
              obtain ⟨rfl, _, rfl⟩ := hv
              rcases hx with ⟨_, hx⟩ | ⟨_, _, _, hx, _⟩
              · have := hx rfl; omega
              · cases hx
          subst hg
          have H0 := Lib.hid hF0
          clear hF0
          go_wp2_with fail
          refine (CL _ (by rw [H0.out]; exact sla_len0 (by omega) (fun e => by cases e))).out.mono ?_
          rintro e w4 ⟨r4, rfl, o4, h4⟩
          have hbx4 := (h4.block _ (block_lt hbx3)).trans hbx3
          have hE4 := hbw.trans (h4.mono hbw.size)
          have s4 := Sl0.of_own o4
          obtain ⟨a4, cap4, rfl, _⟩ := SlA.outT s4.any
          have c4 : w4.cell? ⟨w.heap.size + 1, 0, none⟩ = some (.slice none 0 0) := by unfold World.cell?; rw [hbx4]; rfl
          have f4 : w4.frozen? ⟨w.heap.size + 1, 0, none⟩ = false := by unfold World.frozen?; rw [hbx4]; rfl
          have c5 := cell_put (u := .slice a4 F.length cap4) (o := 0) hbx4 (by simp)
          have s5 := s4.put (o := 0) (u := .slice a4 F.length cap4) hbx4 (by decide)
          have hE5 := below_put (off := 0) (u := .slice a4 F.length cap4) hE4 (by omega : w.heap.size ≤ w.heap.size + 1)
          clear hbx4 h4 o4
          go_wp2
          exact bodyPost_ret (v := .agg #[.slice a4 F.length cap4]) (by simp [results, Try.results61, go_sem, c5]) rfl ⟨_, rfl, ⟨_, rfl, s5⟩, hE5⟩
end Go.Proofs.Ytcabmibcgedhhaa

/-
  The walk of prod.guess.
-/
import Derived.Test.YtcabmibcgedhhaaDoorLong
namespace Go.Proofs.YtcabmibcgedhhaaDoor
open Go.RowKit Go.Cd

set_option maxRecDepth 100000 in
set_option maxHeartbeats 1600000 in
theorem guess_ok {w : World} {g off n cap u2 u1 u0 v1 v0 P vlo ulo U V : Nat} (hn : 3 ≤ n) (hc0 : w.cell? ⟨g, off, none⟩ = some (.int .u32 u0)) (hc1 : w.cell? ⟨g, off + 1, none⟩ = some (.int .u32 u1)) (hc2 : w.cell? ⟨g, off + 2, none⟩ = some (.int .u32 u2))
    (hv1 : v1 < B) (hv1b : 0 < v1) (hu2v : u2 ≤ v1) (hhalf : B ≤ 2 * v1) (hv0 : v0 < B) (hu1 : u1 < B) (hu0 : u0 < B)
    (hV : V = (v1 * B + v0) * P + vlo) (hU : U = ((u2 * B + u1) * B + u0) * P + ulo) (hulo : ulo < P) (hvlo : vlo < P) (hlt : U < V * B) :
    Calls Tryd.prog 55 #[.slice (some ⟨g, off, none⟩) n cap, .int .u32 v1, .int .u32 v0] w fun e w' => ∃ d : Nat, e = .returned (.int .u64 d) ∧ U / V ≤ d ∧ d < B ∧ d * V ≤ U + V ∧ Below w.heap.size w w' := by
  have OV := Lib.hid (fun (qh r : Nat) (heq : qh * v1 + r = u2 * B + u1) (h : B ≤ qh ∨ r * B + u0 < qh * v0) => kn_over hV hU hulo heq hlt h)
  have FI := Lib.hid (kn_first hV hU hulo hu0 hv1b)
  have ST := Lib.hid (fun (qh r : Nat) (heq : qh * v1 + r = u2 * B + u1) (h : ¬ (r < B ∧ (B ≤ qh ∨ r * B + u0 < qh * v0))) => kn_stop hV hU hvlo hv0 hu1 hv1b hu2v heq h)
  have hw1 : IntKind.u64.wrap (v1 : Int) = v1 := by rw [IntKind.wrap_u64]; unfold B at hv1; omega
  obtain ⟨top, htop, htop2⟩ : ∃ S : Nat, bits .or .u64 (IntKind.u64.wrap (IntKind.u64.wrap (u2 : Int) * 4294967296)) (IntKind.u64.wrap (u1 : Int)) = (S : Int) ∧ S = B * u2 + u1 :=
    ⟨_, by rw [show IntKind.u64.wrap (u2 : Int) = u2 from by rw [IntKind.wrap_u64]; unfold B at hv1; omega]; exact or_u64 (by omega) hu1, rfl⟩
  have e1 : u2 * B + u1 = top := by rw [htop2, Nat.mul_comm]
  rw [e1] at FI OV ST
  have hq0 := Nat.div_add_mod top v1
  have hr0 := Nat.mod_lt top hv1b
  have hqB : top / v1 ≤ B + 1 := by
    refine Nat.lt_succ_iff.1 (Nat.div_lt_of_lt_mul ?_)
    have h1 := Nat.mul_le_mul_left B hu2v
    have h2 : v1 * (B + 1 + 1) = B * v1 + v1 + v1 := by rw [Nat.mul_add, Nat.mul_add, Nat.mul_comm v1 B]; omega
    show top < v1 * (B + 1 + 1)
    rw [h2]
    omega
  have e2 : (top : Int) / v1 = ((top / v1 : Nat) : Int) := rfl
  have e3 : (top : Int) % v1 = ((top % v1 : Nat) : Int) := rfl
  generalize top / v1 = q0 at *
  generalize top % v1 = r0 at *
  have HQ0 := Lib.hid hq0
  have c0 := hc0
  clear hq0 hV hU hulo hvlo hlt e1 htop2 hc0
  have T0 := ext_refl w
  go_enter Tryd.func55, Tryd.ntmps55
  go_wp2_with fail
  refine wp_region_E (Array.replicate 11 true) 11 0 mixed (by rfl) ?_
  have kE0 := ext_trans T0 (ext_drew _)
  have hg0 := Gr.cell kE0 hc1
  have hg1 := Gr.cell kE0 hc2
  refine wpE_seg' [0, 1, 2, 3, 4, 5, 6, 7, 8, 9, 10] 0 rfl (by kernel_rfl) ?_
  iterate 11 (refine seg_cons rfl ?_; go_big_quiet_step (rfl))
  refine seg_nil ?_
  clear hg0 hg1
  refine wpE_tail [] (by kernel_rfl) ?_
  refine tail_nil ?_
  go_wp2_with fail
  refine wp_region_E (Array.replicate 10 true) 10 0 mixed (by rfl) ?_
  have qE0 := ext_trans kE0 (ext_drew _)
  refine wpE_seg' [0, 1, 2, 3, 4, 5, 6, 7, 8, 9] 0 rfl (by kernel_rfl) ?_
  iterate 10 (refine seg_cons rfl ?_; go_big_quiet_step (rfl))
  refine seg_nil ?_
  refine wpE_tail [] (by kernel_rfl) ?_
  refine tail_nil ?_
  have c0 := cellE qE0 c0
  have E := qE0
  clear hc1 hc2 htop hw1 kE0 qE0 T0
  go_wp2_with fail
  go_loopw [8, 9] (fun q r wr => ∃ qh rr : Nat, q = .int .u64 qh ∧ r = .int .u64 rr ∧ qh * v1 + rr = top ∧ U / V ≤ qh ∧ qh ≤ B + 1 ∧ rr < 2 * B ∧ wr.cell? ⟨g, off, none⟩ = some (.int .u32 u0) ∧ Below w.heap.size w wr)
    (fun _ r _ => 4294967296 - (intOf r).toNat)
  case atStart => exact ⟨q0, r0, vint (by rw [IntKind.wrap_u64]; unfold B at hqB; omega), by first | rfl | rw [e3], by rw [Nat.mul_comm]; exact HQ0.out, FI, hqB, by omega, c0, E⟩
  case round =>
    clear c0 E HQ0 FI
    obtain ⟨qh, rr, rfl, rfl, heq, hqU, hqB2, hrB, c0, hE⟩ := hrel
    have HEQ := Lib.hid heq
    have HQU := Lib.hid hqU
    clear heq hqU hqB e2 e3
    by_cases hr : rr < B
    · have hrd : decide ((rr : Int) < 4294967296) = true := decide_eq_true (by unfold B at hr; omega)
      by_cases hq : B ≤ qh
      · have hqd : decide ((4294967296 : Int) ≤ (qh : Int)) = true := decide_eq_true (by unfold B at hq; omega)
        have hgo := OV.out qh rr HEQ.out (.inl hq)
        have HGO := Lib.hid hgo
        clear hgo
        go_wp2
        go_roundw
        case rel =>
          have hd := kn_dec HEQ.out HGO.out
          have w1 : IntKind.u64.wrap (v1 : Int) = v1 := by rw [IntKind.wrap_u64]; unfold B at hv1; omega
          obtain ⟨d0, d1, d2⟩ := hd
          refine ⟨qh - 1, rr + v1, ?_, ?_, d1, d2, by omega, by omega, c0, hE⟩
          · exact vint (by rw [IntKind.wrap_u64]; unfold B at hqB2; omega)
          · exact vint (by rw [w1, IntKind.wrap_u64]; unfold B at hr hv1; omega)
        case measure =>
          have w1 : IntKind.u64.wrap (v1 : Int) = v1 := by rw [IntKind.wrap_u64]; unfold B at hv1; omega
          simp only [w1, intOf]
          rw [IntKind.wrap_u64]
          unfold B at hr hv1
          simp
          omega
      · have hqd : decide ((4294967296 : Int) ≤ (qh : Int)) = false := decide_eq_false (by unfold B at hq; omega)
        obtain ⟨mq, hmul, hmq⟩ : ∃ mq : Nat, IntKind.u64.wrap ((qh : Int) * IntKind.u64.wrap (v0 : Int)) = (mq : Int) ∧ mq = qh * v0 := by
          refine ⟨qh * v0, ?_, rfl⟩
          have w1 : IntKind.u64.wrap (v0 : Int) = v0 := by rw [IntKind.wrap_u64]; unfold B at hv0; omega
          have h2 : qh * v0 ≤ 4294967295 * 4294967295 := Nat.mul_le_mul (by unfold B at hq; omega) (by unfold B at hv0; omega)
          rw [w1, ← Int.natCast_mul, IntKind.wrap_u64]
          omega
        obtain ⟨S, hor, hS⟩ : ∃ S : Nat, bits .or .u64 (IntKind.u64.wrap ((rr : Int) * 4294967296)) (IntKind.u64.wrap (u0 : Int)) = (S : Int) ∧ S = rr * B + u0 := ⟨_, or_u64 hr hu0, by rw [Nat.mul_comm]⟩
        have HMQ := Lib.hid hmq
        have HSS := Lib.hid hS
        clear hmq hS
        by_cases hgt : S < mq
        · have hgd : decide ((S : Int) < (mq : Int)) = true := decide_eq_true (by omega)
          have hgd2 : decide (S < mq) = true := decide_eq_true hgt
          go_wp2
          go_roundw
          case rel =>
            have HGO := Lib.hid (OV.out qh rr HEQ.out (.inr (by rw [← HSS.out, ← HMQ.out]; exact hgt)))
            have hd := kn_dec HEQ.out HGO.out
            have w1 : IntKind.u64.wrap (v1 : Int) = v1 := by rw [IntKind.wrap_u64]; unfold B at hv1; omega
            obtain ⟨d0, d1, d2⟩ := hd
            refine ⟨qh - 1, rr + v1, ?_, ?_, d1, d2, by omega, by omega, c0, hE⟩
            · exact vint (by rw [IntKind.wrap_u64]; unfold B at hqB2; omega)
            · exact vint (by rw [w1, IntKind.wrap_u64]; unfold B at hr hv1; omega)
          case measure =>
            have w1 : IntKind.u64.wrap (v1 : Int) = v1 := by rw [IntKind.wrap_u64]; unfold B at hv1; omega
            simp only [w1, intOf]
            rw [IntKind.wrap_u64]
            unfold B at hr hv1
            simp
            omega
        · have hgd : decide ((S : Int) < (mq : Int)) = false := decide_eq_false (by omega)
          have hgd2 : decide (S < mq) = false := decide_eq_false hgt
          go_wp2
          go_ret
          obtain ⟨s1, s2⟩ := ST.out qh rr HEQ.out (fun h => h.2.elim hq (by rw [← HSS.out, ← HMQ.out]; omega))
          exact ⟨qh, rfl, HQU.out, s1, s2, hE⟩
    · have hrd : decide ((rr : Int) < 4294967296) = false := decide_eq_false (by unfold B at hr; omega)
      go_wp2
      go_ret
      obtain ⟨s1, s2⟩ := ST.out qh rr HEQ.out (fun h => hr h.1)
      exact ⟨qh, rfl, HQU.out, s1, s2, hE⟩
end Go.Proofs.YtcabmibcgedhhaaDoor

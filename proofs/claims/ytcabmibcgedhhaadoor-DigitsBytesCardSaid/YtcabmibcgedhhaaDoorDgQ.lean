/-
  The walks of digits.right, digits.Parse, cedillaref01.Text.
-/
import Derived.Test.YtcabmibcgedhhaaDoorDgR
import Derived.Test.YtcabmibcgedhhaaDoorDgO
namespace Go.Proofs.YtcabmibcgedhhaaDoor
open Go.RowKit Go.Cd

/-- Is it a number as it is written? -/
def isDec (l : List Nat) : Bool := l.all fun c => decide (48 ≤ c) && decide (c ≤ 57)
def rightB (l : List Nat) : Bool := isDec l && (decide (l = [48]) || (decide (l ≠ []) && decide (l[0]?.getD 0 ≠ 48)))

theorem isDec_false {l : List Nat} {j : Nat} (h : j < l.length) (hc : l[j] < 48 ∨ 57 < l[j]) : isDec l = false := by
  cases hv : isDec l
  · rfl
  · have := List.all_eq_true.1 hv _ (List.getElem_mem h)
    simp at this
    omega
theorem isDec_true {l : List Nat} (h : ∀ j (hj : j < l.length), 48 ≤ l[j] ∧ l[j] ≤ 57) : isDec l = true := by
  refine List.all_eq_true.2 fun c hc => ?_
  obtain ⟨j, hj, rfl⟩ := List.getElem_of_mem hc
  simpa using h j hj

theorem str_is {s : ByteArray} {l : List Nat} (hl : ∀ d ∈ l, d < 256) : (s.toList == (str l).toList) = decide (bts s = l) := by
  by_cases h : bts s = l
  · rw [decide_eq_true h, ← h, str_bts]; simp
  · rw [decide_eq_false h]
    refine beq_eq_false_iff_ne.2 fun hc => h ?_
    rw [ByteArray.toList_eq, ByteArray.toList_eq] at hc
    have : bts s = bts (str l) := by unfold bts; rw [hc]
    rw [this, bts_str hl]

set_option maxRecDepth 100000 in
set_option maxHeartbeats 1600000 in
theorem digRight_ok {w : World} (s : ByteArray) (hs : s.size < 1000000) :
    Calls Tryd.prog 40 #[.string s] w fun e w' => e = .returned (.bool (rightB (bts s))) ∧ Below w.heap.size w w' := by
  have hlen : (bts s).length = s.size := length_bts s
  have q0 := str_is (s := s) (l := [48]) (by decide)
  have q1 := str_is (s := s) (l := []) (by decide)
  have e0 : (str [48]).toList = [48] := by rw [ByteArray.toList_eq]; rfl
  have e1 : (str []).toList = [] := by rw [ByteArray.toList_eq]; rfl
  rw [e0] at q0
  rw [e1] at q1
  go_enter Tryd.func40, Tryd.ntmps40
  go_wp2_with fail
  go_loopw [6] (fun i wr => ∃ j : Nat, j ≤ s.size ∧ i = .int .i64 j ∧ (∀ t (h : t < (bts s).length), t < j → 48 ≤ (bts s)[t] ∧ (bts s)[t] ≤ 57) ∧ Below w.heap.size w wr)
    (fun i _ => s.size - (intOf i).toNat)
  case atStart => exact ⟨0, Nat.zero_le _, rfl, fun _ _ h => by omega, Below.refl _ _⟩
  case round =>
    obtain ⟨j, hj, rfl, hd, hE⟩ := hrel
    have HD := Lib.hid hd
    by_cases hjs : j < s.size
    · have hg := bts_get s j hjs
      obtain ⟨c, hc⟩ : ∃ c, s[j].toNat = c := ⟨_, rfl⟩
      rw [hc] at hg
      have HG := Lib.hid hg
      have hclt : c < 256 := by rw [← hc]; exact s[j].toNat_lt
      have hfal := isDec_false (l := bts s) (j := j) (by omega)
      rw [hg] at hfal
      have HF := Lib.hid hfal
      clear hd hfal hg q0 q1
      by_cases h1 : c < 48
      · have d1 : decide ((c : Int) < 48) = true := decide_eq_true (by omega)
        have d2 : decide (c < 48) = true := decide_eq_true h1
        go_wp2
        go_ret
        exact ⟨by simp [rightB, HF.out (.inl h1)], hE⟩
      · have d1 : decide ((c : Int) < 48) = false := decide_eq_false (by omega)
        have d2 : decide (c < 48) = false := decide_eq_false h1
        by_cases h2 : 57 < c
        · have d3 : decide ((57 : Int) < (c : Int)) = true := decide_eq_true (by omega)
          have d4 : decide (57 < c) = true := decide_eq_true h2
          go_wp2
          go_ret
          exact ⟨by simp [rightB, HF.out (.inr h2)], hE⟩
        · have d3 : decide ((57 : Int) < (c : Int)) = false := decide_eq_false (by omega)
          have d4 : decide (57 < c) = false := decide_eq_false h2
          go_wp2
          go_roundw
          case rel =>
            refine ⟨j + 1, by omega, rfl, fun t ht htj => ?_, hE⟩
            by_cases htj' : t = j
            · subst htj'
              have := HG.out
              omega
            · exact HD.out t ht (by omega)
          case measure => simp [intOf]; omega
    · obtain rfl : j = s.size := by omega
      have hdec : isDec (bts s) = true := isDec_true fun t ht => HD.out t ht (by omega)
      have HDEC := Lib.hid hdec
      clear hd hdec
      by_cases h0 : bts s = [48]
      · rw [decide_eq_true h0] at q0
        have p0 : s.toList = [48] := beq_iff_eq.1 q0
        clear q0 q1
        go_wp2
        go_ret
        exact ⟨by rw [h0]; rfl, hE⟩
      · rw [decide_eq_false h0] at q0
        have p0 : ¬ s.toList = [48] := beq_eq_false_iff_ne.1 q0
        by_cases h1 : bts s = []
        · rw [decide_eq_true h1] at q1
          have p1 : s.toList = [] := beq_iff_eq.1 q1
          clear q0 q1
          go_wp2
          go_ret
          exact ⟨by simp [rightB, HDEC.out, h1], hE⟩
        · rw [decide_eq_false h1] at q1
          have p1 : ¬ s.toList = [] := beq_eq_false_iff_ne.1 q1
          have p2 : s.toList.isEmpty = false := by cases h : s.toList with | nil => exact absurd h p1 | cons => rfl
          clear q1
          have hpos : 0 < s.size := by rw [← hlen]; exact List.length_pos_iff.2 h1
          have hg := bts_get s 0 hpos
          obtain ⟨c, hc⟩ : ∃ c, (s[0]'hpos).toNat = c := ⟨_, rfl⟩
          rw [hc] at hg
          have hg2 : (bts s)[0]?.getD 0 = c := by rw [List.getElem?_eq_getElem (by omega), Option.getD_some, hg]
          by_cases h2 : c = 48
          · have d1 : ((c : Int) == 48) = true := beq_iff_eq.2 (by omega)
            have d2 : (c == 48) = true := beq_iff_eq.2 h2
            go_wp2
            go_ret
            exact ⟨by simp [rightB, HDEC.out, h0, h1, hg2, h2], hE⟩
          · have d1 : ((c : Int) == 48) = false := beq_eq_false_iff_ne.2 (by omega)
            have d2 : (c == 48) = false := beq_eq_false_iff_ne.2 h2
            go_wp2
            go_ret
            exact ⟨by simp [rightB, HDEC.out, h0, h1, hg2, h2]; omega, hE⟩
end Go.Proofs.YtcabmibcgedhhaaDoor

namespace Go.Proofs.YtcabmibcgedhhaaDoor
open Go.RowKit Go.Cd

/-- What a text of digits says. -/
def hvd (l : List Nat) : Nat := hv (l.map (· - 48))
theorem hvd_snoc (l : List Nat) (c : Nat) : hvd (l ++ [c]) = hvd l * 10 + (c - 48) := by
  unfold hvd hv
  rw [List.map_append, List.reverse_append]
  simp [val]
  omega
theorem hv_append (a b : List Nat) : hv (a ++ b) = hv a * 10 ^ b.length + hv b := by
  unfold hv
  rw [List.reverse_append, val_append, List.length_reverse, Nat.mul_comm, Nat.add_comm]
theorem hvd_append (a b : List Nat) : hvd (a ++ b) = hvd a * 10 ^ b.length + hvd b := by
  unfold hvd
  rw [List.map_append, hv_append, List.length_map]
theorem hvd_lt {l : List Nat} (h : ∀ c ∈ l, 48 ≤ c ∧ c ≤ 57) : hvd l < 10 ^ l.length := by
  have := hv_lt (l := l.map (· - 48)) (fun d hd => by obtain ⟨c, hc, rfl⟩ := List.mem_map.1 hd; have := h c hc; omega)
  rwa [List.length_map] at this
theorem hvd_lenB {l : List Nat} (h : ∀ c ∈ l, 48 ≤ c ∧ c ≤ 57) : (digs B (hvd l)).length ≤ l.length := by
  refine (len_digs_le two_le_B).2 ?_
  exact Nat.lt_of_lt_of_le (hvd_lt h) (Nat.pow_le_pow_left (by decide) _)

theorem isDec_mem {l : List Nat} (h : isDec l = true) : ∀ c ∈ l, 48 ≤ c ∧ c ≤ 57 := by
  intro c hc
  have := List.all_eq_true.1 h c hc
  simpa using this

theorem len_mulP {A P n : Nat} (hA : (digs B A).length ≤ n) (hP : P < B) : (digs B (A * P)).length ≤ n + 1 := by
  refine (len_digs_le two_le_B).2 ?_
  rw [Nat.pow_succ]
  exact Nat.mul_lt_mul'' ((len_digs_le two_le_B).1 hA) hP

/-- The error that a text has. -/
def psE (l : List Nat) : Nat := if 10000 < l.length then 4 else if rightB l = true then 0 else 3

def szV : Value → Nat
  | .string s => s.size
  | _ => 0

theorem drop_str {l : List Nat} (hl : ∀ d ∈ l, d < 256) (f n : Nat) (hn : n = l.length) : (str l).extract f n = str (l.drop f) := by
  rw [extract_str, bts_str hl, List.take_of_length_le (by simp; omega)]

set_option maxRecDepth 100000 in
set_option maxHeartbeats 3200000 in
theorem parse_ok {w : World} (s : ByteArray) (hs : s.size < 1000000) :
    Calls Tryd.prog 21 #[.string s] w fun e w' => ∃ r, e = .returned (.tuple #[r, .int .i64 (psE (bts s))]) ∧ NatV w' r (if psE (bts s) = 0 then hvd (bts s) else 0) ∧ Below w.heap.size w w' := by
  have hlen : (bts s).length = s.size := length_bts s
  have hb := below_new (w := w) (.cells #[.slice none 0 0] tNat)
  have hbx : (w.alloc (.cells #[.slice none 0 0] tNat)).heap[w.heap.size]? = some (.cells #[.slice none 0 0] tNat) := heap_alloc_new _ _
  have c0 : (w.alloc (.cells #[.slice none 0 0] tNat)).cell? ⟨w.heap.size, 0, none⟩ = some (.slice none 0 0) := by unfold World.cell?; rw [hbx]; rfl
  have f0 : (w.alloc (.cells #[.slice none 0 0] tNat)).frozen? ⟨w.heap.size, 0, none⟩ = false := by unfold World.frozen?; rw [hbx]; rfl
  by_cases hbig : 10000 < s.size
  · have hps : psE (bts s) = 4 := by unfold psE; rw [if_pos (by omega)]
    rw [hps]
    have hd : decide ((10000 : Int) < (s.size : Int)) = true := decide_eq_true (by omega)
    go_enter Tryd.func21, Tryd.ntmps21
    go_wp2
    exact bodyPost_ret (v := .tuple #[.agg #[.slice none 0 0], .int .i64 4]) (by simp [results, Tryd.results21, go_sem, c0]) rfl ⟨_, rfl, nil_nat _, hb⟩
  · have hd : decide ((10000 : Int) < (s.size : Int)) = false := decide_eq_false (by omega)
    have RT := Lib.hid (fun (W : World) => digRight_ok (w := W) s hs)
    cases hr : rightB (bts s) with
    | false =>
      have hps : psE (bts s) = 3 := by unfold psE; rw [if_neg (by omega), hr]; rfl
      rw [hps]
      rw [hr] at RT
      go_enter Tryd.func21, Tryd.ntmps21
      go_wp2_with fail
      refine (RT.out _).mono ?_
      rintro e w1 ⟨rfl, h1⟩
      have c1 := cellE h1 c0
      have hb1 := (h1.block _ (block_lt hbx)).trans hbx
      have f1 : w1.frozen? ⟨w.heap.size, 0, none⟩ = false := by unfold World.frozen?; rw [hb1]; rfl
      have hE1 := below_put (off := 0) (u := .slice none 0 0) (hb.trans (h1.mono hb.size)) (Nat.le_refl w.heap.size)
      have c2 := cell_put (u := .slice none 0 0) (o := 0) hb1 (by simp)
      go_wp2
      exact bodyPost_ret (v := .tuple #[.agg #[.slice none 0 0], .int .i64 3]) (by simp [results, Tryd.results21, go_sem, c2]) rfl ⟨_, rfl, nil_nat _, hE1⟩
    | true =>
      have hps : psE (bts s) = 0 := by unfold psE; rw [if_neg (by omega), hr]; rfl
      rw [hps]
      rw [hr] at RT
      have hdec : isDec (bts s) = true := by
        unfold rightB at hr
        simp only [Bool.and_eq_true] at hr
        exact hr.1
      have hD := isDec_mem hdec
      have hbs : ∀ d ∈ bts s, d < 256 := bts_lt s
      have hstr := str_bts s
      obtain ⟨L, hL⟩ : ∃ L, L = bts s := ⟨_, rfl⟩
      rw [← hL] at hD hbs hstr hlen ⊢
      obtain ⟨Z, hZ⟩ : ∃ Z, Z = s.size := ⟨_, rfl⟩
      rw [← hZ] at hlen hd hbig
      go_enter Tryd.func21, Tryd.ntmps21
      go_wp2_with fail
      refine (RT.out _).mono ?_
      rintro e w1 ⟨rfl, h1⟩
      have hb1 := (h1.block _ (block_lt hbx)).trans hbx
      have hE1 := hb.trans (h1.mono hb.size)
      have hsz1 := block_lt hb1
      have hbK : (w1.alloc (.cells #[.slice none 0 0] tNat)).heap[w1.heap.size]? = some (.cells #[.slice none 0 0] tNat) := heap_alloc_new _ _
      have hbR := ((below_new (w := w1) (.cells #[.slice none 0 0] tNat)).block _ hsz1).trans hb1
      have hE2 := hE1.alloc hE1.size (.cells #[.slice none 0 0] tNat)
      clear RT c0 f0 h1 hbx hb1 hE1 hb hr hdec
      go_wp2_with fail
      go_loopw [0, 5] (fun sv fv wr => ∃ (p f : Nat) (a : Option Addr) (n cap : Nat), p ≤ Z ∧ sv = .string (str (L.drop p)) ∧ fv = .int .i64 f ∧ f ≤ 9 ∧ (Z - p) % 9 = f % 9 ∧ (f = 9 ∨ f = (Z - p) % 9) ∧
          wr.heap[w1.heap.size]? = some (.cells #[.slice a n cap] tNat) ∧ NatV wr (.agg #[.slice a n cap]) (hvd (L.take p)) ∧ wr.heap[w.heap.size]? = some (.cells #[.slice none 0 0] tNat) ∧ Below w.heap.size w wr)
        (fun sv fv _ => 2 * szV sv + (if intOf fv = 9 then 0 else 1))
      case atStart =>
        refine ⟨0, Z % 9, none, 0, 0, Nat.zero_le _, by rw [List.drop_zero, hstr], ?_, by omega, by simp, by simp, hbK, ?_, hbR, hE2⟩
        · rw [hZ]; first | rfl | exact congrArg (Value.int .i64) (by omega)
        · exact nil_nat _
      case round =>
        clear hbK hbR hE2
        obtain ⟨p, f, a, n, cap, hp, rfl, rfl, hf9, hmod, hfd, hbK, hN, hbR, hE⟩ := hrel
        have hck : wr.cell? ⟨w1.heap.size, 0, none⟩ = some (.slice a n cap) := by unfold World.cell?; rw [hbK]; rfl
        have hfk : wr.frozen? ⟨w1.heap.size, 0, none⟩ = false := by unfold World.frozen?; rw [hbK]; rfl
        have hcr : wr.cell? ⟨w.heap.size, 0, none⟩ = some (.slice none 0 0) := by unfold World.cell?; rw [hbR]; rfl
        have hfr : wr.frozen? ⟨w.heap.size, 0, none⟩ = false := by unfold World.frozen?; rw [hbR]; rfl
        by_cases hpZ : p < Z
        · have hfZ : f ≤ Z - p := by omega
          have hNL := Lib.hid (hvd_lenB (l := L.take p) (fun c hc => hD c (List.mem_of_mem_take hc)))
          have hsplit : L.take (p + f) = L.take p ++ (L.drop p).take f := by rw [List.take_add]
          have hdd : L.drop (p + f) = (L.drop p).drop f := by rw [List.drop_drop]
          have HSP := Lib.hid hsplit
          have HDD := Lib.hid hdd
          obtain ⟨D, hDD⟩ : ∃ D, D = L.drop p := ⟨_, rfl⟩
          rw [← hDD] at HSP HDD ⊢
          have hDl : D.length = Z - p := by rw [hDD, List.length_drop, hlen]
          have hDb : ∀ d ∈ D, d < 256 := fun d hd => hbs d (by rw [hDD] at hd; exact List.mem_of_mem_drop hd)
          have hDd : ∀ d ∈ D, 48 ≤ d ∧ d ≤ 57 := fun d hd => hD d (by rw [hDD] at hd; exact List.mem_of_mem_drop hd)
          have hsz : (str D).size = Z - p := by rw [size_str, hDl]
          have htl : (str D).toList = D.map UInt8.ofNat := by rw [ByteArray.toList_eq]; simp [str]
          have p1 : ¬ (str D).toList = [] := by
            intro hc
            have := congrArg List.length hc
            rw [htl, List.length_map] at this
            simp at this
            rw [this] at hDl
            simp at hDl
            omega
          have p2 : (str D).toList.isEmpty = false := by
            cases h : (str D).toList with
            | nil => exact absurd h p1
            | cons => rfl
          have HDb := Lib.hid hDb
          have HDd := Lib.hid hDd
          have HDl := Lib.hid hDl
          have HMF := Lib.hid (And.intro hmod hfd)
          clear htl hsplit hdd hDD hDb hDd hDl hmod hfd
          go_wp2_with fail
          obtain ⟨W0, hW0⟩ : ∃ W0, W0 = wr := ⟨_, rfl⟩
          rw [← hW0] at hck hfk hcr hfr hbK hN hbR hE ⊢
          clear hW0
          go_loopw [6, 7, 25] (fun by0 d i wr => ∃ j : Nat, j ≤ f ∧ i = .int .i64 j ∧ by0 = .int .u64 (10 ^ j : Nat) ∧ d = .int .u64 (hvd (D.take j) : Nat) ∧ wr = W0)
            (fun _ _ i _ => f - (intOf i).toNat)
          case atStart => exact ⟨0, Nat.zero_le _, rfl, rfl, rfl, rfl⟩
          case round =>
            obtain ⟨j, hj, rfl, rfl, rfl, rfl⟩ := hrel
            have hDl := HDl.out
            have hP9 : 10 ^ j ≤ 10 ^ 9 := Nat.pow_le_pow_right (by omega) (by omega)
            have hV := hvd_lt (l := D.take j) (fun c hc => HDd.out c (List.mem_of_mem_take hc))
            rw [List.length_take, Nat.min_eq_left (by omega)] at hV
            by_cases hjf : j < f
            · have hjD : j < D.length := by omega
              have hjs : j < (str D).size := by omega
              have hidx := str_get HDb.out hjs hjD
              have hc := HDd.out _ (List.getElem_mem hjD)
              have HTS := Lib.hid (List.take_succ_eq_append_getElem hjD)
              have HVS := Lib.hid (hvd_snoc (D.take j) D[j])
              have HPS := Lib.hid (Nat.pow_succ (n := 10) (m := j))
              generalize D[j] = c at *
              have hP8 : 10 ^ j ≤ 10 ^ 8 := Nat.pow_le_pow_right (by omega) (by omega)
              generalize hvd (D.take j) = V at *
              generalize 10 ^ j = P at *
              obtain ⟨e, he⟩ : ∃ e : Nat, (c : Int) - 48 = (e : Int) := ⟨c - 48, by omega⟩
              have he10 : e < 10 := by omega
              have hec : c - 48 = e := by omega
              have HEC := Lib.hid hec
              clear hec hDl
              go_wp2_with fail
              go_roundw
              case rel => exact ⟨j + 1, by omega, rfl, congrArg (Value.int .u64) (by rw [HPS.out]; push_cast; rfl), congrArg (Value.int .u64) (by rw [HTS.out, HVS.out, HEC.out]; push_cast; rfl), trivial⟩
              case measure => simp [intOf]; omega
            · obtain rfl : f = j := by omega
              have hDl := HDl.out
              have hpl : (L.take p).length ≤ 10000 := by rw [List.length_take]; omega
              have lA : (digs B (hvd (L.take p))).length ≤ 10000 := Nat.le_trans hNL.out hpl
              have lP : (digs B (10 ^ f)).length ≤ 1 := (len_digs_le two_le_B).2 (by unfold B; omega)
              have lV : (digs B (hvd (D.take f))).length ≤ 1 := (len_digs_le two_le_B).2 (by unfold B; omega)
              have lM : (digs B (hvd (L.take p) * 10 ^ f)).length ≤ 10001 := len_mulP lA (by unfold B; omega)
              have OF1 := Lib.hid (of_ok (10 ^ f) (by omega))
              have OF2 := Lib.hid (of_ok (hvd (D.take f)) (by omega))
              have MU := Lib.hid (fun (W : World) (v u : Value) (h : NatV W v (hvd (L.take p))) (g : NatV W u (10 ^ f)) => mul_ok h g (by omega) (by omega))
              have AD := Lib.hid (fun (W : World) (v u : Value) (h : NatV W v (hvd (L.take p) * 10 ^ f)) (g : NatV W u (hvd (D.take f))) => add_ok h g (by omega) (by omega))
              have HV := Lib.hid (hvd_append (L.take p) (D.take f))
              rw [List.length_take, Nat.min_eq_left (by omega)] at HV
              clear lA lP lV lM hV hP9
              generalize hvd (D.take f) = V at *
              generalize 10 ^ f = P at *
              have HN := Lib.hid hN
              have HBK := Lib.hid hbK
              have HBR := Lib.hid hbR
              have HE := Lib.hid hE
              clear hN hbK hbR hE hcr hfr
              go_wp2_with fail
              refine wp_region_E #[true, true, true, true, true, true, true, false] 7 1 mixed (by rfl) ?_
              have kE0 := ext_drew wr
              have hg0 := Gr.cell kE0 hck
              refine wpE_seg' [0, 1, 4] 4 rfl (by kernel_rfl) ?_
              refine seg_ex ?_
              iterate 3 (refine ex_cons rfl ?_)
              refine ex_nil ?_
              iterate 3 (go_big_quiet_step (rfl))
              refine seg_nil ?_
              clear hg0
              refine wpE_one 2 (by kernel_rfl) rfl ?_
              go_wp2_with fail
              refine (OF1.out _).mono ?_
              rintro e k1w ⟨r1, rfl, n1, k1b⟩
              go_wp2_with fail
              refine QE_intro k1b ?_
              have k1E := ext_trans kE0 k1b
              refine wpE_one 3 (by kernel_rfl) rfl ?_
              go_wp2_with fail
              refine (MU.out _ _ _ (HN.out.mono k1E) n1).mono ?_
              rintro e k2w ⟨r2, rfl, n2, k2b⟩
              go_wp2_with fail
              refine QE_intro k2b ?_
              have k2E := ext_trans k1E k2b
              clear n1 k1b k1E kE0
              refine wpE_one 5 (by kernel_rfl) rfl ?_
              go_wp2_with fail
              refine (OF2.out _).mono ?_
              rintro e k3w ⟨r3, rfl, n3, k3b⟩
              go_wp2_with fail
              refine QE_intro k3b ?_
              have k3E := ext_trans k2E k3b
              refine wpE_one 6 (by kernel_rfl) rfl ?_
              go_wp2_with fail
              refine (AD.out _ _ _ (n2.mono k3b) n3).mono ?_
              rintro e k4w ⟨r4, rfl, n4, k4b⟩
              go_wp2_with fail
              refine QE_intro k4b ?_
              have k4E := ext_trans k3E k4b
              clear n2 n3 k2b k2E k3b k3E k4b
              obtain ⟨a4, m4, cap4, rfl, n4⟩ := n4.out
              have hck4 := cellE k4E hck
              have hbK4 := (k4E.block _ (block_lt HBK.out)).trans HBK.out
              have hfk4 : k4w.frozen? ⟨w1.heap.size, 0, none⟩ = false := by unfold World.frozen?; rw [hbK4]; rfl
              refine wpE_tail [7] (by kernel_rfl) ?_
              refine tail_cons rfl ?_
              go_wp2_with fail
              refine tail_nil ?_
              have hds := drop_str HDb.out f (str D).size (by rw [size_str])
              go_wp2_with fail
              have hext : (str D).extract f (s.size - p) = str (D.drop f) := by
                rw [← hds]
                congr 1
                omega
              rw [hext]
              have hszd : szV (.string (str (D.drop f))) = Z - p - f := by
                show (str (D.drop f)).size = _
                rw [size_str, List.length_drop]; omega
              have hszD : szV (.string (str D)) = Z - p := hsz
              have hbx4 := heap_setCell_same k4w w1.heap.size 0 _ _ (.slice a4 m4 cap4) hbK4
              refine ⟨⟨p + f, 9, a4, m4, cap4, by omega, by rw [HDD.out], rfl, by omega, ?_, .inl rfl, hbx4, ?_, ?_, ?_⟩, ?_⟩
              · have := HMF.out
                omega
              · rw [HSP.out, HV.out]
                exact (box_nat hbK4 (by decide) n4).2
              · rw [Below.heap_setCell _ _ _ _ (by simp only; omega)]
                exact (k4E.block _ (block_lt HBR.out)).trans HBR.out
              · exact below_put (HE.out.trans (k4E.mono HE.out.size)) (by omega)
              · rw [hszd, hszD]
                have := HMF.out
                have h9 : intOf (.int .i64 9) = 9 := rfl
                have hf : intOf (.int .i64 (f : Int)) = f := rfl
                rw [h9, hf, if_pos rfl]
                by_cases hf0 : f = 0
                · subst hf0; simp
                · omega
        · obtain rfl : Z = p := by omega
          have hdn : L.drop Z = [] := List.drop_eq_nil_of_le (by omega)
          have hte : str (L.drop Z) = ⟨#[]⟩ := by rw [hdn]; rfl
          have htk : L.take Z = L := List.take_of_length_le (by omega)
          rw [htk] at hN
          rw [hte]
          have p2 : (⟨#[]⟩ : ByteArray).toList.isEmpty = true := by rw [ByteArray.toList_eq]; rfl
          have HL := Lib.hid hL
          have hN2 := (box_nat hbR (by decide) hN)
          have hE2 := below_put (off := 0) (u := .slice a n cap) hE (Nat.le_refl _)
          have c2 := hN2.1
          clear hmod hfd hte hdn htk hE hbR hN hbK
          clear hL
          go_wp2_with fail
          exact bodyPost_ret (v := .tuple #[.agg #[.slice a n cap], .int .i64 0]) (by simp [results, Tryd.results21, go_sem, c2]) rfl ⟨_, rfl, hN2.2, hE2⟩
end Go.Proofs.YtcabmibcgedhhaaDoor

namespace Go.Proofs.YtcabmibcgedhhaaDoor
open Go.RowKit Go.Cd

theorem str_app (a b : List Nat) : str a ++ str b = str (a ++ b) := by
  apply ByteArray.ext
  simp [str, ByteArray.data_append]

/-- The text of the first j digits. -/
def rvt (X : List Nat) (j : Nat) : List Nat := (X.take j).reverse.map (48 + ·)
theorem rvt_zero (X : List Nat) : rvt X 0 = [] := by simp [rvt]
theorem rvt_succ {X : List Nat} {j : Nat} (h : j < X.length) : rvt X (j + 1) = [48 + X[j]] ++ rvt X j := by
  unfold rvt
  rw [List.take_succ_eq_append_getElem h, List.reverse_append, List.map_append]; rfl
theorem rvt_all (X : List Nat) : rvt X X.length = X.reverse.map (48 + ·) := by simp [rvt]
theorem size_rvt {X : List Nat} {j : Nat} (h : j ≤ X.length) : (str (rvt X j)).size = j := by
  rw [size_str]; unfold rvt; simp; omega

theorem conv_lit1 (w : World) (d : Nat) (hd : d < 10) :
    (convert 39 9 (.slice (some ⟨w.heap.size, 0, none⟩) 1 1)).run Go.Proofs.Tryd.prog (w.alloc (.cells #[.int .u8 (48 + (d : Int))] eU8)) = .ok (.string (str [48 + d])) (w.alloc (.cells #[.int .u8 (48 + (d : Int))] eU8)) := by
  refine conv_str (L := [48 + d]) ?_ (fun c hc => by simp at hc; omega)
  have := (sla_new w #[.int .u8 (48 + (d : Int))] eU8)
  have e : bys [48 + d] = [.int .u8 (48 + (d : Int))] := by simp [bys]
  rw [e]
  exact this

set_option maxRecDepth 100000 in
set_option maxHeartbeats 1600000 in
theorem refText_ok {w : World} {v : Value} {x : Nat} (h : DecV w v x) (hx : (digs 10 x).length < 1000000) :
    Calls Tryd.prog 24 #[v] w fun e w' => e = .returned (.string (str (decT x))) ∧ Below w.heap.size w w' := by
  obtain ⟨a, cap, rfl, hc, hr⟩ := Sl.out h
  simp only [length_ds] at *
  have HR := Lib.hid hr
  have HL := Lib.hid (fun d hd => digs_lt (b := 10) (by omega) x d hd)
  by_cases hx0 : x = 0
  · subst hx0
    rw [digs_zero, List.length_nil]
    clear h hr HR hc hx
    go_enter Tryd.func24, Tryd.ntmps24
    go_wp2
    go_ret
    exact ⟨rfl, Below.refl _ _⟩
  · have hpos : 0 < (digs 10 x).length := by
      rcases Nat.eq_zero_or_pos (digs 10 x).length with h0 | h0
      · exact absurd (by have := val_digs (b := 10) (by omega) x; rw [List.length_eq_zero_iff.1 h0] at this; exact this.symm) hx0
      · exact h0
    have hdec : decT x = rvt (digs 10 x) (digs 10 x).length := by rw [rvt_all]; unfold decT; rw [if_neg hx0]
    rw [hdec]
    clear hdec hx0 h hr
    obtain ⟨X, hX⟩ : ∃ X, X = digs 10 x := ⟨_, rfl⟩
    rw [← hX] at HR HL hx hpos hc ⊢
    obtain ⟨n, hn⟩ : ∃ n, n = X.length := ⟨_, rfl⟩
    rw [← hn] at hx hpos hc ⊢
    have HN := Lib.hid hn
    clear hX hn
    go_enter Tryd.func24, Tryd.ntmps24
    go_wp2_with fail
    go_loopw [3, 11] (fun s i wr => ∃ j : Nat, j ≤ n ∧ i = .int .i64 j ∧ s = .string (str (rvt X j)) ∧ Below w.heap.size w wr)
      (fun _ i _ => n - (intOf i).toNat)
    case atStart => exact ⟨0, Nat.zero_le _, rfl, by rw [rvt_zero]; rfl, Below.refl _ _⟩
    case round =>
      obtain ⟨j, hj, rfl, rfl, hE⟩ := hrel
      by_cases hjn : j < n
      · have hjX : j < X.length := by have := HN.out; omega
        obtain ⟨b, off, rfl, hb, hcell⟩ := HR.out j hjX
        have hcell := (hE.cell (p := ⟨b, off + j, none⟩) hb).trans hcell
        have e1 : (ds X)[j]'(by simpa using hjX) = .int .i64 (X[j] : Nat) := by simp [ds]
        rw [e1] at hcell
        have hd := HL.out _ (List.getElem_mem hjX)
        have HS := Lib.hid (rvt_succ hjX)
        have hsz : (str (rvt X j)).size = j := size_rvt (by omega)
        generalize X[j] = d at *
        have hcv := conv_lit1 wr d hd
        have HA := Lib.hid (str_app [48 + d] (rvt X j))
        have hs1 : (str [48 + d]).size = 1 := rfl
        clear e1 hb
        go_wp2_with fail
        rw [HA.out]
        go_roundw
        case rel => exact ⟨j + 1, by omega, rfl, by rw [HS.out], ext_trans hE (below_new _)⟩
        case measure => simp [intOf]; omega
      · obtain rfl : j = n := by omega
        go_wp2
        go_ret
        exact ⟨rfl, hE⟩
end Go.Proofs.YtcabmibcgedhhaaDoor

/- The walk of ServoAgain. -/
import Derived.Test.YtaaocdgbflifhaaServoTwin
import Derived.Deep.DeepCutAuto
namespace Go.Proofs.Ytaaocdgbflifhaa
open Go.RowKit Go.Lib

/-- two servos that differ in their frequency alone, of which one is F until the next is set -/
def Alike (F : Int) (set : Bool) (s t : Pl.St) : Prop := s.g = t.g ∧ s.n = t.n ∧ (set = true → s.f = t.f) ∧ (set = false → s.f = F)
theorem alike_R {F : Int} {set : Bool} {s t : Pl.St} (c : Pl.Conf) (h : Alike F set s t) (o p : Int) : Pl.stepR c t o p = Pl.stepR c s o p := by
  obtain ⟨g, n, f⟩ := s
  obtain ⟨g', n', f'⟩ := t
  obtain ⟨h1, h2, _⟩ := h
  simp only at h1 h2
  subst h1 h2
  rfl
theorem alike_S {F : Int} {set : Bool} {s t : Pl.St} (c : Pl.Conf) (h : Alike F set s t) (o p : Int) : Alike F (set || ((Pl.stepR c s o p).k == 1)) (Pl.stepS c s o p) (Pl.stepS c t o p) := by
  obtain ⟨g, n, f⟩ := s
  obtain ⟨g', n', f'⟩ := t
  obtain ⟨h1, h2, h3, h4⟩ := h
  simp only at h1 h2
  subst h1 h2
  unfold Pl.stepS Pl.stepR
  cases ha : Pl.argsOk o p with
  | false => simp only [Bool.false_eq_true, if_false]; exact ⟨rfl, rfl, by simpa using h3, by simpa using h4⟩
  | true =>
    have e : Pl.isStep c ⟨g, n, f'⟩ o = Pl.isStep c ⟨g, n, f⟩ o := rfl
    simp only [if_true, e]
    cases hs : Pl.isStep c ⟨g, n, f⟩ o with
    | true => simp only [if_true]; exact ⟨rfl, rfl, by simpa using h3, by simpa using h4⟩
    | false => simp only [Bool.false_eq_true, if_false]; exact ⟨rfl, rfl, fun _ => rfl, by simp⟩
theorem alike_does {F : Int} {set : Bool} {s t : Pl.St} (c : Pl.Conf) (h : Alike F set s t) (k o p : Int) (hk : k ≠ 0) : Alike F set (doesS c s k o p) (doesS c t k o p) := by
  unfold doesS
  rw [if_neg hk, if_neg hk]
  split
  · exact ⟨rfl, rfl, h.2.2⟩
  · exact h

set_option maxRecDepth 100000 in
set_option maxHeartbeats 1000000 in
theorem servoAgain_no (c : Pl.Conf) (hc : c.ok = false) (a : Option Addr) (len cap : Nat) (a' : Option Addr) (len' cap' : Nat) (w : World) :
    Calls Try.prog 9 #[confV c, .slice a len cap, .slice a' len' cap'] w fun e w' => e = .returned (.bool true) ∧ Below w.heap.size w w' := by
  have HC := Lib.hid hc
  clear hc
  go_enter Try.func9, Try.ntmps9
  go_wp2_with fail
  have HB := confBel w c
  have HK := confBlk w c
  go_region_held3 (fun w' => w'.cell? ⟨w.heap.size, 0, none⟩ = some (.int .i64 c.kp) ∧ w'.cell? ⟨w.heap.size, 1, none⟩ = some (.int .i64 c.ki) ∧ w'.cell? ⟨w.heap.size, 2, none⟩ = some (.int .i64 c.lim) ∧ w'.cell? ⟨w.heap.size, 3, none⟩ = some (.int .i64 c.sf) ∧ w'.cell? ⟨w.heap.size, 4, none⟩ = some (.int .i64 c.sl)) (first | exact cv_cells HK | exact cv_cells HK.drew) ((go_at_call 14; refine (snew_no c HC.out _).mono ?_; rintro e w1 ⟨rfl, l1⟩; have HB : Below w.heap.size w w1 := (by first | exact bel_on HB l1 | exact bel_on HB.drew l1); have HK : Blk w1 w.heap.size 23 (cv c) := (by first | exact HK.below_ l1 | exact HK.drew.below_ l1)))
  all_goals (
    obtain ⟨k0, k1, k2, k3, k4⟩ := cv_cells HK
    have kz := HK.lt
    go_wp2_with fail
    refine (scheck_no c HC.out _).mono ?_
    rintro e w2 ⟨rfl, l2⟩
    have HB := bel_on HB l2
    go_wp2_with fail
    refine (awake_any _).mono ?_
    rintro e w3 ⟨rfl, l3⟩
    have HB := bel_on HB l3
    go_wp2
    go_ret
    exact ⟨rfl, HB⟩)

set_option maxRecDepth 100000 in
set_option maxHeartbeats 2000000 in
theorem servoAgain_ok (c : Pl.Conf) (hc : c.ok = true) (a : Option Addr) (len cap : Nat) (z : Nat → Nat → Int) (a' : Option Addr) (len' cap' : Nat) (z' : Nat → Nat → Int) (w : World) (hl : len ≤ cap) (hcap : cap ≤ maxLen) (hz : Deeds w a len z) (hl' : len' ≤ cap') (hcap' : cap' ≤ maxLen) (hz' : Deeds w a' len' z') :
    Calls Try.prog 9 #[confV c, .slice a len cap, .slice a' len' cap'] w fun e w' => e = .returned (.bool true) ∧ Below w.heap.size w w' := by
  have HC := Lib.hid hc
  have HZ := Lib.hid hz
  have HZ' := Lib.hid hz'
  have hf := fun W => first_any a len cap hl hcap W
  obtain ⟨N, hN⟩ : ∃ N, min len 200 = N := ⟨_, rfl⟩
  rw [hN] at hf
  have hN1 : N ≤ 200 := by omega
  have hN2 : N ≤ len := by omega
  have HF := Lib.hid hf
  have hf' := fun W => first_any a' len' cap' hl' hcap' W
  obtain ⟨M, hM⟩ : ∃ M, min len' 200 = M := ⟨_, rfl⟩
  rw [hM] at hf'
  have hM1 : M ≤ 200 := by omega
  have hM2 : M ≤ len' := by omega
  have HF' := Lib.hid hf'
  clear hc hz hN hf hz' hM hf'
  go_enter Try.func9, Try.ntmps9
  go_upto_region 1 with fail
  go_cut [7, 8] (fun s5 s6 wx => ∃ b1 b2, s5 = .pointer (some ⟨b1, 0, none⟩) ∧ s6 = .pointer (some ⟨b2, 0, none⟩) ∧ Hid (Pair w wx 56 56 b1 b2 c ⟨0, 0, 0⟩ ⟨0, 0, 0⟩))
  case first =>
    have HB := confBel w c
    have HK := confBlk w c
    go_region_held3 (fun w' => w'.cell? ⟨w.heap.size, 0, none⟩ = some (.int .i64 c.kp) ∧ w'.cell? ⟨w.heap.size, 1, none⟩ = some (.int .i64 c.ki) ∧ w'.cell? ⟨w.heap.size, 2, none⟩ = some (.int .i64 c.lim) ∧ w'.cell? ⟨w.heap.size, 3, none⟩ = some (.int .i64 c.sf) ∧ w'.cell? ⟨w.heap.size, 4, none⟩ = some (.int .i64 c.sl)) (first | exact cv_cells HK | exact cv_cells HK.drew) ((go_at_call 14; refine (snew_yes c HC.out _).mono ?_; rintro e w1 ⟨b1, rfl, hb1, hk1, l1⟩; (first | (have HP := onn_pair HN l1 hb1 hk1) | (have HP := onn_pair HN.drew l1 hb1 hk1) | (have HN := onn_mk HB l1 hb1 hk1) | (have HN := onn_mk HB.drew l1 hb1 hk1)); have HK : Blk w1 w.heap.size 23 (cv c) := (by first | exact HK.below_ l1 | exact HK.drew.below_ l1)))
    all_goals (go_wp2_with fail; go_meet; first | exact ⟨_, _, rfl, rfl, Lib.hid HP⟩ | exact ⟨_, _, rfl, rfl, Lib.hid HP.swap⟩)
  case rest =>
    obtain ⟨b1, b2, rfl, rfl, HP⟩ := hcut
    have I0 := Lib.hid (show Pl.Inv c ⟨0, 0, 0⟩ from inv0 c HC.out)
    go_wp2_with fail
    refine (HF.out _).mono ?_
    rintro e w2 ⟨rfl, rfl⟩
    go_wp2_with fail
    go_loopw [38] (fun i wr => ∃ (k : Nat) (s : Pl.St), k ≤ N ∧ i = .int .i64 k ∧ Hid (Pl.Inv c s) ∧ s.n ≤ k ∧ Hid (Pair w wr 56 56 b1 b2 c s ⟨0, 0, 0⟩)) (fun i _ => N - (RowKit.intOf i).toNat)
    case atStart => exact ⟨0, ⟨0, 0, 0⟩, by omega, rfl, I0, by show (0 : Int) ≤ (0 : Int); omega, HP⟩
    case round =>
      obtain ⟨k, s, hkN, rfl, hI, hn, hW⟩ := hrel
      have hn' : s.n ≤ 1000000 := by omega
      by_cases hlt : k < N
      · obtain ⟨bx, ox, rfl, hb1, hb2, c0, c1, c2⟩ := deeds_at HZ.out hW.out.2.2.1 (by omega : k < len)
        have hI' := Lib.hid (inv_does HC.out hI.out (z k 0) (z k 1) (z k 2))
        have hn2 := does_n hI.out (z k 0) (z k 1) (z k 2)
        obtain ⟨s', hs⟩ : ∃ s', doesS c s (z k 0) (z k 1) (z k 2) = s' := ⟨_, rfl⟩
        have HD := Lib.hid (does_any b1 c s (z k 0) (z k 1) (z k 2) _ (hW.out.alloc (.cells #[.int .i64 (z k 0), .int .i64 (z k 1), .int .i64 (z k 2)] 38)).1 HC.out hI.out hn')
        rw [hs] at hI' hn2 HD
        have HP3 := Lib.hid (hW.out.alloc (.cells #[.int .i64 (z k 0), .int .i64 (z k 1), .int .i64 (z k 2)] 38))
        clear hs hI hW
        go_wp2_with fail
        refine HD.out.mono ?_
        rintro e w2 ⟨rfl, l2⟩
        have HP4 := Lib.hid (HP3.out.one l2)
        clear l2 HP3 HD
        go_wp2_with fail
        go_roundw
        case rel => exact ⟨k + 1, s', by omega, by go_num, hI', by omega, HP4⟩
        case measure => simp [RowKit.intOf]; omega
      · obtain rfl : k = N := by omega
        have hI2 := Lib.hid (show Pl.Inv c ⟨0, 0, s.f⟩ by have := inv_does HC.out hI.out 1 0 0; simpa [doesS] using this)
        go_wp2_with fail
        refine (sfreq_any b1 c s _ hW.out.1).mono ?_
        rintro e w3 ⟨rfl, rfl⟩
        go_wp2_with fail
        refine (sreset_any b1 c s _ hW.out.1).mono ?_
        rintro e w2 ⟨rfl, l2⟩
        have HP3 := Lib.hid (hW.out.one l2)
        clear l2 hW HP
        go_wp2_with fail
        refine (sfreq_any b1 c ⟨0, 0, s.f⟩ _ HP3.out.1).mono ?_
        rintro e w3 ⟨rfl, rfl⟩
        go_wp2_with fail
        refine (ssamples_any b1 c ⟨0, 0, s.f⟩ _ HP3.out.1).mono ?_
        rintro e w3 ⟨rfl, rfl⟩
        go_wp2_with fail
        refine (HF'.out _).mono ?_
        rintro e w3 ⟨rfl, rfl⟩
        go_wp2_with fail
        go_loopw [12, 62] (fun st i wr => ∃ (j : Nat) (s1 s2 : Pl.St) (b : Bool), j ≤ M ∧ st = .bool b ∧ i = .int .i64 j ∧ Hid (Pl.Inv c s1 ∧ Pl.Inv c s2) ∧ s1.n ≤ j ∧ Hid (Alike s.f b s1 s2) ∧ Hid (Pair w wr 56 56 b1 b2 c s1 s2)) (fun _ i _ => M - (RowKit.intOf i).toNat)
        case atStart => exact ⟨0, ⟨0, 0, s.f⟩, ⟨0, 0, 0⟩, false, by omega, rfl, rfl, Lib.hid ⟨hI2.out, I0.out⟩, by show (0 : Int) ≤ (0 : Int); omega, Lib.hid ⟨rfl, rfl, by simp, fun _ => rfl⟩, HP3⟩
        case round =>
          obtain ⟨j, s1, s2, b, hjM, rfl, rfl, hI, hn, hA, hW⟩ := hrel
          have hn' : s1.n ≤ 1000000 := by omega
          have hn3 : s2.n ≤ 1000000 := by have := hA.out.2.1; omega
          by_cases hlt : j < M
          · obtain ⟨bx, ox, rfl, hb1, hb2, c0, c1, c2⟩ := deeds_at HZ'.out hW.out.2.2.1 (by omega : j < len')
            by_cases t0 : z' j 0 = 0
            · have t1 : (z' j 0 == 0) = true := by simp [t0]
              obtain ⟨kk, v, x, hR⟩ : ∃ kk v x, Pl.stepR c s1 (z' j 1) (z' j 2) = ⟨kk, v, x⟩ := ⟨_, _, _, rfl⟩
              obtain ⟨s1', hs1⟩ : ∃ s', Pl.stepS c s1 (z' j 1) (z' j 2) = s' := ⟨_, rfl⟩
              obtain ⟨s2', hs2⟩ : ∃ s', Pl.stepS c s2 (z' j 1) (z' j 2) = s' := ⟨_, rfl⟩
              have hA1 := alike_S c hA.out (z' j 1) (z' j 2)
              have hR2 := alike_R c hA.out (z' j 1) (z' j 2)
              have HI' := Lib.hid (And.intro (Pl.inv_step HC.out hI.out.1 (z' j 1) (z' j 2)) (Pl.inv_step HC.out hI.out.2 (z' j 1) (z' j 2)))
              have hn1 := (stepS_n c s1 (z' j 1) (z' j 2)).1
              rw [hR] at hR2 hA1
              rw [hs1, hs2] at hA1 HI'
              rw [hs1] at hn1
              have HR1 : Hid (Pl.stepR c s1 (z' j 1) (z' j 2) = ⟨kk, v, x⟩ ∧ Pl.stepS c s1 (z' j 1) (z' j 2) = s1') := Lib.hid ⟨hR, hs1⟩
              have HR2 : Hid (Pl.stepR c s2 (z' j 1) (z' j 2) = ⟨kk, v, x⟩ ∧ Pl.stepS c s2 (z' j 1) (z' j 2) = s2') := Lib.hid ⟨hR2, hs2⟩
              have HP := hW
              clear hR hs1 hs2 hR2 t0 hW hA HP3 I0 hI2
              obtain ⟨g, n, f⟩ := s1'
              obtain ⟨g2, n2, f2⟩ := s2'
              have hq1 : g = g2 := hA1.1
              have hq2 : n = n2 := hA1.2.1
              have hq3 := hA1.2.2.1
              have hq4 := hA1.2.2.2
              subst hq1 hq2
              have hA' := Lib.hid hA1
              have hI' := HI'
              have hn2 : n ≤ ((j + 1 : Nat) : Int) := by have : n ≤ s1.n + 1 := hn1; omega
              clear hn1 hA1
              cases hb : (b || (kk == 1)) with
              | true =>
                obtain rfl : f = f2 := hq3 hb
                rw [hb] at hA'
                clear hq3 hq4
                cases b with
                | true =>
                  clear hb

                  go_wp2_with fail
                  refine (ssample_as b1 c s1 _ _ kk v x ⟨g, n, f⟩ HR1 _ (HP.out.alloc _).1 HC.out hI.out.1 hn').mono ?_
                  rintro _ w1 ⟨rfl, l1⟩
                  have HP1 := (HP.out.alloc (.cells #[.int .i64 (z' j 0), .int .i64 (z' j 1), .int .i64 (z' j 2)] 38)).one l1
                  have HO1 := (HP.out.box 38 #[.int .i64 (z' j 0), .int .i64 (z' j 1), .int .i64 (z' j 2)]).one l1
                  clear l1 HP c0 c1 c2
                  have d1 : w1.cell? ⟨wr.heap.size, 1, none⟩ = some (.int .i64 (z' j 1)) := HO1.1.cell 1
                  have d2 : w1.cell? ⟨wr.heap.size, 2, none⟩ = some (.int .i64 (z' j 2)) := HO1.1.cell 2
                  have dz := HO1.1.lt
                  go_wp2_with fail
                  refine (ssample_as b2 c s2 _ _ kk v x ⟨g, n, f⟩ HR2 _ (HP1.alloc _).2.1 HC.out hI.out.2 hn3).mono ?_
                  rintro _ w2 ⟨rfl, l2⟩
                  have HQ := (HP1.box 31 #[.int .i64 kk, .int .i64 v]).two l2
                  have HP2 := (HP1.alloc _).two l2
                  have HO2 := (HO1.alloc (.cells #[.int .i64 kk, .int .i64 v] 31)).two l2
                  clear l2 HO1 HP1 d1 d2 dz
                  have d0 : w2.cell? ⟨wr.heap.size, 0, none⟩ = some (.int .i64 (z' j 0)) := HO2.1.cell 0
                  have dy := HO2.1.lt
                  have d1 : w2.cell? ⟨w1.heap.size, 0, none⟩ = some (.int .i64 kk) := HQ.1.cell 0
                  have d2 : w2.cell? ⟨w1.heap.size, 1, none⟩ = some (.int .i64 v) := HQ.1.cell 1
                  have dz := HQ.1.lt
                  have HP3 := HP2.alloc (.cells #[.int .i64 kk, .int .i64 v] 31)
                  clear HP2 HQ HO2 HR1 HR2 hI
                  go_wp2_with fail
                  refine (ssamples_any b1 c ⟨g, n, f⟩ _ HP3.1).mono ?_
                  rintro _ w9 ⟨rfl, rfl⟩
                  go_wp2_with fail
                  refine (ssamples_any b2 c ⟨g, n, f⟩ _ HP3.2.1).mono ?_
                  rintro _ w9 ⟨rfl, rfl⟩
                  go_wp2_with fail
                  refine (sfreq_any b1 c ⟨g, n, f⟩ _ HP3.1).mono ?_
                  rintro _ w9 ⟨rfl, rfl⟩
                  go_wp2_with fail
                  refine (sfreq_any b2 c ⟨g, n, f⟩ _ HP3.2.1).mono ?_
                  rintro _ w9 ⟨rfl, rfl⟩
                  go_wp2_with fail
                  go_roundw
                  case rel => exact ⟨j + 1, ⟨g, n, f⟩, ⟨g, n, f⟩, true, by omega, rfl, by go_num, hI', hn2, hA', Lib.hid HP3⟩
                  case measure => simp [RowKit.intOf]; omega
                | false =>
                  have t3 : (kk == 1) = true := by simpa using hb
                  clear hb
                  go_wp2_with fail
                  refine (ssample_as b1 c s1 _ _ kk v x ⟨g, n, f⟩ HR1 _ (HP.out.alloc _).1 HC.out hI.out.1 hn').mono ?_
                  rintro _ w1 ⟨rfl, l1⟩
                  have HP1 := (HP.out.alloc (.cells #[.int .i64 (z' j 0), .int .i64 (z' j 1), .int .i64 (z' j 2)] 38)).one l1
                  have HO1 := (HP.out.box 38 #[.int .i64 (z' j 0), .int .i64 (z' j 1), .int .i64 (z' j 2)]).one l1
                  clear l1 HP c0 c1 c2
                  have d1 : w1.cell? ⟨wr.heap.size, 1, none⟩ = some (.int .i64 (z' j 1)) := HO1.1.cell 1
                  have d2 : w1.cell? ⟨wr.heap.size, 2, none⟩ = some (.int .i64 (z' j 2)) := HO1.1.cell 2
                  have dz := HO1.1.lt
                  go_wp2_with fail
                  refine (ssample_as b2 c s2 _ _ kk v x ⟨g, n, f⟩ HR2 _ (HP1.alloc _).2.1 HC.out hI.out.2 hn3).mono ?_
                  rintro _ w2 ⟨rfl, l2⟩
                  have HQ := (HP1.box 31 #[.int .i64 kk, .int .i64 v]).two l2
                  have HP2 := (HP1.alloc _).two l2
                  have HO2 := (HO1.alloc (.cells #[.int .i64 kk, .int .i64 v] 31)).two l2
                  clear l2 HO1 HP1 d1 d2 dz
                  have d0 : w2.cell? ⟨wr.heap.size, 0, none⟩ = some (.int .i64 (z' j 0)) := HO2.1.cell 0
                  have dy := HO2.1.lt
                  have d1 : w2.cell? ⟨w1.heap.size, 0, none⟩ = some (.int .i64 kk) := HQ.1.cell 0
                  have d2 : w2.cell? ⟨w1.heap.size, 1, none⟩ = some (.int .i64 v) := HQ.1.cell 1
                  have dz := HQ.1.lt
                  have HP3 := HP2.alloc (.cells #[.int .i64 kk, .int .i64 v] 31)
                  clear HP2 HQ HO2 HR1 HR2 hI
                  go_wp2_with fail
                  refine (ssamples_any b1 c ⟨g, n, f⟩ _ HP3.1).mono ?_
                  rintro _ w9 ⟨rfl, rfl⟩
                  go_wp2_with fail
                  refine (ssamples_any b2 c ⟨g, n, f⟩ _ HP3.2.1).mono ?_
                  rintro _ w9 ⟨rfl, rfl⟩
                  go_wp2_with fail
                  refine (sfreq_any b1 c ⟨g, n, f⟩ _ HP3.1).mono ?_
                  rintro _ w9 ⟨rfl, rfl⟩
                  go_wp2_with fail
                  refine (sfreq_any b2 c ⟨g, n, f⟩ _ HP3.2.1).mono ?_
                  rintro _ w9 ⟨rfl, rfl⟩
                  go_wp2_with fail
                  go_roundw
                  case rel => exact ⟨j + 1, ⟨g, n, f⟩, ⟨g, n, f⟩, true, by omega, rfl, by go_num, hI', hn2, hA', Lib.hid HP3⟩
                  case measure => simp [RowKit.intOf]; omega
              | false =>
                obtain rfl : f = s.f := hq4 hb
                rw [hb] at hA'
                clear hq3 hq4
                obtain ⟨hb0, t3⟩ : b = false ∧ (kk == 1) = false := by simpa [Bool.or_eq_false_iff] using hb
                subst hb0
                clear hb
                go_wp2_with fail
                refine (ssample_as b1 c s1 _ _ kk v x ⟨g, n, s.f⟩ HR1 _ (HP.out.alloc _).1 HC.out hI.out.1 hn').mono ?_
                rintro _ w1 ⟨rfl, l1⟩
                have HP1 := (HP.out.alloc (.cells #[.int .i64 (z' j 0), .int .i64 (z' j 1), .int .i64 (z' j 2)] 38)).one l1
                have HO1 := (HP.out.box 38 #[.int .i64 (z' j 0), .int .i64 (z' j 1), .int .i64 (z' j 2)]).one l1
                clear l1 HP c0 c1 c2
                have d1 : w1.cell? ⟨wr.heap.size, 1, none⟩ = some (.int .i64 (z' j 1)) := HO1.1.cell 1
                have d2 : w1.cell? ⟨wr.heap.size, 2, none⟩ = some (.int .i64 (z' j 2)) := HO1.1.cell 2
                have dz := HO1.1.lt
                go_wp2_with fail
                refine (ssample_as b2 c s2 _ _ kk v x ⟨g, n, f2⟩ HR2 _ (HP1.alloc _).2.1 HC.out hI.out.2 hn3).mono ?_
                rintro _ w2 ⟨rfl, l2⟩
                have HQ := (HP1.box 31 #[.int .i64 kk, .int .i64 v]).two l2
                have HP2 := (HP1.alloc _).two l2
                have HO2 := (HO1.alloc (.cells #[.int .i64 kk, .int .i64 v] 31)).two l2
                clear l2 HO1 HP1 d1 d2 dz
                have d0 : w2.cell? ⟨wr.heap.size, 0, none⟩ = some (.int .i64 (z' j 0)) := HO2.1.cell 0
                have dy := HO2.1.lt
                have d1 : w2.cell? ⟨w1.heap.size, 0, none⟩ = some (.int .i64 kk) := HQ.1.cell 0
                have d2 : w2.cell? ⟨w1.heap.size, 1, none⟩ = some (.int .i64 v) := HQ.1.cell 1
                have dz := HQ.1.lt
                have HP3 := HP2.alloc (.cells #[.int .i64 kk, .int .i64 v] 31)
                clear HP2 HQ HO2 HR1 HR2 hI
                go_wp2_with fail
                refine (ssamples_any b1 c ⟨g, n, s.f⟩ _ HP3.1).mono ?_
                rintro _ w9 ⟨rfl, rfl⟩
                go_wp2_with fail
                refine (ssamples_any b2 c ⟨g, n, f2⟩ _ HP3.2.1).mono ?_
                rintro _ w9 ⟨rfl, rfl⟩
                go_wp2_with fail
                refine (sfreq_any b1 c ⟨g, n, s.f⟩ _ HP3.1).mono ?_
                rintro _ w9 ⟨rfl, rfl⟩
                go_wp2_with fail
                go_roundw
                case rel => exact ⟨j + 1, ⟨g, n, s.f⟩, ⟨g, n, f2⟩, false, by omega, rfl, by go_num, hI', hn2, hA', Lib.hid HP3⟩
                case measure => simp [RowKit.intOf]; omega
            · have t1 : (z' j 0 == 0) = false := by simp [t0]
              have hA1 := alike_does c hA.out (z' j 0) (z' j 1) (z' j 2) t0
              have HI' := Lib.hid (And.intro (inv_does HC.out hI.out.1 (z' j 0) (z' j 1) (z' j 2)) (inv_does HC.out hI.out.2 (z' j 0) (z' j 1) (z' j 2)))
              have hn1 := does_n hI.out.1 (z' j 0) (z' j 1) (z' j 2)
              obtain ⟨s1', hs1⟩ : ∃ s', doesS c s1 (z' j 0) (z' j 1) (z' j 2) = s' := ⟨_, rfl⟩
              obtain ⟨s2', hs2⟩ : ∃ s', doesS c s2 (z' j 0) (z' j 1) (z' j 2) = s' := ⟨_, rfl⟩
              have HD1 := Lib.hid (does_any b1 c s1 (z' j 0) (z' j 1) (z' j 2) _ (hW.out.alloc (.cells #[.int .i64 (z' j 0), .int .i64 (z' j 1), .int .i64 (z' j 2)] 38)).1 HC.out hI.out.1 hn')
              have HD2 := Lib.hid (fun W k => does_any b2 c s2 (z' j 0) (z' j 1) (z' j 2) W k HC.out hI.out.2 hn3)
              rw [hs1] at hA1 HI' hn1 HD1
              rw [hs2] at hA1 HI' HD2
              have HP0 := hW.out.alloc (.cells #[.int .i64 (z' j 0), .int .i64 (z' j 1), .int .i64 (z' j 2)] 38)
              have HO0 := hW.out.box 38 #[.int .i64 (z' j 0), .int .i64 (z' j 1), .int .i64 (z' j 2)]
              clear hs1 hs2 t0 hW hA HP3 I0 hI2 hI
              obtain ⟨g, n, f⟩ := s1'
              obtain ⟨g2, n2, f2⟩ := s2'
              have hq1 : g = g2 := hA1.1
              have hq2 : n = n2 := hA1.2.1
              have hq3 := hA1.2.2.1
              have hq4 := hA1.2.2.2
              subst hq1 hq2
              have hA' := Lib.hid hA1
              have hI' := HI'
              have hn2 : n ≤ ((j + 1 : Nat) : Int) := by have : n ≤ s1.n + 1 := hn1; omega
              clear hn1 hA1
              cases b with
              | true =>
                obtain rfl : f = f2 := hq3 rfl
                clear hq3 hq4
                go_wp2_with fail
                refine HD1.out.mono ?_
                rintro _ w1 ⟨rfl, l1⟩
                have HP1 := HP0.one l1
                have HO1 := HO0.one l1
                clear l1 HP0 HO0 HD1
                have d0 : w1.cell? ⟨wr.heap.size, 0, none⟩ = some (.int .i64 (z' j 0)) := HO1.1.cell 0
                have d1 : w1.cell? ⟨wr.heap.size, 1, none⟩ = some (.int .i64 (z' j 1)) := HO1.1.cell 1
                have d2 : w1.cell? ⟨wr.heap.size, 2, none⟩ = some (.int .i64 (z' j 2)) := HO1.1.cell 2
                have dz := HO1.1.lt
                go_wp2_with fail
                refine (HD2.out _ HP1.2.1).mono ?_
                rintro _ w2 ⟨rfl, l2⟩
                have HP3 := HP1.two l2
                clear l2 HO1 HP1 d1 d2 dz d0 HD2
                go_wp2_with fail
                refine (ssamples_any b1 c ⟨g, n, f⟩ _ HP3.1).mono ?_
                rintro _ w9 ⟨rfl, rfl⟩
                go_wp2_with fail
                refine (ssamples_any b2 c ⟨g, n, f⟩ _ HP3.2.1).mono ?_
                rintro _ w9 ⟨rfl, rfl⟩
                go_wp2_with fail
                refine (sfreq_any b1 c ⟨g, n, f⟩ _ HP3.1).mono ?_
                rintro _ w9 ⟨rfl, rfl⟩
                go_wp2_with fail
                refine (sfreq_any b2 c ⟨g, n, f⟩ _ HP3.2.1).mono ?_
                rintro _ w9 ⟨rfl, rfl⟩
                go_wp2_with fail
                go_roundw
                case rel => exact ⟨j + 1, ⟨g, n, f⟩, ⟨g, n, f⟩, true, by omega, rfl, by go_num, hI', hn2, hA', Lib.hid HP3⟩
                case measure => simp [RowKit.intOf]; omega
              | false =>
                obtain rfl : f = s.f := hq4 rfl
                clear hq3 hq4
                go_wp2_with fail
                refine HD1.out.mono ?_
                rintro _ w1 ⟨rfl, l1⟩
                have HP1 := HP0.one l1
                have HO1 := HO0.one l1
                clear l1 HP0 HO0 HD1
                have d0 : w1.cell? ⟨wr.heap.size, 0, none⟩ = some (.int .i64 (z' j 0)) := HO1.1.cell 0
                have d1 : w1.cell? ⟨wr.heap.size, 1, none⟩ = some (.int .i64 (z' j 1)) := HO1.1.cell 1
                have d2 : w1.cell? ⟨wr.heap.size, 2, none⟩ = some (.int .i64 (z' j 2)) := HO1.1.cell 2
                have dz := HO1.1.lt
                go_wp2_with fail
                refine (HD2.out _ HP1.2.1).mono ?_
                rintro _ w2 ⟨rfl, l2⟩
                have HP3 := HP1.two l2
                clear l2 HO1 HP1 d1 d2 dz d0 HD2
                go_wp2_with fail
                refine (ssamples_any b1 c ⟨g, n, s.f⟩ _ HP3.1).mono ?_
                rintro _ w9 ⟨rfl, rfl⟩
                go_wp2_with fail
                refine (ssamples_any b2 c ⟨g, n, f2⟩ _ HP3.2.1).mono ?_
                rintro _ w9 ⟨rfl, rfl⟩
                go_wp2_with fail
                refine (sfreq_any b1 c ⟨g, n, s.f⟩ _ HP3.1).mono ?_
                rintro _ w9 ⟨rfl, rfl⟩
                go_wp2_with fail
                go_roundw
                case rel => exact ⟨j + 1, ⟨g, n, s.f⟩, ⟨g, n, f2⟩, false, by omega, rfl, by go_num, hI', hn2, hA', Lib.hid HP3⟩
                case measure => simp [RowKit.intOf]; omega
          · obtain rfl : j = M := by omega
            go_wp2_with (go_at_call 15; refine (awake_any _).mono ?_; rintro _ w2 ⟨rfl, hb2⟩)
            go_ret
            exact ⟨rfl, bel_on hW.out.2.2.1 hb2⟩


theorem servoAgain_walk (a b c d e : Int) (x : Option Addr) (len cap : Nat) (z : Nat → Nat → Int) (x' : Option Addr) (len' cap' : Nat) (z' : Nat → Nat → Int) (w : World) (_h : ∀ n ∈ [a, b, c, d, e], (Lit.int .i64 n).wf = true) (hz : len ≤ cap ∧ cap ≤ maxLen ∧ Deeds w x len z) (hz' : len' ≤ cap' ∧ cap' ≤ maxLen ∧ Deeds w x' len' z') :
    Calls Try.prog 9 #[.agg ([a, b, c, d, e].map (Value.int .i64)).toArray, .slice x len cap, .slice x' len' cap'] w fun e w' => e = .returned (.bool true) ∧ Below w.heap.size w w' := by
  cases hc : (⟨a, b, c, d, e⟩ : Pl.Conf).ok with
  | true => exact servoAgain_ok ⟨a, b, c, d, e⟩ hc x len cap z x' len' cap' z' w hz.1 hz.2.1 hz.2.2 hz'.1 hz'.2.1 hz'.2.2
  | false => exact servoAgain_no ⟨a, b, c, d, e⟩ hc x len cap x' len' cap' w
end Go.Proofs.Ytaaocdgbflifhaa

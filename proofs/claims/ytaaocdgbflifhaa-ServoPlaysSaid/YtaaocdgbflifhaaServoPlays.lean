/- The walk of ServoPlays. -/
import Derived.Test.YtaaocdgbflifhaaServoDeeds
import Derived.Test.YtaaocdgbflifhaaServoPair
import Derived.Test.YtaaocdgbflifhaaServoChecks
import Derived.Deep.DeepCutAuto
namespace Go.Proofs.Ytaaocdgbflifhaa
open Go.RowKit Go.Lib

set_option maxRecDepth 100000 in
set_option maxHeartbeats 1000000 in
theorem servoPlays_ok (c : Pl.Conf) (hc : c.ok = true) (a : Option Addr) (len cap : Nat) (z : Nat → Nat → Int) (w : World) (hl : len ≤ cap) (hcap : cap ≤ maxLen) (hz : Deeds w a len z) :
    Calls Try.prog 7 #[confV c, .slice a len cap] w fun e w' => e = .returned (.bool true) ∧ Below w.heap.size w w' := by
  have HC := Lib.hid hc
  have HZ := Lib.hid hz
  have hf := fun W => first_any a len cap hl hcap W
  obtain ⟨N, hN⟩ : ∃ N, min len 200 = N := ⟨_, rfl⟩
  rw [hN] at hf
  have hN1 : N ≤ 200 := by omega
  have hN2 : N ≤ len := by omega
  have HF := Lib.hid hf
  clear hc hz hN hf
  go_enter Try.func7, Try.ntmps7
  go_upto_region 1 with fail
  go_cut [5, 6] (fun s5 s6 wx => ∃ b1 b2, s5 = .pointer (some ⟨b1, 0, none⟩) ∧ s6 = .pointer (some ⟨b2, 0, none⟩) ∧ b1 ≠ b2 ∧ w.heap.size ≤ b1 ∧ w.heap.size ≤ b2 ∧ Blk wx b1 56 (sv c ⟨0, 0, 0⟩) ∧ Blk wx b2 60 (sv c ⟨0, 0, 0⟩) ∧ Below w.heap.size w wx)
  case first =>
    have HB : Below w.heap.size w (w.alloc (.cells #[.int .i64 c.kp, .int .i64 c.ki, .int .i64 c.lim, .int .i64 c.sf, .int .i64 c.sl] 23)) := (Below.refl _ _).alloc (Nat.le_refl _) _
    have HK : Blk (w.alloc (.cells #[.int .i64 c.kp, .int .i64 c.ki, .int .i64 c.lim, .int .i64 c.sf, .int .i64 c.sl] 23)) w.heap.size 23 (cv c) := Blk.new _ _ _
    go_region_held3 (fun w' => w'.cell? ⟨w.heap.size, 0, none⟩ = some (.int .i64 c.kp) ∧ w'.cell? ⟨w.heap.size, 1, none⟩ = some (.int .i64 c.ki) ∧ w'.cell? ⟨w.heap.size, 2, none⟩ = some (.int .i64 c.lim) ∧ w'.cell? ⟨w.heap.size, 3, none⟩ = some (.int .i64 c.sf) ∧ w'.cell? ⟨w.heap.size, 4, none⟩ = some (.int .i64 c.sl)) (first | exact cv_cells HK | exact cv_cells HK.drew) ((first
      | (go_at_call 14; refine (snew_yes c HC.out _).mono ?_; rintro e w1 ⟨b1, rfl, hb1, hk1, l1⟩; have HK : Blk w1 w.heap.size 23 (cv c) := HK.drew.below_ l1; have HB := HB.drew.trans (l1.mono HB.drew.size))
      | (go_at_call 20; refine (tnew_yes c HC.out _).mono ?_; rintro e w2 ⟨b2, rfl, hb2, hk2, l2⟩; have HK : Blk w2 w.heap.size 23 (cv c) := HK.below_ l2; have HB := HB.trans (l2.mono HB.size))))
    all_goals (go_wp2_with fail; go_meet; exact ⟨b1, b2, rfl, rfl, by have := hk1.lt; omega, by have := hb1; simp at this; omega, by have := HB.size; have := l2.size; simp at hb1; have := l1.size; simp at this; omega, hk1.below_ l2, hk2, HB⟩)
  case rest =>
    obtain ⟨b1, b2, rfl, rfl, hne, h1, h2, k1, k2, hB⟩ := hcut
    have HW := Lib.hid (And.intro k1 (And.intro k2 hB))
    clear k1 k2 hB
    go_wp2_with fail
    refine (HF.out _).mono ?_
    rintro e w' ⟨rfl, rfl⟩
    go_wp2_with fail
    go_loopw [25] (fun i wr => ∃ (k : Nat) (s : Pl.St), k ≤ N ∧ i = .int .i64 k ∧ Hid (Pl.Inv c s) ∧ s.n ≤ k ∧ Hid (Blk wr b1 56 (sv c s) ∧ Blk wr b2 60 (sv c s) ∧ Below w.heap.size w wr)) (fun i _ => N - (RowKit.intOf i).toNat)
    case atStart => exact ⟨0, ⟨0, 0, 0⟩, by omega, rfl, inv0 c HC.out, by show (0 : Int) ≤ (0 : Int); omega, HW⟩
    case round =>
      obtain ⟨k, s, hkN, rfl, hI, hn, hW⟩ := hrel
      by_cases hlt : k < N
      · obtain ⟨bx, ox, rfl, hb1, hb2, c0, c1, c2⟩ := deeds_at HZ.out hW.out.2.2 (by omega : k < len)
        have HP : Pair w wr 56 60 b1 b2 c s s := ⟨hW.out.1, hW.out.2.1, hW.out.2.2, hne, h1, h2⟩
        have HO := HP.box 38 #[.int .i64 (z k 0), .int .i64 (z k 1), .int .i64 (z k 2)]
        by_cases t0 : z k 0 = 0
        · have t1 : (z k 0 == 0) = true := by simp [t0]
          have t2 : (z k 0 == 1) = false := by simp [t0]
          obtain ⟨kk, v, x, hR⟩ : ∃ kk v x, Pl.stepR c s (z k 1) (z k 2) = ⟨kk, v, x⟩ := ⟨_, _, _, rfl⟩
          obtain ⟨s', hs⟩ : ∃ s', Pl.stepS c s (z k 1) (z k 2) = s' := ⟨_, rfl⟩
          have hI' : Hid (Pl.Inv c s') := Lib.hid (hs ▸ Pl.inv_step HC.out hI.out _ _)
          have hn2 : s'.n ≤ (k + 1 : Nat) := by have := (stepS_n c s (z k 1) (z k 2)).1; rw [hs] at this; omega
          have HR : Hid (Pl.stepR c s (z k 1) (z k 2) = ⟨kk, v, x⟩ ∧ Pl.stepS c s (z k 1) (z k 2) = s') := ⟨hR, hs⟩
          clear hR hs t0
          have hn' : s.n ≤ 1000000 := by omega
          go_wp2_with fail
          refine (ssample_as b1 c s _ _ kk v x _ HR _ (HP.alloc _).1 HC.out hI.out hn').mono ?_
          rintro e w1 ⟨rfl, l1⟩
          have HP1 := (HP.alloc _).one l1
          have HO1 := HO.one l1
          clear l1 HO HP
          have d1 : w1.cell? ⟨wr.heap.size, 1, none⟩ = some (.int .i64 (z k 1)) := HO1.1.cell 1
          have d2 : w1.cell? ⟨wr.heap.size, 2, none⟩ = some (.int .i64 (z k 2)) := HO1.1.cell 2
          have dz := HO1.1.lt
          go_wp2_with fail
          refine (tsample_as b2 c s _ _ kk v x _ HR _ (HP1.alloc _).2.1 HC.out hI.out hn').mono ?_
          rintro e w2 ⟨rfl, l2⟩
          have HQ := (HP1.box 31 #[.int .i64 kk, .int .i64 v]).two l2
          have HP2 := (HP1.alloc _).two l2
          have HO2 := (HO1.alloc (.cells #[.int .i64 kk, .int .i64 v] 31)).two l2
          clear l2 HO1 HP1 d1 d2 dz
          have d0 : w2.cell? ⟨wr.heap.size, 0, none⟩ = some (.int .i64 (z k 0)) := HO2.1.cell 0
          have dy := HO2.1.lt
          have d1 : w2.cell? ⟨w1.heap.size, 0, none⟩ = some (.int .i64 kk) := HQ.1.cell 0
          have d2 : w2.cell? ⟨w1.heap.size, 1, none⟩ = some (.int .i64 v) := HQ.1.cell 1
          have dz := HQ.1.lt
          have HP3 := HP2.alloc (.cells #[.int .i64 kk, .int .i64 v] 31)
          clear HP2 HQ HO2 HR hI
          go_wp2_with fail
          refine (sfreq_any b1 c s' _ HP3.1).mono ?_
          rintro e w3 ⟨rfl, rfl⟩
          go_wp2_with fail
          refine (tfreq_any b2 c s' _ HP3.2.1).mono ?_
          rintro e w3 ⟨rfl, rfl⟩
          go_wp2_with fail
          refine (ssamples_any b1 c s' _ HP3.1).mono ?_
          rintro e w3 ⟨rfl, rfl⟩
          go_wp2_with fail
          refine (tsamples_any b2 c s' _ HP3.2.1).mono ?_
          rintro e w3 ⟨rfl, rfl⟩
          go_wp2_with fail
          go_roundw
          case rel => exact ⟨k + 1, s', by omega, by go_num, hI', by omega, Lib.hid ⟨HP3.1, HP3.2.1, HP3.2.2.1⟩⟩
          case measure => simp [RowKit.intOf]; omega
        · have t1 : (z k 0 == 0) = false := by simp [t0]
          have HP0 := HP.alloc (.cells #[.int .i64 (z k 0), .int .i64 (z k 1), .int .i64 (z k 2)] 38)
          clear HP
          by_cases t3 : z k 0 = 1
          · have t2 : (z k 0 == 1) = true := by simp [t3]
            have hI' : Hid (Pl.Inv c ⟨0, 0, s.f⟩) := Lib.hid (by have := inv_does HC.out hI.out 1 0 0; simpa [doesS] using this)
            clear t3 t0
            go_wp2_with fail
            refine (sreset_any b1 c s _ HP0.1).mono ?_
            rintro e w1 ⟨rfl, l1⟩
            have HP1 := HP0.one l1
            clear l1
            go_wp2_with fail
            refine (treset_any b2 c s _ HP1.2.1).mono ?_
            rintro e w2 ⟨rfl, l2⟩
            have HP2 := HP1.two l2
            clear l2 HP1 HP0 HO
            go_wp2_with fail
            refine (sfreq_any b1 c ⟨0, 0, s.f⟩ _ HP2.1).mono ?_
            rintro e w3 ⟨rfl, rfl⟩
            go_wp2_with fail
            refine (tfreq_any b2 c ⟨0, 0, s.f⟩ _ HP2.2.1).mono ?_
            rintro e w3 ⟨rfl, rfl⟩
            go_wp2_with fail
            refine (ssamples_any b1 c ⟨0, 0, s.f⟩ _ HP2.1).mono ?_
            rintro e w3 ⟨rfl, rfl⟩
            go_wp2_with fail
            refine (tsamples_any b2 c ⟨0, 0, s.f⟩ _ HP2.2.1).mono ?_
            rintro e w3 ⟨rfl, rfl⟩
            go_wp2_with fail
            go_roundw
            case rel => exact ⟨k + 1, ⟨0, 0, s.f⟩, by omega, by go_num, hI', (by show (0 : Int) ≤ ((k + 1 : Nat) : Int); omega), Lib.hid ⟨HP2.1, HP2.2.1, HP2.2.2.1⟩⟩
            case measure => simp [RowKit.intOf]; omega
          · have t2 : (z k 0 == 1) = false := by simp [t3]
            clear t3 t0 HO
            go_wp2_with fail
            refine (sfreq_any b1 c s _ HP0.1).mono ?_
            rintro e w3 ⟨rfl, rfl⟩
            go_wp2_with fail
            refine (tfreq_any b2 c s _ HP0.2.1).mono ?_
            rintro e w3 ⟨rfl, rfl⟩
            go_wp2_with fail
            refine (ssamples_any b1 c s _ HP0.1).mono ?_
            rintro e w3 ⟨rfl, rfl⟩
            go_wp2_with fail
            refine (tsamples_any b2 c s _ HP0.2.1).mono ?_
            rintro e w3 ⟨rfl, rfl⟩
            go_wp2_with fail
            go_roundw
            case rel => exact ⟨k + 1, s, by omega, by go_num, hI, by omega, Lib.hid ⟨HP0.1, HP0.2.1, HP0.2.2.1⟩⟩
            case measure => simp [RowKit.intOf]; omega
      · obtain rfl : k = N := by omega
        go_wp2_with (go_at_call 15; refine (awake_any _).mono ?_; rintro e w2 ⟨rfl, hb2⟩)
        go_ret
        exact ⟨rfl, hW.out.2.2.trans (hb2.mono hW.out.2.2.size)⟩
set_option maxRecDepth 100000 in
set_option maxHeartbeats 1000000 in
theorem servoPlays_no (c : Pl.Conf) (hc : c.ok = false) (a : Option Addr) (len cap : Nat) (z : Nat → Nat → Int) (w : World) (hl : len ≤ cap) (hcap : cap ≤ maxLen) (hz : Deeds w a len z) :
    Calls Try.prog 7 #[confV c, .slice a len cap] w fun e w' => e = .returned (.bool true) ∧ Below w.heap.size w w' := by
  have HC := Lib.hid hc
  have HZ := Lib.hid hz
  have hf := fun W => first_any a len cap hl hcap W
  obtain ⟨N, hN⟩ : ∃ N, min len 200 = N := ⟨_, rfl⟩
  rw [hN] at hf
  have hN1 : N ≤ 200 := by omega
  have hN2 : N ≤ len := by omega
  have HF := Lib.hid hf
  clear hc hz hN hf
  go_enter Try.func7, Try.ntmps7
  go_upto_region 1 with fail
  go_cut [5, 6] (fun s5 s6 wx => s5 = .pointer none ∧ s6 = .pointer none ∧ Below w.heap.size w wx)
  case first =>
    have HB : Below w.heap.size w (w.alloc (.cells #[.int .i64 c.kp, .int .i64 c.ki, .int .i64 c.lim, .int .i64 c.sf, .int .i64 c.sl] 23)) := (Below.refl _ _).alloc (Nat.le_refl _) _
    have HK : Blk (w.alloc (.cells #[.int .i64 c.kp, .int .i64 c.ki, .int .i64 c.lim, .int .i64 c.sf, .int .i64 c.sl] 23)) w.heap.size 23 (cv c) := Blk.new _ _ _
    go_region_held3 (fun w' => w'.cell? ⟨w.heap.size, 0, none⟩ = some (.int .i64 c.kp) ∧ w'.cell? ⟨w.heap.size, 1, none⟩ = some (.int .i64 c.ki) ∧ w'.cell? ⟨w.heap.size, 2, none⟩ = some (.int .i64 c.lim) ∧ w'.cell? ⟨w.heap.size, 3, none⟩ = some (.int .i64 c.sf) ∧ w'.cell? ⟨w.heap.size, 4, none⟩ = some (.int .i64 c.sl)) (first | exact cv_cells HK | exact cv_cells HK.drew) ((first
      | (go_at_call 14; refine (snew_no c HC.out _).mono ?_; rintro e w1 ⟨rfl, l1⟩; have HK : Blk w1 w.heap.size 23 (cv c) := HK.drew.below_ l1; have HB := HB.drew.trans (l1.mono HB.drew.size))
      | (go_at_call 20; refine (tnew_no c HC.out _).mono ?_; rintro e w2 ⟨rfl, l2⟩; have HK : Blk w2 w.heap.size 23 (cv c) := HK.below_ l2; have HB := HB.trans (l2.mono HB.size))))
    all_goals (go_wp2_with fail; go_meet; exact ⟨rfl, rfl, HB⟩)
  case rest =>
    obtain ⟨rfl, rfl, hB⟩ := hcut
    have HW := Lib.hid hB
    clear hB
    go_wp2_with fail
    refine (HF.out _).mono ?_
    rintro e w' ⟨rfl, rfl⟩
    go_wp2_with fail
    go_loopw [25] (fun i wr => ∃ (k : Nat), k ≤ N ∧ i = .int .i64 k ∧ Hid (Below w.heap.size w wr)) (fun i _ => N - (RowKit.intOf i).toNat)
    case atStart => exact ⟨0, by omega, rfl, HW⟩
    case round =>
      obtain ⟨k, hkN, rfl, hW⟩ := hrel
      by_cases hlt : k < N
      · obtain ⟨bx, ox, rfl, hb1, hb2, c0, c1, c2⟩ := deeds_at HZ.out hW.out (by omega : k < len)
        have HP0 := hW.out.alloc hW.out.size (.cells #[.int .i64 (z k 0), .int .i64 (z k 1), .int .i64 (z k 2)] 38)
        by_cases t0 : z k 0 = 0
        · have t1 : (z k 0 == 0) = true := by simp [t0]
          have t2 : (z k 0 == 1) = false := by simp [t0]
          clear t0
          go_wp2_with fail
          refine (snil_sample _ _ _).mono ?_
          rintro e w1 ⟨rfl, l1⟩
          have K1 := (Blk.new wr 38 #[.int .i64 (z k 0), .int .i64 (z k 1), .int .i64 (z k 2)]).below_ l1
          have HP1 := HP0.trans (l1.mono HP0.size)
          clear l1 HP0
          have d1 : w1.cell? ⟨wr.heap.size, 1, none⟩ = some (.int .i64 (z k 1)) := K1.cell 1
          have d2 : w1.cell? ⟨wr.heap.size, 2, none⟩ = some (.int .i64 (z k 2)) := K1.cell 2
          have dz := K1.lt
          go_wp2_with fail
          refine (tnil_sample _ _ _).mono ?_
          rintro e w2 ⟨rfl, l2⟩
          have K2 := (K1.alloc _).below_ l2
          have Q2 := (Blk.new w1 31 #[.int .i64 0, .int .i64 0]).below_ l2
          have HP2 := (HP1.alloc HP1.size _).trans (l2.mono (HP1.alloc HP1.size _).size)
          clear l2 HP1 K1 d1 d2 dz
          have d1 : w2.cell? ⟨w1.heap.size, 0, none⟩ = some (.int .i64 0) := Q2.cell 0
          have d2 : w2.cell? ⟨w1.heap.size, 1, none⟩ = some (.int .i64 0) := Q2.cell 1
          have dz := Q2.lt
          have d0 : w2.cell? ⟨wr.heap.size, 0, none⟩ = some (.int .i64 (z k 0)) := K2.cell 0
          have dy := K2.lt
          go_wp2_with fail
          refine (snil_freq _).mono ?_
          rintro e w3 ⟨rfl, rfl⟩
          go_wp2_with fail
          refine (tnil_freq _).mono ?_
          rintro e w3 ⟨rfl, rfl⟩
          go_wp2_with fail
          refine (snil_samples _).mono ?_
          rintro e w3 ⟨rfl, rfl⟩
          go_wp2_with fail
          refine (tnil_samples _).mono ?_
          rintro e w3 ⟨rfl, rfl⟩
          go_wp2_with fail
          go_roundw
          case rel => exact ⟨k + 1, by omega, by go_num, Lib.hid (HP2.alloc HP2.size _)⟩
          case measure => simp [RowKit.intOf]; omega
        · have t1 : (z k 0 == 0) = false := by simp [t0]
          by_cases t3 : z k 0 = 1
          · have t2 : (z k 0 == 1) = true := by simp [t3]
            clear t3 t0
            go_wp2_with fail
            refine (snil_reset _).mono ?_
            rintro e w1 ⟨rfl, rfl⟩
            go_wp2_with fail
            refine (tnil_reset _).mono ?_
            rintro e w2 ⟨rfl, rfl⟩
            go_wp2_with fail
            refine (snil_freq _).mono ?_
            rintro e w3 ⟨rfl, rfl⟩
            go_wp2_with fail
            refine (tnil_freq _).mono ?_
            rintro e w3 ⟨rfl, rfl⟩
            go_wp2_with fail
            refine (snil_samples _).mono ?_
            rintro e w3 ⟨rfl, rfl⟩
            go_wp2_with fail
            refine (tnil_samples _).mono ?_
            rintro e w3 ⟨rfl, rfl⟩
            go_wp2_with fail
            go_roundw
            case rel => exact ⟨k + 1, by omega, by go_num, Lib.hid HP0⟩
            case measure => simp [RowKit.intOf]; omega
          · have t2 : (z k 0 == 1) = false := by simp [t3]
            clear t3 t0
            go_wp2_with fail
            refine (snil_freq _).mono ?_
            rintro e w3 ⟨rfl, rfl⟩
            go_wp2_with fail
            refine (tnil_freq _).mono ?_
            rintro e w3 ⟨rfl, rfl⟩
            go_wp2_with fail
            refine (snil_samples _).mono ?_
            rintro e w3 ⟨rfl, rfl⟩
            go_wp2_with fail
            refine (tnil_samples _).mono ?_
            rintro e w3 ⟨rfl, rfl⟩
            go_wp2_with fail
            go_roundw
            case rel => exact ⟨k + 1, by omega, by go_num, Lib.hid HP0⟩
            case measure => simp [RowKit.intOf]; omega
      · obtain rfl : k = N := by omega
        go_wp2_with (go_at_call 15; refine (awake_any _).mono ?_; rintro e w2 ⟨rfl, hb2⟩)
        go_ret
        exact ⟨rfl, hW.out.trans (hb2.mono hW.out.size)⟩

theorem servoPlays_walk (a b c d e : Int) (x : Option Addr) (len cap : Nat) (z : Nat → Nat → Int) (w : World) (_h : ∀ n ∈ [a, b, c, d, e], (Lit.int .i64 n).wf = true) (hz : len ≤ cap ∧ cap ≤ maxLen ∧ Deeds w x len z) :
    Calls Try.prog 7 #[.agg ([a, b, c, d, e].map (Value.int .i64)).toArray, .slice x len cap] w fun e w' => e = .returned (.bool true) ∧ Below w.heap.size w w' := by
  cases hc : (⟨a, b, c, d, e⟩ : Pl.Conf).ok with
  | true => exact servoPlays_ok ⟨a, b, c, d, e⟩ hc x len cap z w hz.1 hz.2.1 hz.2.2
  | false => exact servoPlays_no ⟨a, b, c, d, e⟩ hc x len cap z w hz.1 hz.2.1 hz.2.2
end Go.Proofs.Ytaaocdgbflifhaa

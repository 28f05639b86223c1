/- The walk of ServoRises. -/
import Derived.Test.YtaaocdgbflifhaaServoTwin
import Derived.Deep.DeepCutAuto
namespace Go.Proofs.Ytaaocdgbflifhaa
open Go.RowKit Go.Lib

theorem rises_shapes {c : Pl.Conf} {s : Pl.St} {o o' p : Int} (hc : c.ok = true) (h : o ≤ o') {k v e k' v' e' : Int} (h1 : Pl.stepR c s o p = ⟨k, v, e⟩) (h2 : Pl.stepR c s o' p = ⟨k', v', e'⟩) :
    (e = 0 ∧ e' = 0 ∧ k = 1 ∧ k' = 1 ∧ v ≤ v') ∨ (e = 3 ∧ k = 0) ∨ (e = 0 ∧ e' = 3 ∧ k' = 0) ∨ (e = 0 ∧ e' = 0 ∧ k = 2) ∨ (e = 0 ∧ e' = 0 ∧ k = 1 ∧ k' = 2) := by
  unfold Pl.stepR at h1 h2
  cases ha : Pl.argsOk o p with
  | false =>
    rw [ha] at h1
    simp at h1
    exact .inr (.inl ⟨h1.2.2.symm, h1.1.symm⟩)
  | true =>
    rw [ha] at h1
    cases hb : Pl.argsOk o' p with
    | false =>
      rw [hb] at h2
      simp at h2
      refine .inr (.inr (.inl ⟨?_, h2.2.2.symm, h2.1.symm⟩))
      cases hs : Pl.isStep c s o <;> rw [hs] at h1 <;> simp at h1 <;> exact h1.2.2.symm
    | true =>
      rw [hb] at h2
      cases hs : Pl.isStep c s o with
      | true =>
        rw [hs] at h1
        simp at h1
        refine .inr (.inr (.inr (.inl ⟨h1.2.2.symm, ?_, h1.1.symm⟩)))
        cases ht : Pl.isStep c s o' <;> rw [ht] at h2 <;> simp at h2 <;> exact h2.2.2.symm
      | false =>
        rw [hs] at h1
        simp at h1
        cases ht : Pl.isStep c s o' with
        | true =>
          rw [ht] at h2
          simp at h2
          exact .inr (.inr (.inr (.inr ⟨h1.2.2.symm, h2.2.2.symm, h1.1.symm, h2.1.symm⟩)))
        | false =>
          rw [ht] at h2
          simp at h2
          refine .inl ⟨h1.2.2.symm, h2.2.2.symm, h1.1.symm, h2.1.symm, ?_⟩
          rw [← h1.2.1, ← h2.2.1]
          exact Pl.newF_mono hc (by have := (Pl.argsOk_iff.1 ha).2.1; omega) h

set_option maxRecDepth 100000 in
set_option maxHeartbeats 1000000 in
theorem servoRises_no (c : Pl.Conf) (hc : c.ok = false) (a : Option Addr) (len cap : Nat) (m n p : Int) (w : World) :
    Calls Try.prog 5 #[confV c, .slice a len cap, .int .i64 m, .int .i64 n, .int .i64 p] w fun e w' => e = .returned (.bool true) ∧ Below w.heap.size w w' := by
  have HC := Lib.hid hc
  clear hc
  go_enter Try.func5, Try.ntmps5
  go_wp2_with fail
  have HB := confBel w c
  have HK := confBlk w c
  go_region_held3 (fun w' => w'.cell? ⟨w.heap.size, 0, none⟩ = some (.int .i64 c.kp) ∧ w'.cell? ⟨w.heap.size, 1, none⟩ = some (.int .i64 c.ki) ∧ w'.cell? ⟨w.heap.size, 2, none⟩ = some (.int .i64 c.lim) ∧ w'.cell? ⟨w.heap.size, 3, none⟩ = some (.int .i64 c.sf) ∧ w'.cell? ⟨w.heap.size, 4, none⟩ = some (.int .i64 c.sl)) (first | exact cv_cells HK | exact cv_cells HK.drew) ((go_at_call 14; refine (snew_no c HC.out _).mono ?_; rintro e w1 ⟨rfl, l1⟩; have HB : Below w.heap.size w w1 := (by first | exact bel_on HB l1 | exact bel_on HB.drew l1); have HK : Blk w1 w.heap.size 23 (cv c) := (by first | exact HK.below_ l1 | exact HK.drew.below_ l1)))
  all_goals (
    obtain ⟨k0, k1, k2, k3, k4⟩ := cv_cells HK
    have kz := HK.lt
    go_wp2_with fail
    refine (scheck_no c HC.out _).mono ?_
    rintro e w2 ⟨rfl, l2⟩
    have HB := bel_on HB l2
    go_wp2_with fail
    refine (awake_any _).mono ?_
    rintro e w3 ⟨rfl, l3⟩
    have HB := bel_on HB l3
    go_wp2
    go_ret
    exact ⟨rfl, HB⟩)

set_option maxRecDepth 100000 in
set_option maxHeartbeats 1000000 in
theorem servoRises_ok (c : Pl.Conf) (hc : c.ok = true) (a : Option Addr) (len cap : Nat) (z : Nat → Nat → Int) (m n p : Int) (w : World) (hl : len ≤ cap) (hcap : cap ≤ maxLen) (hz : Deeds w a len z) :
    Calls Try.prog 5 #[confV c, .slice a len cap, .int .i64 m, .int .i64 n, .int .i64 p] w fun e w' => e = .returned (.bool true) ∧ Below w.heap.size w w' := by
  have HC := Lib.hid hc
  have HZ := Lib.hid hz
  have hf := fun W => first_any a len cap hl hcap W
  obtain ⟨N, hN⟩ : ∃ N, min len 200 = N := ⟨_, rfl⟩
  rw [hN] at hf
  have hN1 : N ≤ 200 := by omega
  have hN2 : N ≤ len := by omega
  have HF := Lib.hid hf
  clear hc hz hN hf
  go_enter Try.func5, Try.ntmps5
  go_upto_region 1 with fail
  go_cut [11, 12] (fun s5 s6 wx => ∃ b1 b2, s5 = .pointer (some ⟨b1, 0, none⟩) ∧ s6 = .pointer (some ⟨b2, 0, none⟩) ∧ Hid (Pair w wx 56 56 b1 b2 c ⟨0, 0, 0⟩ ⟨0, 0, 0⟩))
  case first =>
    have HB := confBel w c
    have HK := confBlk w c
    go_region_held3 (fun w' => w'.cell? ⟨w.heap.size, 0, none⟩ = some (.int .i64 c.kp) ∧ w'.cell? ⟨w.heap.size, 1, none⟩ = some (.int .i64 c.ki) ∧ w'.cell? ⟨w.heap.size, 2, none⟩ = some (.int .i64 c.lim) ∧ w'.cell? ⟨w.heap.size, 3, none⟩ = some (.int .i64 c.sf) ∧ w'.cell? ⟨w.heap.size, 4, none⟩ = some (.int .i64 c.sl)) (first | exact cv_cells HK | exact cv_cells HK.drew) ((go_at_call 14; refine (snew_yes c HC.out _).mono ?_; rintro e w1 ⟨b1, rfl, hb1, hk1, l1⟩; (first | (have HP := onn_pair HN l1 hb1 hk1) | (have HP := onn_pair HN.drew l1 hb1 hk1) | (have HN := onn_mk HB l1 hb1 hk1) | (have HN := onn_mk HB.drew l1 hb1 hk1)); have HK : Blk w1 w.heap.size 23 (cv c) := (by first | exact HK.below_ l1 | exact HK.drew.below_ l1)))
    all_goals (go_wp2_with fail; go_meet; first | exact ⟨_, _, rfl, rfl, Lib.hid HP⟩ | exact ⟨_, _, rfl, rfl, Lib.hid HP.swap⟩)
  case rest =>
    obtain ⟨b1, b2, rfl, rfl, HP⟩ := hcut
    have I0 := Lib.hid (show Pl.Inv c ⟨0, 0, 0⟩ from inv0 c HC.out)
    go_wp2_with fail
    refine (HF.out _).mono ?_
    rintro e w2 ⟨rfl, rfl⟩
    go_wp2_with fail
    go_loopw [38] (fun i wr => ∃ (k : Nat) (s : Pl.St), k ≤ N ∧ i = .int .i64 k ∧ Hid (Pl.Inv c s) ∧ s.n ≤ k ∧ Hid (Pair w wr 56 56 b1 b2 c s s)) (fun i _ => N - (RowKit.intOf i).toNat)
    case atStart => exact ⟨0, ⟨0, 0, 0⟩, by omega, rfl, I0, by show (0 : Int) ≤ (0 : Int); omega, HP⟩
    case round =>
      obtain ⟨k, s, hkN, rfl, hI, hn, hW⟩ := hrel
      have hn' : s.n ≤ 1000000 := by omega
      by_cases hlt : k < N
      · obtain ⟨bx, ox, rfl, hb1, hb2, c0, c1, c2⟩ := deeds_at HZ.out hW.out.2.2.1 (by omega : k < len)
        have hI' := Lib.hid (inv_does HC.out hI.out (z k 0) (z k 1) (z k 2))
        have hn2 := does_n hI.out (z k 0) (z k 1) (z k 2)
        obtain ⟨s', hs⟩ : ∃ s', doesS c s (z k 0) (z k 1) (z k 2) = s' := ⟨_, rfl⟩
        have HD := Lib.hid (fun b W (h : Blk W b 56 (sv c s)) => does_any b c s (z k 0) (z k 1) (z k 2) W h HC.out hI.out hn')
        rw [hs] at hI' hn2 HD
        have HP3 := hW.out.alloc (.cells #[.int .i64 (z k 0), .int .i64 (z k 1), .int .i64 (z k 2)] 38)
        have HO3 := hW.out.box 38 #[.int .i64 (z k 0), .int .i64 (z k 1), .int .i64 (z k 2)]
        clear hs hI hW
        go_wp2_with fail
        refine (HD.out b1 _ HP3.1).mono ?_
        rintro e w2 ⟨rfl, l2⟩
        have HP4 := HP3.one l2
        have HO4 := HO3.one l2
        clear l2 HP3 HO3
        have d0 : w2.cell? ⟨wr.heap.size, 0, none⟩ = some (.int .i64 (z k 0)) := HO4.1.cell 0
        have d1 : w2.cell? ⟨wr.heap.size, 1, none⟩ = some (.int .i64 (z k 1)) := HO4.1.cell 1
        have d2 : w2.cell? ⟨wr.heap.size, 2, none⟩ = some (.int .i64 (z k 2)) := HO4.1.cell 2
        have dz := HO4.1.lt
        go_wp2_with fail
        refine (HD.out b2 _ HP4.2.1).mono ?_
        rintro e w3 ⟨rfl, l3⟩
        have HP5 := Lib.hid (HP4.two l3)
        clear l3 HP4 HO4 HD
        go_wp2_with fail
        go_roundw
        case rel => exact ⟨k + 1, s', by omega, by go_num, hI', by omega, HP5⟩
        case measure => simp [RowKit.intOf]; omega
      · obtain rfl : k = N := by omega
        obtain ⟨x1, y1, f1, hR1⟩ : ∃ kk v x, Pl.stepR c s (min m n) p = ⟨kk, v, x⟩ := ⟨_, _, _, rfl⟩
        obtain ⟨s1, hs1⟩ : ∃ s', Pl.stepS c s (min m n) p = s' := ⟨_, rfl⟩
        obtain ⟨x2, y2, f2, hR2⟩ : ∃ kk v x, Pl.stepR c s (max m n) p = ⟨kk, v, x⟩ := ⟨_, _, _, rfl⟩
        obtain ⟨s2, hs2⟩ : ∃ s', Pl.stepS c s (max m n) p = s' := ⟨_, rfl⟩
        have hsh := Lib.hid (rises_shapes HC.out (show min m n ≤ max m n by omega) hR1 hR2)
        have H1 := Lib.hid (And.intro hR1 hs1)
        have H2 := Lib.hid (And.intro hR2 hs2)
        clear hR1 hR2 hs1 hs2
        go_wp2_with fail
        refine (ssample_as b1 c s _ _ _ _ _ _ H1 _ hW.out.1 HC.out hI.out hn').mono ?_
        rintro e w2 ⟨rfl, l2⟩
        have HP3 := hW.out.one l2
        have HQ3 := HP3.box 31 #[.int .i64 x1, .int .i64 y1]
        have HP3 := Lib.hid (HP3.alloc (.cells #[.int .i64 x1, .int .i64 y1] 31))
        clear l2 hW
        go_wp2_with fail
        refine (ssample_as b2 c s _ _ _ _ _ _ H2 _ HP3.out.2.1 HC.out hI.out hn').mono ?_
        rintro e w3 ⟨rfl, l3⟩
        have HP4 := HP3.out.two l3
        have HQ4 := HQ3.two l3
        have q0 : w3.cell? ⟨w2.heap.size, 0, none⟩ = some (.int .i64 x1) := HQ4.1.cell 0
        have q1 : w3.cell? ⟨w2.heap.size, 1, none⟩ = some (.int .i64 y1) := HQ4.1.cell 1
        have qz := HQ4.1.lt
        have HB := Lib.hid HP4.2.2.1
        clear l3 HP3 HQ3 HP4 HQ4 H1 H2 hI I0 HP
        rcases hsh.out with ⟨rfl, rfl, rfl, rfl, hv⟩ | ⟨rfl, rfl⟩ | ⟨rfl, rfl, rfl⟩ | ⟨rfl, rfl, rfl⟩ | ⟨rfl, rfl, rfl, rfl⟩
        all_goals (
          go_wp2_with fail
          refine (awake_any _).mono ?_
          rintro e w4 ⟨rfl, l4⟩
          go_wp2
          go_ret
          exact ⟨rfl, bel_then HB.out l4⟩)

theorem servoRises_walk (a b c d e : Int) (x : Option Addr) (len cap : Nat) (z : Nat → Nat → Int) (m n p : Int) (w : World) (_h : ∀ n ∈ [a, b, c, d, e], (Lit.int .i64 n).wf = true) (hz : len ≤ cap ∧ cap ≤ maxLen ∧ Deeds w x len z) (_h1 : (Lit.int .i64 m).wf = true) (_h2 : (Lit.int .i64 n).wf = true) (_h3 : (Lit.int .i64 p).wf = true) :
    Calls Try.prog 5 #[.agg ([a, b, c, d, e].map (Value.int .i64)).toArray, .slice x len cap, .int .i64 m, .int .i64 n, .int .i64 p] w fun e w' => e = .returned (.bool true) ∧ Below w.heap.size w w' := by
  cases hc : (⟨a, b, c, d, e⟩ : Pl.Conf).ok with
  | true => exact servoRises_ok ⟨a, b, c, d, e⟩ hc x len cap z m n p w hz.1 hz.2.1 hz.2.2
  | false => exact servoRises_no ⟨a, b, c, d, e⟩ hc x len cap m n p w

end Go.Proofs.Ytaaocdgbflifhaa

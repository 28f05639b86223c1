/- The walk of ServoSettles. -/
import Derived.Test.YtaaocdgbflifhaaServoAwake
namespace Go.Proofs.Ytaaocdgbflifhaa
open Go.RowKit Go.Lib

theorem tmod_bd (o m : Int) (hm : 0 < m) : -m < o.tmod m ∧ o.tmod m < m := by
  rcases Int.lt_or_le o 0 with h | h
  · obtain ⟨p, rfl⟩ : ∃ p, o = -p := ⟨-o, by omega⟩
    rw [Int.neg_tmod, Int.tmod_eq_emod_of_nonneg (by omega)]
    have h1 := Int.emod_nonneg p (show m ≠ 0 by omega)
    have h2 := Int.emod_lt_of_pos p hm
    omega
  · rw [Int.tmod_eq_emod_of_nonneg h]
    have h1 := Int.emod_nonneg o (show m ≠ 0 by omega)
    have h2 := Int.emod_lt_of_pos o hm
    omega

theorem settle_R (k : Nat) (x f : Int) (h1 : -500000 ≤ x) (h2 : x ≤ 500000) : Pl.stepR Pl.settleC ⟨0, k, f⟩ x 1000000000 = ⟨1, x / 2, 0⟩ ∧ Pl.stepS Pl.settleC ⟨0, k, f⟩ x 1000000000 = ⟨0, (k : Int) + 1, x / 2⟩ := by
  have ha : Pl.argsOk x 1000000000 = true := Pl.argsOk_iff.2 (by omega)
  have hs : Pl.isStep Pl.settleC ⟨0, k, f⟩ x = false := by
    unfold Pl.isStep Pl.thr
    show (decide (0 < if (k : Int) = 0 then (0 : Int) else 0) && _) = false
    rw [ite_self]
    rfl
  obtain ⟨e1, e2⟩ := Pl.settle_F ⟨0, k, f⟩ x h1 h2 rfl
  unfold Pl.stepR Pl.stepS
  rw [ha, hs, e1, e2]
  exact ⟨rfl, rfl⟩

set_option maxRecDepth 100000 in
set_option maxHeartbeats 1000000 in
theorem servoSettles_walk (o : Int) (w : World) (h : (Lit.int .i32 o).wf = true) :
    Calls Try.prog 4 #[.int .i32 o] w fun e w' => e = .returned (.bool true) ∧ Below w.heap.size w w' := by
  have ho : -2147483648 ≤ o ∧ o ≤ 2147483647 := by
    have hmin : IntKind.i32.min = -2147483648 := rfl
    have hmax : IntKind.i32.max = 2147483647 := rfl
    simp only [Lit.wf, Bool.and_eq_true, decide_eq_true_eq] at h
    omega
  obtain ⟨o1, o2⟩ := ho
  obtain ⟨t1, t2⟩ := tmod_bd o 500001 (by omega)
  obtain ⟨x0, hx0⟩ : ∃ x, o.tmod 500001 = x := ⟨_, rfl⟩
  rw [hx0] at t1 t2
  have hc : Pl.settleC.ok = true := by kernel_rfl
  have HC := Lib.hid hc
  clear h hc
  go_enter Try.func4, Try.ntmps4
  go_wp2_with fail
  refine (snew_yes Pl.settleC HC.out _).mono ?_
  rintro e w1 ⟨b, rfl, hb, hk, hl⟩
  have HK := Lib.hid (And.intro hk hl)
  clear hk hl
  go_wp2_with fail
  clear hx0 o1 o2
  go_loopw [4, 14] (fun x i wr => ∃ (k : Nat) (xn f : Int), k ≤ 20 ∧ x = .int .i64 xn ∧ i = .int .i64 k ∧ Hid (Pl.Near k xn) ∧ -500000 ≤ xn ∧ xn ≤ 500000 ∧ -500000 ≤ f ∧ f ≤ 500000 ∧ Hid (Blk wr b 56 (sv Pl.settleC ⟨0, k, f⟩) ∧ Below w.heap.size w wr)) (fun _ i _ => 20 - (RowKit.intOf i).toNat)
  case atStart => exact ⟨0, x0, 0, by omega, rfl, rfl, Pl.near_zero (by omega) (by omega), by omega, by omega, by omega, by omega, HK⟩
  case round =>
    obtain ⟨k, xn, f, hk20, rfl, rfl, hN, hx1, hx2, hf1, hf2, hW⟩ := hrel
    by_cases hlt : k < 20
    · have HR := Lib.hid (settle_R k xn f hx1 hx2)
      have hblk := hW.out.1.lt
      have hI : Pl.Inv Pl.settleC ⟨0, k, f⟩ := ⟨by show (-500000 : Int) ≤ 0; omega, by show (0 : Int) ≤ 500000; omega, hf1, hf2, by show (0 : Int) ≤ (k : Int); omega⟩
      have HI := Lib.hid hI
      clear hI
      go_wp2_with fail
      refine (ssample_as b Pl.settleC ⟨0, k, f⟩ xn 1000000000 1 (xn / 2) 0 ⟨0, (k : Int) + 1, xn / 2⟩ HR.out _ hW.out.1 HC.out HI.out (by show (k : Int) ≤ 1000000; omega)).mono ?_
      rintro e w2 ⟨rfl, m⟩
      have hB := Below.only hW.out.2 m.2 hb hW.out.2.size
      have hs2 := hB.size
      have HE := Lib.hid (And.intro (m.1.alloc (.cells #[.int .i64 1, .int .i64 (xn / 2)] 31)) (hB.alloc hs2 (.cells #[.int .i64 1, .int .i64 (xn / 2)] 31)))
      clear m hB HR HI
      go_wp2
      go_roundw
      case rel => exact ⟨k + 1, xn - xn / 2, xn / 2, by omega, rfl, by go_num, Pl.near_step hN.out, by omega, by omega, by omega, by omega, HE.out⟩
      case measure => simp [RowKit.intOf]; omega
    · obtain rfl : k = 20 := by omega
      obtain ⟨y1, y2⟩ := Pl.near_end hN.out
      go_wp2_with (go_at_call 15; refine (awake_any _).mono ?_; rintro e w2 ⟨rfl, hb2⟩)
      go_ret
      exact ⟨rfl, hW.out.2.trans (hb2.mono hW.out.2.size)⟩
end Go.Proofs.Ytaaocdgbflifhaa

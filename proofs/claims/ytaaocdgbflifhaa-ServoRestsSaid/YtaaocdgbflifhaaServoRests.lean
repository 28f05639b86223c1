/- The walk of ServoRests. -/
import Derived.Test.YtaaocdgbflifhaaServoPair
import Derived.Test.YtaaocdgbflifhaaServoTwin
import Derived.Test.YtaaocdgbflifhaaLaw
import Derived.Deep.DeepCutAuto
namespace Go.Proofs.Ytaaocdgbflifhaa
open Go.RowKit Go.Lib

theorem u32_bd {n : Int} (h : (Lit.int .u32 n).wf = true) : 0 ≤ n ∧ n ≤ 4294967295 := by
  have hmin : IntKind.u32.min = 0 := rfl
  have hmax : IntKind.u32.max = 4294967295 := rfl
  simp only [Lit.wf, Bool.and_eq_true, decide_eq_true_eq] at h
  omega

/-- the two servos and two actions in boxes -/
def Twx (w W : World) (b1 b2 : Nat) (c : Pl.Conf) (s s' : Pl.St) (g1 g2 : Nat) (x y u v : Int) : Prop :=
  Pair w W 56 56 b1 b2 c s s' ∧ Blk W g1 31 #[.int .i64 x, .int .i64 y] ∧ Blk W g2 31 #[.int .i64 u, .int .i64 v]
theorem Twx.on {w W W' : World} {b1 b2 g1 g2 : Nat} {c : Pl.Conf} {s s' : Pl.St} {x y u v : Int} (h : Twx w W b1 b2 c s s' g1 g2 x y u v) (k : Below W.heap.size W W') : Twx w W' b1 b2 c s s' g1 g2 x y u v := ⟨h.1.on k, h.2.1.below_ k, h.2.2.below_ k⟩
theorem Twx.drew {w W : World} {b1 b2 g1 g2 : Nat} {c : Pl.Conf} {s s' : Pl.St} {x y u v : Int} (h : Twx w W b1 b2 c s s' g1 g2 x y u v) : Twx w W.drew b1 b2 c s s' g1 g2 x y u v := ⟨h.1.drew, h.2.1.drew, h.2.2.drew⟩
theorem Twx.cells {w W : World} {b1 b2 g1 g2 : Nat} {c : Pl.Conf} {s s' : Pl.St} {x y u v : Int} (h : Twx w W b1 b2 c s s' g1 g2 x y u v) :
    W.cell? ⟨g1, 0, none⟩ = some (.int .i64 x) ∧ W.cell? ⟨g1, 1, none⟩ = some (.int .i64 y) ∧ W.cell? ⟨g2, 0, none⟩ = some (.int .i64 u) ∧ W.cell? ⟨g2, 1, none⟩ = some (.int .i64 v) := ⟨h.2.1.cell 0, h.2.1.cell 1, h.2.2.cell 0, h.2.2.cell 1⟩
theorem rest_step {c : Pl.Conf} {s : Pl.St} {p : Int} (hs : Pl.Inv c s) (h1 : 1 ≤ p) (h2 : p ≤ 4294967296) : Pl.stepR c s 0 p = ⟨1, s.g, 0⟩ ∧ Pl.stepS c s 0 p = ⟨s.g, s.n + 1, s.g⟩ := by
  have ha : Pl.argsOk 0 p = true := Pl.argsOk_iff.2 ⟨⟨by omega, by omega⟩, by omega, by omega⟩
  unfold Pl.stepR Pl.stepS
  rw [ha, Pl.rest_noStep, Pl.rest_newF hs, Pl.rest_newG hs]
  simp

set_option maxRecDepth 100000 in
set_option maxHeartbeats 1000000 in
theorem servoRests_no (c : Pl.Conf) (hc : c.ok = false) (a : Option Addr) (len cap : Nat) (p q : Int) (w : World) :
    Calls Try.prog 6 #[confV c, .slice a len cap, .int .u32 p, .int .u32 q] w fun e w' => e = .returned (.bool true) ∧ Below w.heap.size w w' := by
  have HC := Lib.hid hc
  clear hc
  go_enter Try.func6, Try.ntmps6
  go_wp2_with fail
  have HB := confBel w c
  have HK := confBlk w c
  go_region_held3 (fun w' => w'.cell? ⟨w.heap.size, 0, none⟩ = some (.int .i64 c.kp) ∧ w'.cell? ⟨w.heap.size, 1, none⟩ = some (.int .i64 c.ki) ∧ w'.cell? ⟨w.heap.size, 2, none⟩ = some (.int .i64 c.lim) ∧ w'.cell? ⟨w.heap.size, 3, none⟩ = some (.int .i64 c.sf) ∧ w'.cell? ⟨w.heap.size, 4, none⟩ = some (.int .i64 c.sl)) (first | exact cv_cells HK | exact cv_cells HK.drew) ((go_at_call 14; refine (snew_no c HC.out _).mono ?_; rintro e w1 ⟨rfl, l1⟩; have HB : Below w.heap.size w w1 := (by first | exact bel_on HB l1 | exact bel_on HB.drew l1); have HK : Blk w1 w.heap.size 23 (cv c) := (by first | exact HK.below_ l1 | exact HK.drew.below_ l1)))
  all_goals (
    obtain ⟨k0, k1, k2, k3, k4⟩ := cv_cells HK
    have kz := HK.lt
    go_wp2_with fail
    refine (scheck_no c HC.out _).mono ?_
    rintro e w2 ⟨rfl, l2⟩
    have HB := bel_on HB l2
    go_wp2_with fail
    refine (awake_any _).mono ?_
    rintro e w3 ⟨rfl, l3⟩
    have HB := bel_on HB l3
    go_wp2
    go_ret
    exact ⟨rfl, HB⟩)

set_option maxRecDepth 100000 in
set_option maxHeartbeats 1000000 in
theorem servoRests_ok (c : Pl.Conf) (hc : c.ok = true) (a : Option Addr) (len cap : Nat) (z : Nat → Nat → Int) (p q : Int) (w : World) (hl : len ≤ cap) (hcap : cap ≤ maxLen) (hz : Deeds w a len z) (hp1 : 0 ≤ p) (hp2 : p ≤ 4294967295) (hq1 : 0 ≤ q) (hq2 : q ≤ 4294967295) :
    Calls Try.prog 6 #[confV c, .slice a len cap, .int .u32 p, .int .u32 q] w fun e w' => e = .returned (.bool true) ∧ Below w.heap.size w w' := by
  have HC := Lib.hid hc
  have HZ := Lib.hid hz
  have hf := fun W => first_any a len cap hl hcap W
  obtain ⟨N, hN⟩ : ∃ N, min len 200 = N := ⟨_, rfl⟩
  rw [hN] at hf
  have hN1 : N ≤ 200 := by omega
  have hN2 : N ≤ len := by omega
  have HF := Lib.hid hf
  have HR := fun P (h1 : 0 ≤ P) (h2 : P ≤ 4294967295) (s : Pl.St) (hs : Pl.Inv c s) => rest_step (p := P + 1) hs (by omega) (by omega)
  have HR := Lib.hid HR
  clear hc hz hN hf
  go_enter Try.func6, Try.ntmps6
  go_upto_region 1 with fail
  go_cut [9, 10] (fun s5 s6 wx => ∃ b1 b2, s5 = .pointer (some ⟨b1, 0, none⟩) ∧ s6 = .pointer (some ⟨b2, 0, none⟩) ∧ Hid (Pair w wx 56 56 b1 b2 c ⟨0, 0, 0⟩ ⟨0, 0, 0⟩))
  case first =>
    have HB := confBel w c
    have HK := confBlk w c
    go_region_held3 (fun w' => w'.cell? ⟨w.heap.size, 0, none⟩ = some (.int .i64 c.kp) ∧ w'.cell? ⟨w.heap.size, 1, none⟩ = some (.int .i64 c.ki) ∧ w'.cell? ⟨w.heap.size, 2, none⟩ = some (.int .i64 c.lim) ∧ w'.cell? ⟨w.heap.size, 3, none⟩ = some (.int .i64 c.sf) ∧ w'.cell? ⟨w.heap.size, 4, none⟩ = some (.int .i64 c.sl)) (first | exact cv_cells HK | exact cv_cells HK.drew) ((go_at_call 14; refine (snew_yes c HC.out _).mono ?_; rintro e w1 ⟨b1, rfl, hb1, hk1, l1⟩; (first | (have HP := onn_pair HN l1 hb1 hk1) | (have HP := onn_pair HN.drew l1 hb1 hk1) | (have HN := onn_mk HB l1 hb1 hk1) | (have HN := onn_mk HB.drew l1 hb1 hk1)); have HK : Blk w1 w.heap.size 23 (cv c) := (by first | exact HK.below_ l1 | exact HK.drew.below_ l1)))
    all_goals (go_wp2_with fail; go_meet; first | exact ⟨_, _, rfl, rfl, Lib.hid HP⟩ | exact ⟨_, _, rfl, rfl, Lib.hid HP.swap⟩)
  case rest =>
    obtain ⟨b1, b2, rfl, rfl, HP⟩ := hcut
    have I0 := Lib.hid (show Pl.Inv c ⟨0, 0, 0⟩ from inv0 c HC.out)
    have e1 := Lib.hid (HR.out p hp1 hp2 ⟨0, 0, 0⟩ I0.out)
    go_wp2_with fail
    refine (ssample_as b2 c ⟨0, 0, 0⟩ 0 (p + 1) 1 0 0 ⟨0, 1, 0⟩ e1 _ HP.out.2.1 HC.out I0.out (by show (0 : Int) ≤ 1000000; omega)).mono ?_
    rintro e w1 ⟨rfl, l1⟩
    have HP1 := Lib.hid (HP.out.two l1)
    clear l1 HP
    go_wp2_with fail
    refine (HF.out _).mono ?_
    rintro e w2 ⟨rfl, rfl⟩
    have HP2 := Lib.hid (HP1.out.alloc (.cells #[.int .i64 1, .int .i64 0] 31))
    clear HP1 e1
    go_wp2_with fail
    go_loopw [53] (fun i wr => ∃ (k : Nat) (s : Pl.St), k ≤ N ∧ i = .int .i64 k ∧ Hid (Pl.Inv c s) ∧ s.n ≤ k ∧ Hid (Pair w wr 56 56 b1 b2 c s ⟨0, 1, 0⟩)) (fun i _ => N - (RowKit.intOf i).toNat)
    case atStart => exact ⟨0, ⟨0, 0, 0⟩, by omega, rfl, I0, by show (0 : Int) ≤ (0 : Int); omega, HP2⟩
    case round =>
      obtain ⟨k, s, hkN, rfl, hI, hn, hW⟩ := hrel
      have hn' : s.n ≤ 1000000 := by omega
      by_cases hlt : k < N
      · obtain ⟨bx, ox, rfl, hb1, hb2, c0, c1, c2⟩ := deeds_at HZ.out hW.out.2.2.1 (by omega : k < len)
        have hI' := Lib.hid (inv_does HC.out hI.out (z k 0) (z k 1) (z k 2))
        have hn2 := does_n hI.out (z k 0) (z k 1) (z k 2)
        obtain ⟨s', hs⟩ : ∃ s', doesS c s (z k 0) (z k 1) (z k 2) = s' := ⟨_, rfl⟩
        have HD := Lib.hid (does_any b1 c s (z k 0) (z k 1) (z k 2) _ (hW.out.alloc (.cells #[.int .i64 (z k 0), .int .i64 (z k 1), .int .i64 (z k 2)] 38)).1 HC.out hI.out hn')
        rw [hs] at hI' hn2 HD
        have HP3 := Lib.hid (hW.out.alloc (.cells #[.int .i64 (z k 0), .int .i64 (z k 1), .int .i64 (z k 2)] 38))
        clear hs hI hW
        go_wp2_with fail
        refine HD.out.mono ?_
        rintro e w2 ⟨rfl, l2⟩
        have HP4 := Lib.hid (HP3.out.one l2)
        clear l2 HP3 HD
        go_wp2_with fail
        go_roundw
        case rel => exact ⟨k + 1, s', by omega, by go_num, hI', by omega, HP4⟩
        case measure => simp [RowKit.intOf]; omega
      · obtain rfl : k = N := by omega
        have e2 := Lib.hid (HR.out p hp1 hp2 s hI.out)
        have hI' := Lib.hid (Pl.inv_step HC.out hI.out 0 (p + 1))
        rw [e2.out.2] at hI'
        have e3 := Lib.hid (HR.out q hq1 hq2 ⟨s.g, s.n + 1, s.g⟩ hI'.out)
        go_wp2_with fail
        refine (ssample_as b1 c s 0 (p + 1) 1 s.g 0 ⟨s.g, s.n + 1, s.g⟩ e2 _ hW.out.1 HC.out hI.out hn').mono ?_
        rintro e w2 ⟨rfl, l2⟩
        have HP3 := hW.out.one l2
        have HQ3 := HP3.box 31 #[.int .i64 1, .int .i64 s.g]
        have HP3 := Lib.hid (HP3.alloc (.cells #[.int .i64 1, .int .i64 s.g] 31))
        clear l2 hW
        go_wp2_with fail
        refine (ssample_as b1 c ⟨s.g, s.n + 1, s.g⟩ 0 (q + 1) 1 s.g 0 ⟨s.g, s.n + 1 + 1, s.g⟩ e3 _ HP3.out.1 HC.out hI'.out (by show s.n + 1 ≤ 1000000; omega)).mono ?_
        rintro e w3 ⟨rfl, l3⟩
        have HP4 := HP3.out.one l3
        have HQ4 := HQ3.one l3
        have K : Twx w (w3.alloc (.cells #[.int .i64 1, .int .i64 s.g] 31)) b1 b2 c ⟨s.g, s.n + 1 + 1, s.g⟩ ⟨0, 1, 0⟩ w2.heap.size w3.heap.size 1 s.g 1 s.g := ⟨HP4.alloc _, HQ4.1.alloc _, Blk.new w3 _ _⟩
        clear l3 HP3 HQ3 HP4 HQ4 e2 e3 hI hI' I0 HP2
        go_wp2_with fail
        go_region_held3 (fun w' => w'.cell? ⟨w2.heap.size, 0, none⟩ = some (.int .i64 1) ∧ w'.cell? ⟨w2.heap.size, 1, none⟩ = some (.int .i64 s.g) ∧ w'.cell? ⟨w3.heap.size, 0, none⟩ = some (.int .i64 1) ∧ w'.cell? ⟨w3.heap.size, 1, none⟩ = some (.int .i64 s.g)) (first | exact K.cells | exact K.drew.cells) ((first
          | (go_at_call 19; first | (refine (sfreq_any b1 c _ _ K.1.1).mono ?_; rintro e w4 ⟨rfl, rfl⟩) | (refine (sfreq_any b1 c _ _ K.drew.1.1).mono ?_; rintro e w4 ⟨rfl, rfl⟩; have K := K.drew))
          | (go_at_call 15; refine (awake_any _).mono ?_; rintro e w4 ⟨rfl, l4⟩; first | have K := K.on l4 | have K := K.drew.on l4)))
        all_goals (go_wp2; go_ret; exact ⟨rfl, K.1.2.2.1⟩)

theorem servoRests_walk (a b c d e : Int) (x : Option Addr) (len cap : Nat) (z : Nat → Nat → Int) (p q : Int) (w : World) (_h : ∀ n ∈ [a, b, c, d, e], (Lit.int .i64 n).wf = true) (hz : len ≤ cap ∧ cap ≤ maxLen ∧ Deeds w x len z) (h1 : (Lit.int .u32 p).wf = true) (h2 : (Lit.int .u32 q).wf = true) :
    Calls Try.prog 6 #[.agg ([a, b, c, d, e].map (Value.int .i64)).toArray, .slice x len cap, .int .u32 p, .int .u32 q] w fun e w' => e = .returned (.bool true) ∧ Below w.heap.size w w' := by
  cases hc : (⟨a, b, c, d, e⟩ : Pl.Conf).ok with
  | true => exact servoRests_ok ⟨a, b, c, d, e⟩ hc x len cap z p q w hz.1 hz.2.1 hz.2.2 (u32_bd h1).1 (u32_bd h1).2 (u32_bd h2).1 (u32_bd h2).2
  | false => exact servoRests_no ⟨a, b, c, d, e⟩ hc x len cap p q w
end Go.Proofs.Ytaaocdgbflifhaa

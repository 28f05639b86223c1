/- The walk of SysclockContinuous. -/
import Derived.Test.YtcdholgafojjoaaClockLaw
import Derived.Test.YtcdholgafojjoaaOpen
import Derived.Deep.DeepCutAuto
namespace Go.Proofs.Ytcdholgafojjoaa
namespace Pl
/-- a clock at its own reading -/
theorem now_self {s : CS} (h : s.ok = true) : nowE s s.raw = 0 ∧ nowT s s.raw = s.time := by
  obtain ⟨h1, h2, _⟩ := CS.ok_iff.1 h
  have e : nowE s s.raw = 0 := by
    unfold nowE
    rw [if_neg (by omega), if_neg (by omega), show s.raw - s.raw = 0 by omega, shown_zero h, if_pos (inn_iff.2 h2)]
  refine ⟨e, ?_⟩
  unfold nowT
  rw [if_pos e, show s.raw - s.raw = 0 by omega, shown_zero h]
theorem pend_self {s : CS} (h : s.ok = true) : pend s s.raw = s.left := by
  unfold pend
  rw [if_pos (now_self h).1]
  show leftAfter s (s.raw - s.raw) = s.left
  unfold leftAfter
  rw [show s.raw - s.raw = 0 by omega, part_zero]
  split <;> omega
theorem now_T {s : CS} {r : Int} (hn : nowE s r = 0) : nowT s r = shown s (r - s.raw) := by unfold nowT; rw [if_pos hn]
theorem cont_freq {s : CS} {r x T : Int} (h : s.ok = true) (hT : nowT s r = T) (hE : freqE s r x = 0) : ∃ L Q, freqS s r x = ⟨r, T, x, L, Q, s.steps⟩ := by
  have hn : nowE s r = 0 := by unfold freqE at hE; split at hE; exact hE; omega
  rw [now_T hn] at hT
  subst hT
  unfold freqS
  rw [if_pos hE]
  exact ⟨_, _, rfl⟩
theorem cont_slew {s : CS} {r x y T : Int} (h : s.ok = true) (hT : nowT s r = T) (hE : slewE s r x y = 0) : ∃ P Q, slewS s r x y = ⟨r, T, P, x, Q, s.steps⟩ := by
  have hn : nowE s r = 0 := by unfold slewE at hE; split at hE; exact hE; omega
  rw [now_T hn] at hT
  subst hT
  unfold slewS
  rw [if_pos hE]
  exact ⟨_, _, rfl⟩
theorem cont_step {s : CS} {r x T : Int} (h : s.ok = true) (hT : nowT s r = T) (hE : stepE s r x = 0) : ∃ P, stepS s r x = ⟨r, T + x, P, 0, 0, s.steps + 1⟩ := by
  have hn : nowE s r = 0 := by
    unfold stepE at hE
    split at hE
    · split at hE
      · assumption
      · rename_i c; exact absurd hE c
    · omega
  rw [now_T hn] at hT
  subst hT
  unfold stepS
  rw [if_pos hE]
  exact ⟨_, rfl⟩
end Pl
open Go.RowKit Go.Lib

/-- the boxes, and a clock laid behind them -/
def CR (w W : World) (b : Nat) (s : Pl.CS) (k r x y : Int) (S : Pl.CS) : Prop := SoB w W s k r x y ∧ Blk W b 51 (csA S) ∧ w.heap.size + 2 ≤ b
section
variable {w W W' : World} {b : Nat} {s S S' : Pl.CS} {k r x y : Int}
theorem CR.on (h : CR w W b s k r x y S) (l : Below W.heap.size W W') : CR w W' b s k r x y S := ⟨h.1.on l, h.2.1.below_ l, h.2.2⟩
theorem CR.drew (h : CR w W b s k r x y S) : CR w W.drew b s k r x y S := ⟨h.1.drew, h.2.1.drew, h.2.2⟩
theorem CR.turn (h : CR w W b s k r x y S) (l : LeftT 51 b S' W W') : CR w W' b s k r x y S' := ⟨h.1.turn l h.2.2, l.1, h.2.2⟩
end
/-- the clock shows T at r -/
def Shows (S : Pl.CS) (r T n : Int) : Prop := S.ok = true ∧ Pl.nowE S r = 0 ∧ Pl.nowT S r = T ∧ S.steps = n
theorem shows_at {r T P L Q n : Int} (h : (⟨r, T, P, L, Q, n⟩ : Pl.CS).ok = true) : Shows ⟨r, T, P, L, Q, n⟩ r T n := ⟨h, (Pl.now_self h).1, (Pl.now_self h).2, rfl⟩

set_option maxRecDepth 100000 in
theorem sysclockContinuous_no (s : Pl.CS) (k r x y : Int) (w : World) (h : s.ok = false) :
    Calls Try.prog 6 #[csV s, .agg #[.int .i64 k, .int .i64 r, .int .i64 x, .int .i64 y]] w fun e w' => e = .returned (.bool true) ∧ Below w.heap.size w w' := by
  have O := Lib.hid (cof_no s h)
  have K := soB_mk w s k r x y
  obtain ⟨k0, k1, k2, k3, k4, k5⟩ := cs_cells K.2.1
  have kz := K.2.1.lt
  clear h
  go_enter Try.func6, Try.ntmps6
  go_wp2_with fail
  refine (O.out _).mono ?_
  rintro _ w1 ⟨rfl, l1⟩
  have K := K.on l1
  go_wp2_with fail
  refine (cawake_any _).mono ?_
  rintro _ w2 ⟨rfl, l2⟩
  have K := K.on l2
  go_wp2
  go_ret
  exact ⟨rfl, K.1⟩

set_option maxRecDepth 100000 in
theorem sysclockContinuous_err (s : Pl.CS) (k r x y : Int) (w : World) (h : s.ok = true) (hn : Pl.nowE s r ≠ 0) :
    Calls Try.prog 6 #[csV s, .agg #[.int .i64 k, .int .i64 r, .int .i64 x, .int .i64 y]] w fun e w' => e = .returned (.bool true) ∧ Below w.heap.size w w' := by
  have O := Lib.hid (cof_yes s h)
  have K := soB_mk w s k r x y
  obtain ⟨k0, k1, k2, k3, k4, k5⟩ := cs_cells K.2.1
  have kz := K.2.1.lt
  obtain ⟨E, hE⟩ : ∃ E, Pl.nowE s r = E := ⟨_, rfl⟩
  have NO := Lib.hid (fun b W k => cnow_at (T := Pl.nowT s r) h rfl hE b W k)
  rw [hE] at hn
  have t : (E == 0) = false := by simp [hn]
  clear h hn hE
  go_enter Try.func6, Try.ntmps6
  go_wp2_with fail
  refine (O.out _).mono ?_
  rintro _ w1 ⟨b, rfl, hb, kb, l1⟩
  clear k0 k1 k2 k3 k4 k5 kz
  have K : CR w w1 b s k r x y s := ⟨K.on l1, kb, by simpa using hb⟩
  clear hb kb l1
  obtain ⟨c0, c1, c2, c3⟩ := K.1.op
  have cz := K.1.2.2.lt
  go_wp2_with fail
  refine (NO.out b _ K.2.1).mono ?_
  rintro _ w2 ⟨rfl, l2⟩
  have K := K.on l2
  go_wp2_with fail
  refine (cawake_any _).mono ?_
  rintro _ w3 ⟨rfl, l3⟩
  have K := K.on l3
  go_wp2
  go_ret
  exact ⟨rfl, K.1.1⟩

set_option maxRecDepth 100000 in
set_option maxHeartbeats 4000000 in
theorem sysclockContinuous_yes (s : Pl.CS) (k r x y : Int) (w : World) (h : s.ok = true) (hn : Pl.nowE s r = 0) (hs : s.steps ≤ 9223372036854775807) :
    Calls Try.prog 6 #[csV s, .agg #[.int .i64 k, .int .i64 r, .int .i64 x, .int .i64 y]] w fun e w' => e = .returned (.bool true) ∧ Below w.heap.size w w' := by
  have O := Lib.hid (cof_yes s h)
  have K := soB_mk w s k r x y
  obtain ⟨k0, k1, k2, k3, k4, k5⟩ := cs_cells K.2.1
  have kz := K.2.1.lt
  obtain ⟨T, hT⟩ : ∃ T, Pl.nowT s r = T := ⟨_, rfl⟩
  obtain ⟨n, hn0⟩ : ∃ n, s.steps = n := ⟨_, rfl⟩
  have NO := Lib.hid (cnow_at h hT hn)
  have hTb : -4503599627370496 ≤ T ∧ T ≤ 4503599627370496 := by
    have := (Pl.CS.ok_iff.1 (Pl.moved_ok h hn).1).2.1
    rw [Pl.now_T hn] at hT
    rw [← hT]
    exact this
  have SH : Hid (Shows s r T n) := Lib.hid ⟨h, hn, hT, hn0⟩
  rw [hn0] at hs
  have hfl0 : ∀ (x0 x1 x2 x3 x4 x5 : Value) (w : World), (Instr.field 23 (.agg #[x0, x1, x2, x3, x4, x5]) 0).run Try.prog w = .ok x0 w := fun _ _ _ _ _ _ _ => by kernel_rfl
  have hfl2 : ∀ (x0 x1 x2 x3 x4 x5 : Value) (w : World), (Instr.field 23 (.agg #[x0, x1, x2, x3, x4, x5]) 2).run Try.prog w = .ok x2 w := fun _ _ _ _ _ _ _ => by kernel_rfl
  have hfl5 : ∀ (x0 x1 x2 x3 x4 x5 : Value) (w : World), (Instr.field 23 (.agg #[x0, x1, x2, x3, x4, x5]) 5).run Try.prog w = .ok x5 w := fun _ _ _ _ _ _ _ => by kernel_rfl
  clear h hn hT hn0
  go_enter Try.func6, Try.ntmps6
  go_wp2_with fail
  refine (O.out _).mono ?_
  rintro _ w1 ⟨b, rfl, hb, kb, l1⟩
  clear k0 k1 k2 k3 k4 k5 kz
  have K : CR w w1 b s k r x y s := ⟨K.on l1, kb, by simpa using hb⟩
  clear hb kb l1
  obtain ⟨c0, c1, c2, c3⟩ := K.1.op
  have cz := K.1.2.2.lt
  go_wp2_with fail
  refine (NO.out b _ K.2.1).mono ?_
  rintro _ w2 ⟨rfl, l2⟩
  clear c0 c1 c2 c3 cz
  have K := K.on l2
  have HK := Lib.hid K
  clear l2 K NO
  have sh := SH.out
  obtain ⟨E1, hE1⟩ : ∃ E1, Pl.freqE s r x = E1 := ⟨_, rfl⟩
  obtain ⟨S1, hS1⟩ : ∃ S1, Pl.freqS s r x = S1 := ⟨_, rfl⟩
  have F := Lib.hid (cfreq_at sh.1 hE1 hS1)
  have ok1 : S1.ok = true := hS1 ▸ Pl.freq_ok sh.1
  have HE := Lib.hid (And.intro hE1 hS1)
  clear hE1 hS1
  have K := HK.out
  obtain ⟨c0, c1, c2, c3⟩ := K.1.op
  have cz := K.1.2.2.lt
  go_wp2_with fail
  refine (F.out b _ K.2.1).mono ?_
  rintro _ w3 ⟨rfl, l3⟩
  clear c0 c1 c2 c3 cz
  have HK1 := Lib.hid (K.turn l3)
  clear l3 K F
  go_upto_if 36 with fail
  go_cut [] (fun wx => ∃ S' n', Hid (CR w wx b s k r x y S') ∧ Hid (Shows S' r T n') ∧ n' ≤ 9223372036854775807)
  case first =>
    by_cases e0 : E1 = 0
    · subst e0
      obtain ⟨L, Q, hq⟩ := Pl.cont_freq sh.1 sh.2.2.1 HE.out.1
      rw [HE.out.2, sh.2.2.2] at hq
      subst hq
      clear sh HE
      have sh1 := shows_at ok1
      have NO := Lib.hid (cnow_at ok1 sh1.2.2.1 sh1.2.1)
      have PE := Lib.hid (cpend_at ok1 (Pl.pend_self ok1))
      have HS := Lib.hid sh1
      clear sh1 ok1

      have K := HK1.out
      obtain ⟨c0, c1, c2, c3⟩ := K.1.op
      have cz := K.1.2.2.lt
      go_wp2_with fail
      refine (NO.out b _ K.2.1).mono ?_
      rintro _ w4 ⟨rfl, l4⟩
      clear c0 c1 c2 c3 cz
      have K := K.on l4
      clear l4 HK1
      obtain ⟨c0, c1, c2, c3⟩ := K.1.op
      have cz := K.1.2.2.lt
      go_wp2_with fail
      have STA := Lib.hid (fun W (k : Blk W b 51 (csA ⟨r, T, x, L, Q, n⟩)) => (cstate_any b ⟨r, T, x, L, Q, n⟩ W k : Calls Try.prog 13 #[.pointer (some ⟨b, 0, none⟩)] W fun e w' => e = .returned (.agg #[.int .i64 r, .int .i64 T, .int .i64 x, .int .i64 L, .int .i64 Q, .int .i64 n]) ∧ Below W.heap.size W w'))
      go_region_held3 (fun w' => w'.cell? ⟨w.heap.size + 1, 0, none⟩ = some (.int .i64 k) ∧ w'.cell? ⟨w.heap.size + 1, 1, none⟩ = some (.int .i64 r) ∧ w'.cell? ⟨w.heap.size + 1, 2, none⟩ = some (.int .i64 x) ∧ w'.cell? ⟨w.heap.size + 1, 3, none⟩ = some (.int .i64 y)) (first | exact K.1.op | exact K.drew.1.op) ((go_at_call 13; refine (STA.out _ (by first | exact K.2.1 | exact K.drew.2.1)).mono ?_; rintro _ w5 ⟨rfl, l5⟩; have K : CR w w5 b s k r x y ⟨r, T, x, L, Q, n⟩ := (by first | exact K.on l5 | exact K.drew.on l5)))
      all_goals (go_wp2_with fail; go_meet; exact ⟨_, _, Lib.hid K, HS, hs⟩)
    · have t : (E1 == 0) = false := by simp [e0]
      have e3 : S1 = s := by rw [← HE.out.2]; unfold Pl.freqS; rw [if_neg (by rw [HE.out.1]; exact e0)]
      subst e3
      clear e0 HE sh ok1
      go_wp2_with fail
      go_meet
      exact ⟨_, _, HK1, SH, hs⟩
  case rest =>
    obtain ⟨S2, n2, HK2, SH2, hs2⟩ := hcut
    clear HK SH hs
    have hs := hs2
    clear hs2
    have sh := SH2.out
    obtain ⟨E1, hE1⟩ : ∃ E1, Pl.slewE S2 r x y = E1 := ⟨_, rfl⟩
    obtain ⟨S1, hS1⟩ : ∃ S1, Pl.slewS S2 r x y = S1 := ⟨_, rfl⟩
    have F := Lib.hid (cslew_at sh.1 hE1 hS1)
    have ok1 : S1.ok = true := hS1 ▸ Pl.slew_ok sh.1
    have HE := Lib.hid (And.intro hE1 hS1)
    clear hE1 hS1
    have K := HK2.out
    obtain ⟨c0, c1, c2, c3⟩ := K.1.op
    have cz := K.1.2.2.lt
    go_wp2_with fail
    refine (F.out b _ K.2.1).mono ?_
    rintro _ w3 ⟨rfl, l3⟩
    clear c0 c1 c2 c3 cz
    have HK1 := Lib.hid (K.turn l3)
    clear l3 K F
    go_upto_if 75 with fail
    go_cut [] (fun wx => ∃ S' n', Hid (CR w wx b s k r x y S') ∧ Hid (Shows S' r T n') ∧ n' ≤ 9223372036854775807)
    case first =>
      by_cases e0 : E1 = 0
      · subst e0
        obtain ⟨P, Q, hq⟩ := Pl.cont_slew sh.1 sh.2.2.1 HE.out.1
        rw [HE.out.2, sh.2.2.2] at hq
        subst hq
        clear sh HE
        have sh1 := shows_at ok1
        have NO := Lib.hid (cnow_at ok1 sh1.2.2.1 sh1.2.1)
        have PE := Lib.hid (cpend_at ok1 (Pl.pend_self ok1))
        have HS := Lib.hid sh1
        clear sh1 ok1

        have K := HK1.out
        obtain ⟨c0, c1, c2, c3⟩ := K.1.op
        have cz := K.1.2.2.lt
        go_wp2_with fail
        refine (NO.out b _ K.2.1).mono ?_
        rintro _ w4 ⟨rfl, l4⟩
        clear c0 c1 c2 c3 cz
        have K := K.on l4
        clear l4 HK1
        obtain ⟨c0, c1, c2, c3⟩ := K.1.op
        have cz := K.1.2.2.lt
        go_wp2_with fail
        go_region_held3 (fun w' => w'.cell? ⟨w.heap.size + 1, 0, none⟩ = some (.int .i64 k) ∧ w'.cell? ⟨w.heap.size + 1, 1, none⟩ = some (.int .i64 r) ∧ w'.cell? ⟨w.heap.size + 1, 2, none⟩ = some (.int .i64 x) ∧ w'.cell? ⟨w.heap.size + 1, 3, none⟩ = some (.int .i64 y)) (first | exact K.1.op | exact K.drew.1.op) ((go_at_call 23; refine (PE.out b _ (by first | exact K.2.1 | exact K.drew.2.1)).mono ?_; rintro _ w5 ⟨rfl, l5⟩; have K : CR w w5 b s k r x y ⟨r, T, P, x, Q, n2⟩ := (by first | exact K.on l5 | exact K.drew.on l5)))
        all_goals (go_wp2_with fail; go_meet; exact ⟨_, _, Lib.hid K, HS, hs⟩)
      · have t : (E1 == 0) = false := by simp [e0]
        have e3 : S1 = S2 := by rw [← HE.out.2]; unfold Pl.slewS; rw [if_neg (by rw [HE.out.1]; exact e0)]
        subst e3
        clear e0 HE sh ok1
        go_wp2_with fail
        go_meet
        exact ⟨_, _, HK1, SH2, hs⟩
    case rest =>
      obtain ⟨S3, n3, HK3, SH3, hs3⟩ := hcut
      clear HK2 SH2 hs
      have hs := hs3
      clear hs3
      have STA := Lib.hid (fun W (k : Blk W b 51 (csA S3)) => (cstate_any b S3 W k : Calls Try.prog 13 #[.pointer (some ⟨b, 0, none⟩)] W fun e W' => e = .returned (.agg #[.int .i64 S3.raw, .int .i64 S3.time, .int .i64 S3.ppb, .int .i64 S3.left, .int .i64 S3.rate, .int .i64 S3.steps]) ∧ Below W.heap.size W W'))
      go_wp2_with fail
      refine (STA.out _ HK3.out.2.1).mono ?_
      rintro _ w5 ⟨rfl, l5⟩
      have HK4 := Lib.hid (HK3.out.on l5)
      clear l5 HK3 STA
      have sh := SH3.out
      obtain ⟨E1, hE1⟩ : ∃ E1, Pl.stepE S3 r x = E1 := ⟨_, rfl⟩
      obtain ⟨S1, hS1⟩ : ∃ S1, Pl.stepS S3 r x = S1 := ⟨_, rfl⟩
      have F := Lib.hid (cstep_at sh.1 (by rw [sh.2.2.2]; exact hs) hE1 hS1)
      have ok1 : S1.ok = true := hS1 ▸ Pl.step_ok sh.1
      have HE := Lib.hid (And.intro hE1 hS1)
      clear hE1 hS1
      have K := HK4.out
      obtain ⟨c0, c1, c2, c3⟩ := K.1.op
      have cz := K.1.2.2.lt
      go_wp2_with fail
      refine (F.out b _ K.2.1).mono ?_
      rintro _ w3 ⟨rfl, l3⟩
      clear c0 c1 c2 c3 cz
      have HK1 := Lib.hid (K.turn l3)
      clear l3 K F
      go_upto_if 108 with fail
      go_cut [] (fun wx => ∃ S', Hid (CR w wx b s k r x y S'))
      case first =>
        by_cases e0 : E1 = 0
        · subst e0
          obtain ⟨P, hq⟩ := Pl.cont_step sh.1 sh.2.2.1 HE.out.1
          rw [HE.out.2] at hq
          subst hq
          clear sh HE
          have sh1 := shows_at ok1
          have NO := Lib.hid (cnow_at ok1 sh1.2.2.1 sh1.2.1)
          have PE := Lib.hid (cpend_at ok1 (Pl.pend_self ok1))
          have HS := Lib.hid sh1
          clear sh1 ok1
          have ok1 := HS.out.1
          have hb1 := (Pl.CS.ok_iff.1 ok1).2.1
          have hb2 : -4503599627370496 ≤ T + x ∧ T + x ≤ 4503599627370496 := hb1
          clear hb1 ok1
          have kw : IntKind.i64.wrap (T + x - T) = T + x - T := IntWalk.i64_in _ (by omega)
          have t3 : (T + x - T == x) = true := by rw [show T + x - T = x by omega]; simp
          have kw2 : IntKind.i64.wrap (S3.steps + 1 - S3.steps) = S3.steps + 1 - S3.steps := IntWalk.i64_in _ (by omega)
          have t4 : (S3.steps + 1 - S3.steps == 1) = true := by rw [show S3.steps + 1 - S3.steps = 1 by omega]; simp
          have K := HK1.out
          obtain ⟨c0, c1, c2, c3⟩ := K.1.op
          have cz := K.1.2.2.lt
          go_wp2_with fail
          refine (NO.out b _ K.2.1).mono ?_
          rintro _ w4 ⟨rfl, l4⟩
          clear c0 c1 c2 c3 cz
          have K := K.on l4
          clear l4 HK1
          obtain ⟨c0, c1, c2, c3⟩ := K.1.op
          have cz := K.1.2.2.lt
          go_wp2_with fail
          have STA := Lib.hid (fun W (k : Blk W b 51 (csA ⟨r, T + x, P, 0, 0, S3.steps + 1⟩)) => (cstate_any b ⟨r, T + x, P, 0, 0, S3.steps + 1⟩ W k : Calls Try.prog 13 #[.pointer (some ⟨b, 0, none⟩)] W fun e w' => e = .returned (.agg #[.int .i64 r, .int .i64 (T + x), .int .i64 P, .int .i64 0, .int .i64 0, .int .i64 (S3.steps + 1)]) ∧ Below W.heap.size W w'))
          refine (PE.out b _ K.2.1).mono ?_
          rintro _ w5 ⟨rfl, l5⟩
          have K := K.on l5
          go_wp2_with fail
          refine (STA.out _ K.2.1).mono ?_
          rintro _ w6 ⟨rfl, l6⟩
          have K := K.on l6
          go_wp2_with fail
          go_meet
          exact ⟨_, Lib.hid K⟩
        · have t : (E1 == 0) = false := by simp [e0]
          have e3 : S1 = S3 := by rw [← HE.out.2]; unfold Pl.stepS; rw [if_neg (by rw [HE.out.1]; exact e0)]
          subst e3
          clear e0 HE sh ok1
          go_wp2_with fail
          go_meet
          exact ⟨_, HK1⟩
      case rest =>
        obtain ⟨S4, HK5⟩ := hcut
        go_wp2_with fail
        refine (cawake_any _).mono ?_
        rintro _ w7 ⟨rfl, l7⟩
        have K := HK5.out.on l7
        go_wp2
        go_ret
        exact ⟨rfl, K.1.1⟩

theorem sysclockContinuous_walk (a b c d e f k r x y : Int) (w : World) (h : ∀ n ∈ [a, b, c, d, e, f], (Lit.int .i64 n).wf = true) (_h2 : ∀ n ∈ [k, r, x, y], (Lit.int .i64 n).wf = true) :
    Calls Try.prog 6 #[.agg ([a, b, c, d, e, f].map (Value.int .i64)).toArray, .agg ([k, r, x, y].map (Value.int .i64)).toArray] w fun e w' => e = .returned (.bool true) ∧ Below w.heap.size w w' := by
  have hf := (int_bd (h f (by simp))).2
  cases hs : (⟨a, b, c, d, e, f⟩ : Pl.CS).ok with
  | false => exact sysclockContinuous_no ⟨a, b, c, d, e, f⟩ k r x y w hs
  | true =>
    by_cases hn : Pl.nowE ⟨a, b, c, d, e, f⟩ r = 0
    · exact sysclockContinuous_yes ⟨a, b, c, d, e, f⟩ k r x y w hs hn hf
    · exact sysclockContinuous_err ⟨a, b, c, d, e, f⟩ k r x y w hs hn
end Go.Proofs.Ytcdholgafojjoaa

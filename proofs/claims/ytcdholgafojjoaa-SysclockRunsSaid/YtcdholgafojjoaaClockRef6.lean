/- Contracts of the reference's Freq, Slew, Step, Pending, State. -/
import Derived.Test.YtcdholgafojjoaaClockRef5
import Derived.Test.YtcdholgafojjoaaClockCall
namespace Go.Proofs.Ytcdholgafojjoaa
open Go.RowKit Go.Lib

theorem sixT {T : TypeId} {b : Nat} {s : Pl.CS} (n : Pl.CS) {w W : World} (h : Blk W b T (csA s)) (k : w.grownBy W (some b)) : LeftT T b n w ((((((W.setCell ⟨b, 0, none⟩ (.int .i64 n.raw)).setCell ⟨b, 1, none⟩ (.int .i64 n.time)).setCell ⟨b, 2, none⟩ (.int .i64 n.ppb)).setCell ⟨b, 3, none⟩ (.int .i64 n.left)).setCell ⟨b, 4, none⟩ (.int .i64 n.rate)).setCell ⟨b, 5, none⟩ (.int .i64 n.steps)) := by
  refine ⟨?_, ?_⟩
  · have := (((((h.set_ 0 (.int .i64 n.raw)).set_ 1 (.int .i64 n.time)).set_ 2 (.int .i64 n.ppb)).set_ 3 (.int .i64 n.left)).set_ 4 (.int .i64 n.rate)).set_ 5 (.int .i64 n.steps)
    exact this
  · exact only_setCell (only_setCell (only_setCell (only_setCell (only_setCell (only_setCell k (.inl rfl) _) (.inl rfl) _) (.inl rfl) _) (.inl rfl) _) (.inl rfl) _) (.inl rfl) _
theorem leftT_more {T : TypeId} {b : Nat} {n : Pl.CS} {w W : World} (h : LeftT T b n w W) (x : Obj) : LeftT T b n w (W.alloc x) := ⟨h.1.alloc x, only_alloc h.2 x⟩
theorem leftT_refl {T : TypeId} {b : Nat} {n : Pl.CS} {w : World} (h : Blk w b T (csA n)) : LeftT T b n w w := ⟨h, only_refl _ _⟩

set_option maxHeartbeats 1000000 in
theorem rfreq_at {s : Pl.CS} {raw x : Int} (h : s.ok = true) {E : Int} {N : Pl.CS} (hE : Pl.freqE s raw x = E) (hN : Pl.freqS s raw x = N) (b : Nat) (w : World) (hk : Blk w b 53 (csA s)) :
    Calls Try.prog 28 #[.pointer (some ⟨b, 0, none⟩), .int .i64 raw, .int .i64 x] w fun e w' => e = .returned (.int .i64 E) ∧ LeftT 53 b N w w' := by
  have HK := Lib.hid hk
  have WI := fun W => rin_any x 500000 W (by omega) (by omega)
  cases hi : Pl.inn x 500000 with
  | false =>
    have e1 : Pl.freqE s raw x = 3 := by unfold Pl.freqE; rw [hi]; simp
    have e2 : Pl.freqS s raw x = s := by unfold Pl.freqS; rw [e1]; simp
    rw [e1] at hE
    rw [e2] at hN
    subst hE hN
    rw [hi] at WI
    replace WI := Lib.hid WI
    clear e1 e2 hi h hk
    go_enter Try.func28, Try.ntmps28
    go_wp2_with fail
    refine (WI.out _).mono ?_
    rintro _ w1 ⟨rfl, rfl⟩
    go_wp2
    go_ret
    exact ⟨rfl, leftT_refl HK.out⟩
  | true =>
    have e1 : Pl.freqE s raw x = Pl.nowE s raw := by unfold Pl.freqE; rw [hi]; simp
    rw [hi] at WI
    replace WI := Lib.hid WI
    rw [e1] at hE
    by_cases c : E = 0
    · have e2 : Pl.freqS s raw x = Pl.withPPB (Pl.moved s raw) x := by unfold Pl.freqS; rw [e1, hE, if_pos c]
      rw [e2] at hN
      subst hN
      subst c
      have MV := fun W k => rmoved_yes b s raw W k h hE
      obtain ⟨m, hm⟩ : ∃ m, Pl.moved s raw = m := ⟨_, rfl⟩
      rw [hm] at MV ⊢
      replace MV := Lib.hid MV
      clear e1 e2 hi h hk hE hm
      go_enter Try.func28, Try.ntmps28
      go_wp2_with fail
      refine (WI.out _).mono ?_
      rintro _ w1 ⟨rfl, rfl⟩
      go_wp2_with fail
      refine (MV.out _ HK.out).mono ?_
      rintro _ w1 ⟨rfl, l1⟩
      have K1 := HK.out.below_ l1
      have f0 := K1.frozen 0
      have f1 := K1.frozen 1
      have f2 := K1.frozen 2
      have f3 := K1.frozen 3
      have f4 := K1.frozen 4
      have f5 := K1.frozen 5
      obtain ⟨k0, k1, k2, k3, k4, k5⟩ := cs_cells K1
      have kz := K1.lt
      have hne : ¬ b = w1.heap.size := by omega
      have hne2 : ¬ w1.heap.size = b := by omega
      have HK1 := Lib.hid K1
      have HB := Lib.hid (only_of_below l1 (some b))
      clear K1 l1
      go_wp2_with fail
      go_ret
      exact ⟨rfl, leftT_more (sixT (Pl.withPPB m x) HK1.out HB.out) _⟩
    · have e2 : Pl.freqS s raw x = s := by unfold Pl.freqS; rw [e1, hE, if_neg c]
      rw [e2] at hN
      subst hN
      have MV := Lib.hid (fun W k => rmoved_no b s raw E W k h hE c)
      have t : (E == 0) = false := by simp [c]
      have t' : (E != 0) = true := by simp [c]
      clear e1 e2 hi h hk hE c
      go_enter Try.func28, Try.ntmps28
      go_wp2_with fail
      refine (WI.out _).mono ?_
      rintro _ w1 ⟨rfl, rfl⟩
      go_wp2_with fail
      refine (MV.out _ HK.out).mono ?_
      rintro _ w1 ⟨rfl, l1⟩
      go_wp2_with fail
      go_ret
      exact ⟨rfl, leftT_same HK.out (bel_more l1 _)⟩

set_option maxHeartbeats 1000000 in
theorem rslew_at {s : Pl.CS} {raw x y : Int} (h : s.ok = true) {E : Int} {N : Pl.CS} (hE : Pl.slewE s raw x y = E) (hN : Pl.slewS s raw x y = N) (b : Nat) (w : World) (hk : Blk w b 53 (csA s)) :
    Calls Try.prog 29 #[.pointer (some ⟨b, 0, none⟩), .int .i64 raw, .int .i64 x, .int .i64 y] w fun e w' => e = .returned (.int .i64 E) ∧ LeftT 53 b N w w' := by
  have HK := Lib.hid hk
  have WI := fun W => rin_any x 4503599627370496 W (by omega) (by omega)
  cases hs : Pl.slewOk x y with
  | false =>
    have e1 : Pl.slewE s raw x y = 3 := by unfold Pl.slewE; rw [hs]; simp
    have e2 : Pl.slewS s raw x y = s := by unfold Pl.slewS; rw [e1]; simp
    rw [e1] at hE
    rw [e2] at hN
    subst hE hN
    unfold Pl.slewOk at hs
    have hc : Pl.inn x 4503599627370496 = false ∨ (Pl.inn x 4503599627370496 = true ∧ decide (y < 1) = true) ∨ (Pl.inn x 4503599627370496 = true ∧ decide (y < 1) = false ∧ decide (500000 < y) = true) := by
      cases hi : Pl.inn x 4503599627370496
      · exact .inl rfl
      · rw [hi] at hs
        by_cases q : y < 1
        · exact .inr (.inl ⟨rfl, by simp [q]⟩)
        · refine .inr (.inr ⟨rfl, by simp; omega, ?_⟩)
          simp at hs
          simp
          omega
    clear e1 e2 hs h hk
    rcases hc with hi | ⟨hi, t1⟩ | ⟨hi, t1, t2⟩
    all_goals (
      rw [hi] at WI
      replace WI := Lib.hid WI
      clear hi
      go_enter Try.func29, Try.ntmps29
      go_wp2_with fail
      refine (WI.out _).mono ?_
      rintro _ w1 ⟨rfl, rfl⟩
      go_wp2
      go_ret
      exact ⟨rfl, leftT_refl HK.out⟩)
  | true =>
    have e1 : Pl.slewE s raw x y = Pl.nowE s raw := by unfold Pl.slewE; rw [hs]; simp
    unfold Pl.slewOk at hs
    simp only [Bool.and_eq_true, decide_eq_true_eq] at hs
    rw [hs.1.1] at WI
    replace WI := Lib.hid WI
    have t1 : decide (y < 1) = false := by simp; omega
    have t2 : decide (500000 < y) = false := by simp; omega
    rw [e1] at hE
    by_cases c : E = 0
    · have e2 : Pl.slewS s raw x y = Pl.withSlew (Pl.moved s raw) x y := by unfold Pl.slewS; rw [e1, hE, if_pos c]
      rw [e2] at hN
      subst hN
      subst c
      have MV := fun W k => rmoved_yes b s raw W k h hE
      obtain ⟨m, hm⟩ : ∃ m, Pl.moved s raw = m := ⟨_, rfl⟩
      rw [hm] at MV ⊢
      replace MV := Lib.hid MV
      clear e1 e2 hs h hk hE hm
      by_cases z : x = 0
      · have t3 : (x == 0) = true := by simp [z]
        have e : Pl.withSlew m x y = ⟨m.raw, m.time, m.ppb, x, 0, m.steps⟩ := by unfold Pl.withSlew; rw [if_pos z]
        rw [e]
        clear z e
        go_enter Try.func29, Try.ntmps29
        go_wp2_with fail
        refine (WI.out _).mono ?_
        rintro _ w1 ⟨rfl, rfl⟩
        go_wp2_with fail
        refine (MV.out _ HK.out).mono ?_
        rintro _ w1 ⟨rfl, l1⟩
        have K1 := HK.out.below_ l1
        have f0 := K1.frozen 0
        have f1 := K1.frozen 1
        have f2 := K1.frozen 2
        have f3 := K1.frozen 3
        have f4 := K1.frozen 4
        have f5 := K1.frozen 5
        obtain ⟨k0, k1, k2, k3, k4, k5⟩ := cs_cells K1
        have kz := K1.lt
        have hne : ¬ b = w1.heap.size := by omega
        have hne2 : ¬ w1.heap.size = b := by omega
        have HK1 := Lib.hid K1
        have HB := Lib.hid (only_of_below l1 (some b))
        clear K1 l1
        go_wp2_with fail
        go_ret
        exact ⟨rfl, leftT_more (sixT ⟨m.raw, m.time, m.ppb, x, 0, m.steps⟩ HK1.out HB.out) _⟩
      · have t3 : (x == 0) = false := by simp [z]
        have e : Pl.withSlew m x y = ⟨m.raw, m.time, m.ppb, x, y, m.steps⟩ := by unfold Pl.withSlew; rw [if_neg z]
        rw [e]
        clear z e
        go_enter Try.func29, Try.ntmps29
        go_wp2_with fail
        refine (WI.out _).mono ?_
        rintro _ w1 ⟨rfl, rfl⟩
        go_wp2_with fail
        refine (MV.out _ HK.out).mono ?_
        rintro _ w1 ⟨rfl, l1⟩
        have K1 := HK.out.below_ l1
        have f0 := K1.frozen 0
        have f1 := K1.frozen 1
        have f2 := K1.frozen 2
        have f3 := K1.frozen 3
        have f4 := K1.frozen 4
        have f5 := K1.frozen 5
        obtain ⟨k0, k1, k2, k3, k4, k5⟩ := cs_cells K1
        have kz := K1.lt
        have hne : ¬ b = w1.heap.size := by omega
        have hne2 : ¬ w1.heap.size = b := by omega
        have HK1 := Lib.hid K1
        have HB := Lib.hid (only_of_below l1 (some b))
        clear K1 l1
        go_wp2_with fail
        go_ret
        exact ⟨rfl, leftT_more (sixT ⟨m.raw, m.time, m.ppb, x, y, m.steps⟩ HK1.out HB.out) _⟩
    · have e2 : Pl.slewS s raw x y = s := by unfold Pl.slewS; rw [e1, hE, if_neg c]
      rw [e2] at hN
      subst hN
      have MV := Lib.hid (fun W k => rmoved_no b s raw E W k h hE c)
      have t : (E == 0) = false := by simp [c]
      have t' : (E != 0) = true := by simp [c]
      clear e1 e2 hs h hk hE c
      go_enter Try.func29, Try.ntmps29
      go_wp2_with fail
      refine (WI.out _).mono ?_
      rintro _ w1 ⟨rfl, rfl⟩
      go_wp2_with fail
      refine (MV.out _ HK.out).mono ?_
      rintro _ w1 ⟨rfl, l1⟩
      go_wp2_with fail
      go_ret
      exact ⟨rfl, leftT_same HK.out (bel_more l1 _)⟩

set_option maxHeartbeats 1000000 in
theorem rstep_at {s : Pl.CS} {raw x : Int} (h : s.ok = true) (hst : s.steps ≤ 9223372036854775807) {E : Int} {N : Pl.CS} (hE : Pl.stepE s raw x = E) (hN : Pl.stepS s raw x = N) (b : Nat) (w : World) (hk : Blk w b 53 (csA s)) :
    Calls Try.prog 30 #[.pointer (some ⟨b, 0, none⟩), .int .i64 raw, .int .i64 x] w fun e w' => e = .returned (.int .i64 E) ∧ LeftT 53 b N w w' := by
  have HK := Lib.hid hk
  have WI := fun W => rin_any x 4503599627370496 W (by omega) (by omega)
  cases hi : Pl.inn x 4503599627370496 with
  | false =>
    have e1 : Pl.stepE s raw x = 3 := by unfold Pl.stepE; rw [hi]; simp
    have e2 : Pl.stepS s raw x = s := by unfold Pl.stepS; rw [e1]; simp
    rw [e1] at hE
    rw [e2] at hN
    subst hE hN
    rw [hi] at WI
    replace WI := Lib.hid WI
    clear e1 e2 hi h hk
    go_enter Try.func30, Try.ntmps30
    go_wp2_with fail
    refine (WI.out _).mono ?_
    rintro _ w1 ⟨rfl, rfl⟩
    go_wp2
    go_ret
    exact ⟨rfl, leftT_refl HK.out⟩
  | true =>
    rw [hi] at WI
    replace WI := Lib.hid WI
    obtain ⟨x1, x2⟩ := Pl.inn_iff.1 hi
    obtain ⟨Q, hQ⟩ : ∃ Q, Pl.nowE s raw = Q := ⟨_, rfl⟩
    by_cases c : Q = 0
    · subst c
      have e1 : Pl.stepE s raw x = Pl.stpE (Pl.moved s raw) x := by unfold Pl.stepE; rw [hi, hQ]; simp
      rw [e1] at hE
      have MV := fun W k => rmoved_yes b s raw W k h hQ
      obtain ⟨m1, m2⟩ := Pl.moved_ok h hQ
      have mt := (Pl.CS.ok_iff.1 m1).2.1
      have ms0 := (Pl.CS.ok_iff.1 m1).2.2.2.2.2.2.2
      have hms : (Pl.moved s raw).steps = s.steps := rfl
      rw [← hms] at hst
      have e2 : Pl.stepS s raw x = if E = 0 then Pl.withStep (Pl.moved s raw) x else s := by unfold Pl.stepS; rw [e1, hE]
      rw [e2] at hN
      clear e2
      obtain ⟨m, hm⟩ : ∃ m, Pl.moved s raw = m := ⟨_, rfl⟩
      rw [hm] at MV hE hN mt ms0 hst
      replace MV := Lib.hid MV
      have kw : IntKind.i64.wrap (m.time + x) = m.time + x := IntWalk.i64_in _ (by omega)
      have WT := fun W => rin_any (m.time + x) 4503599627370496 W (by omega) (by omega)
      clear e1 hi h hk hQ hm m1 m2 hms
      unfold Pl.stpE at hE
      cases ht : Pl.inn (m.time + x) 4503599627370496 with
      | false =>
        rw [ht] at hE WT
        replace WT := Lib.hid WT
        simp at hE
        subst hE
        simp at hN
        subst hN
        clear ht mt ms0
        go_enter Try.func30, Try.ntmps30
        go_wp2_with fail
        refine (WI.out _).mono ?_
        rintro _ w1 ⟨rfl, rfl⟩
        go_wp2_with fail
        refine (MV.out _ HK.out).mono ?_
        rintro _ w1 ⟨rfl, l1⟩
        go_wp2_with fail
        refine (WT.out _).mono ?_
        rintro _ w2 ⟨rfl, rfl⟩
        go_wp2_with fail
        go_ret
        exact ⟨rfl, leftT_same HK.out (bel_more l1 _)⟩
      | true =>
        rw [ht] at hE WT
        replace WT := Lib.hid WT
        simp only [if_true] at hE
        by_cases q : m.steps = 9223372036854775807
        · rw [if_pos q] at hE
          subst hE
          simp at hN
          subst hN
          have t : (m.steps == 9223372036854775807) = true := by simp [q]
          clear ht mt ms0 q
          go_enter Try.func30, Try.ntmps30
          go_wp2_with fail
          refine (WI.out _).mono ?_
          rintro _ w1 ⟨rfl, rfl⟩
          go_wp2_with fail
          refine (MV.out _ HK.out).mono ?_
          rintro _ w1 ⟨rfl, l1⟩
          go_wp2_with fail
          refine (WT.out _).mono ?_
          rintro _ w2 ⟨rfl, rfl⟩
          go_wp2_with fail
          go_ret
          exact ⟨rfl, leftT_same HK.out (bel_more l1 _)⟩
        · rw [if_neg q] at hE
          subst hE
          simp at hN
          subst hN
          have t : (m.steps == 9223372036854775807) = false := by simp [q]
          have kw2 : IntKind.i64.wrap (m.steps + 1) = m.steps + 1 := IntWalk.i64_in _ (by omega)
          clear ht mt ms0 q
          go_enter Try.func30, Try.ntmps30
          go_wp2_with fail
          refine (WI.out _).mono ?_
          rintro _ w1 ⟨rfl, rfl⟩
          go_wp2_with fail
          refine (MV.out _ HK.out).mono ?_
          rintro _ w1 ⟨rfl, l1⟩
          have K1 := HK.out.below_ l1
          have f0 := K1.frozen 0
          have f1 := K1.frozen 1
          have f2 := K1.frozen 2
          have f3 := K1.frozen 3
          have f4 := K1.frozen 4
          have f5 := K1.frozen 5
          obtain ⟨k0, k1, k2, k3, k4, k5⟩ := cs_cells K1
          have kz := K1.lt
          have hne : ¬ b = w1.heap.size := by omega
          have hne2 : ¬ w1.heap.size = b := by omega
          have HK1 := Lib.hid K1
          have HB := Lib.hid (only_of_below l1 (some b))
          clear K1 l1
          go_wp2_with fail
          refine (WT.out _).mono ?_
          rintro _ w2 ⟨rfl, rfl⟩
          go_wp2_with fail
          go_ret
          exact ⟨rfl, leftT_more (sixT (Pl.withStep m x) HK1.out HB.out) _⟩
    · have e1 : Pl.stepE s raw x = Q := by unfold Pl.stepE; rw [hi, hQ]; simp [c]
      rw [e1] at hE
      subst hE
      have e2 : Pl.stepS s raw x = s := by unfold Pl.stepS; rw [e1, if_neg c]
      rw [e2] at hN
      subst hN
      have MV := Lib.hid (fun W k => rmoved_no b s raw Q W k h hQ c)
      have t : (Q == 0) = false := by simp [c]
      have t' : (Q != 0) = true := by simp [c]
      clear e1 e2 hi h hk hQ c
      go_enter Try.func30, Try.ntmps30
      go_wp2_with fail
      refine (WI.out _).mono ?_
      rintro _ w1 ⟨rfl, rfl⟩
      go_wp2_with fail
      refine (MV.out _ HK.out).mono ?_
      rintro _ w1 ⟨rfl, l1⟩
      go_wp2_with fail
      go_ret
      exact ⟨rfl, leftT_same HK.out (bel_more l1 _)⟩
theorem rpend_at {s : Pl.CS} {raw : Int} (h : s.ok = true) {P : Int} (hP : Pl.pend s raw = P) (b : Nat) (w : World) (hk : Blk w b 53 (csA s)) :
    Calls Try.prog 31 #[.pointer (some ⟨b, 0, none⟩), .int .i64 raw] w fun e w' => e = .returned (.int .i64 P) ∧ Below w.heap.size w w' := by
  have HK := Lib.hid hk
  obtain ⟨Q, hQ⟩ : ∃ Q, Pl.nowE s raw = Q := ⟨_, rfl⟩
  by_cases c : Q = 0
  · subst c
    have e : Pl.pend s raw = (Pl.moved s raw).left := by unfold Pl.pend; rw [if_pos hQ]
    rw [e] at hP
    have MV := fun W k => rmoved_yes b s raw W k h hQ
    obtain ⟨m, hm⟩ : ∃ m, Pl.moved s raw = m := ⟨_, rfl⟩
    rw [hm] at MV hP
    subst hP
    replace MV := Lib.hid MV
    clear e h hk hQ hm
    go_enter Try.func31, Try.ntmps31
    go_wp2_with fail
    refine (MV.out _ HK.out).mono ?_
    rintro _ w1 ⟨rfl, l1⟩
    go_wp2
    go_ret
    exact ⟨rfl, bel_more l1 _⟩
  · have e : Pl.pend s raw = 0 := by unfold Pl.pend; rw [hQ, if_neg c]
    rw [e] at hP
    subst hP
    have MV := Lib.hid (fun W k => rmoved_no b s raw Q W k h hQ c)
    clear e h hk hQ c
    go_enter Try.func31, Try.ntmps31
    go_wp2_with fail
    refine (MV.out _ HK.out).mono ?_
    rintro _ w1 ⟨rfl, l1⟩
    go_wp2
    go_ret
    exact ⟨rfl, bel_more l1 _⟩
theorem rstate_any (b : Nat) (s : Pl.CS) (w : World) (hk : Blk w b 53 (csA s)) :
    Calls Try.prog 19 #[.pointer (some ⟨b, 0, none⟩)] w fun e w' => e = .returned (csV s) ∧ Below w.heap.size w w' := by
  obtain ⟨k0, k1, k2, k3, k4, k5⟩ := cs_cells hk
  have kz := hk.lt
  clear hk
  go_enter Try.func19, Try.ntmps19
  go_wp2
  exact bodyPost_ret (v := csV s) (by simp [results, Try.results19, go_sem]) rfl ⟨rfl, bel_bx w _⟩
end Go.Proofs.Ytcdholgafojjoaa

/- Contracts of the clock's methods: Freq, Slew, Step, Pending, Of, New, State; and at nil. -/
import Derived.Test.YtcdholgafojjoaaClockFns
namespace Go.Proofs.Ytcdholgafojjoaa
open Go.RowKit Go.Lib

theorem bel_bx (w : World) (o : Obj) : Below w.heap.size w (w.alloc o) := (Below.refl _ _).alloc (Nat.le_refl _) _

theorem cfreq_any (b : Nat) (s : Pl.CS) (raw ppb : Int) (w : World) (hk : Blk w b 51 (csA s)) (h : s.ok = true) :
    Calls Try.prog 21 #[.pointer (some ⟨b, 0, none⟩), .int .i64 raw, .int .i64 ppb] w fun e w' => e = .returned (.int .i64 (Pl.freqE s raw ppb)) ∧ LeftC b (Pl.freqS s raw ppb) w w' := by
  have WI := fun W => cwithin_any ppb 500000 W (by omega) (by omega)
  have hk0 := hk.alloc (.cells #[.int .i64 ppb] 3)
  have hmf : ∀ (fn : Fn) (first cap : Array Value) (w : World), (Instr.makeFunc fn first cap).run Try.prog w = .ok (.func fn first cap) w := fun _ _ _ _ => rfl
  cases hi : Pl.inn ppb 500000 with
  | false =>
    have e1 : Pl.freqE s raw ppb = 3 := by simp [Pl.freqE, hi]
    have e2 : Pl.freqS s raw ppb = s := by simp [Pl.freqS, e1]
    rw [hi] at WI
    rw [e1, e2]
    have WI := Lib.hid WI
    have H := Lib.hid (fun v => cchange_wrong b s raw v _ hk0)
    clear hi e1 e2 hk hk0 h
    go_enter Try.func21, Try.ntmps21
    go_wp2_with fail
    refine (WI.out _).mono ?_
    rintro _ w1 ⟨rfl, rfl⟩
    go_wp2_with fail
    refine (H.out _).mono ?_
    rintro _ w2 ⟨rfl, l⟩
    go_wp2
    go_ret
    exact ⟨rfl, leftC_box l⟩
  | true =>
    rw [hi] at WI
    have WI := Lib.hid WI
    by_cases hn : Pl.nowE s raw = 0
    · have e1 : Pl.freqE s raw ppb = 0 := by simp [Pl.freqE, hi, hn]
      have e2 : Pl.freqS s raw ppb = Pl.withPPB (Pl.moved s raw) ppb := by simp [Pl.freqS, e1]
      rw [e1, e2]
      have H := Lib.hid (cchange_freq b w.heap.size s (Pl.withPPB (Pl.moved s raw) ppb) raw 0 _ hk0 h hn (fun W g hB hg hk2 => (cfreq1 g w.heap.size _ ppb W hk2 ((Blk.new w _ _).below_ hB)).mono fun e W' ⟨he, k1, k2⟩ => ⟨he, Below.only hB k2 hg hB.size, k1⟩))
      clear hi e1 e2 hk hk0 h hn
      go_enter Try.func21, Try.ntmps21
      go_wp2_with fail
      refine (WI.out _).mono ?_
      rintro _ w1 ⟨rfl, rfl⟩
      go_wp2_with fail
      refine H.out.mono ?_
      rintro _ w2 ⟨rfl, l⟩
      go_wp2
      go_ret
      exact ⟨rfl, leftC_box l⟩
    · have e1 : Pl.freqE s raw ppb = Pl.nowE s raw := by simp [Pl.freqE, hi]
      have e2 : Pl.freqS s raw ppb = s := by simp [Pl.freqS, e1, hn]
      rw [e1, e2]
      have H := Lib.hid (fun v => cchange_not b s raw v _ hk0 h hn)
      clear hi e1 e2 hk hk0 h hn
      go_enter Try.func21, Try.ntmps21
      go_wp2_with fail
      refine (WI.out _).mono ?_
      rintro _ w1 ⟨rfl, rfl⟩
      go_wp2_with fail
      refine (H.out _).mono ?_
      rintro _ w2 ⟨rfl, l⟩
      go_wp2
      go_ret
      exact ⟨rfl, leftC_box l⟩

theorem cstep_any (b : Nat) (s : Pl.CS) (raw delta : Int) (w : World) (hk : Blk w b 51 (csA s)) (h : s.ok = true) (hs : s.steps ≤ 9223372036854775807) :
    Calls Try.prog 24 #[.pointer (some ⟨b, 0, none⟩), .int .i64 raw, .int .i64 delta] w fun e w' => e = .returned (.int .i64 (Pl.stepE s raw delta)) ∧ LeftC b (Pl.stepS s raw delta) w w' := by
  have WI := fun W => cwithin_any delta 4503599627370496 W (by omega) (by omega)
  have hk0 := hk.alloc (.cells #[.int .i64 delta] 3)
  have hmf : ∀ (fn : Fn) (first cap : Array Value) (w : World), (Instr.makeFunc fn first cap).run Try.prog w = .ok (.func fn first cap) w := fun _ _ _ _ => rfl
  cases hi : Pl.inn delta 4503599627370496 with
  | false =>
    have e1 : Pl.stepE s raw delta = 3 := by simp [Pl.stepE, hi]
    have e2 : Pl.stepS s raw delta = s := by simp [Pl.stepS, e1]
    rw [hi] at WI
    rw [e1, e2]
    have WI := Lib.hid WI
    have H := Lib.hid (fun v => cchange_wrong b s raw v _ hk0)
    clear hi e1 e2 hk hk0 h hs
    go_enter Try.func24, Try.ntmps24
    go_wp2_with fail
    refine (WI.out _).mono ?_
    rintro _ w1 ⟨rfl, rfl⟩
    go_wp2_with fail
    refine (H.out _).mono ?_
    rintro _ w2 ⟨rfl, l⟩
    go_wp2
    go_ret
    exact ⟨rfl, leftC_box l⟩
  | true =>
    rw [hi] at WI
    have WI := Lib.hid WI
    by_cases hn : Pl.nowE s raw = 0
    · have e1 : Pl.stepE s raw delta = Pl.stpE (Pl.moved s raw) delta := by simp [Pl.stepE, hi, hn]
      have e2 : Pl.stepS s raw delta = if Pl.stpE (Pl.moved s raw) delta = 0 then (if Pl.stpE (Pl.moved s raw) delta = 0 then Pl.withStep (Pl.moved s raw) delta else Pl.moved s raw) else s := by
        unfold Pl.stepS
        rw [e1]
        by_cases c : Pl.stpE (Pl.moved s raw) delta = 0
        · rw [if_pos c, if_pos c, if_pos c]
        · rw [if_neg c, if_neg c]
      rw [e1, e2]
      have H := Lib.hid (cchange_step b w.heap.size s (if Pl.stpE (Pl.moved s raw) delta = 0 then Pl.withStep (Pl.moved s raw) delta else Pl.moved s raw) raw (Pl.stpE (Pl.moved s raw) delta) _ hk0 h hn (fun W g hB hg hk2 => (cstep1 g w.heap.size _ delta W (Pl.moved_ok h hn).1 hs hi hk2 ((Blk.new w _ _).below_ hB) (by simp at hg; omega)).mono fun e W' ⟨he, k1, k2⟩ => ⟨he, Below.only hB k2 hg hB.size, k1⟩))
      obtain ⟨R, hR⟩ : ∃ R, Pl.stpE (Pl.moved s raw) delta = R := ⟨_, rfl⟩
      rw [hR] at H ⊢
      obtain ⟨X, hX⟩ : ∃ X, (if R = 0 then (if R = 0 then Pl.withStep (Pl.moved s raw) delta else Pl.moved s raw) else s) = X := ⟨_, rfl⟩
      rw [hX] at H ⊢
      clear hi e1 e2 hk hk0 h hn hs hR hX
      go_enter Try.func24, Try.ntmps24
      go_wp2_with fail
      refine (WI.out _).mono ?_
      rintro _ w1 ⟨rfl, rfl⟩
      go_wp2_with fail
      refine H.out.mono ?_
      rintro _ w2 ⟨rfl, l⟩
      go_wp2
      go_ret
      exact ⟨rfl, leftC_box l⟩
    · have e1 : Pl.stepE s raw delta = Pl.nowE s raw := by simp [Pl.stepE, hi, hn]
      have e2 : Pl.stepS s raw delta = s := by simp [Pl.stepS, e1, hn]
      rw [e1, e2]
      have H := Lib.hid (fun v => cchange_not b s raw v _ hk0 h hn)
      clear hi e1 e2 hk hk0 h hn hs
      go_enter Try.func24, Try.ntmps24
      go_wp2_with fail
      refine (WI.out _).mono ?_
      rintro _ w1 ⟨rfl, rfl⟩
      go_wp2_with fail
      refine (H.out _).mono ?_
      rintro _ w2 ⟨rfl, l⟩
      go_wp2
      go_ret
      exact ⟨rfl, leftC_box l⟩

theorem cslew_any (b : Nat) (s : Pl.CS) (raw delta rate : Int) (w : World) (hk : Blk w b 51 (csA s)) (h : s.ok = true) :
    Calls Try.prog 22 #[.pointer (some ⟨b, 0, none⟩), .int .i64 raw, .int .i64 delta, .int .i64 rate] w fun e w' => e = .returned (.int .i64 (Pl.slewE s raw delta rate)) ∧ LeftC b (Pl.slewS s raw delta rate) w w' := by
  have WI := fun W => cwithin_any delta 4503599627370496 W (by omega) (by omega)
  have hk0 := (hk.alloc (.cells #[.int .i64 delta] 3)).alloc (.cells #[.int .i64 rate] 3)
  have hmf : ∀ (fn : Fn) (first cap : Array Value) (w : World), (Instr.makeFunc fn first cap).run Try.prog w = .ok (.func fn first cap) w := fun _ _ _ _ => rfl
  cases ho : Pl.slewOk delta rate with
  | false =>
    have e1 : Pl.slewE s raw delta rate = 3 := by simp [Pl.slewE, ho]
    have e2 : Pl.slewS s raw delta rate = s := by simp [Pl.slewS, e1]
    rw [e1, e2]
    have H := Lib.hid (fun v => cchange_wrong b s raw v _ hk0)
    cases hi : Pl.inn delta 4503599627370496 with
    | false =>
      rw [hi] at WI
      have WI := Lib.hid WI
      clear hi ho e1 e2 hk hk0 h
      go_enter Try.func22, Try.ntmps22
      go_wp2_with fail
      refine (WI.out _).mono ?_
      rintro _ w1 ⟨rfl, rfl⟩
      go_wp2_with fail
      refine (H.out _).mono ?_
      rintro _ w2 ⟨rfl, l⟩
      go_wp2
      go_ret
      exact ⟨rfl, leftC_box (leftC_box l)⟩
    | true =>
      rw [hi] at WI
      have WI := Lib.hid WI
      simp only [Pl.slewOk, hi, Bool.true_and, Bool.and_eq_false_iff, decide_eq_false_iff_not] at ho
      by_cases r1 : 1 ≤ rate
      · have r2 : ¬ rate ≤ 500000 := by omega
        have t1 : decide (1 ≤ rate) = true := by simp [r1]
        have t2 : decide (rate ≤ 500000) = false := by simp [r2]
        clear hi ho e1 e2 hk hk0 h
        go_enter Try.func22, Try.ntmps22
        go_wp2_with fail
        refine (WI.out _).mono ?_
        rintro _ w1 ⟨rfl, rfl⟩
        go_wp2_with fail
        refine (H.out _).mono ?_
        rintro _ w2 ⟨rfl, l⟩
        go_wp2
        go_ret
        exact ⟨rfl, leftC_box (leftC_box l)⟩
      · have t1 : decide (1 ≤ rate) = false := by simp [r1]
        clear hi ho e1 e2 hk hk0 h
        go_enter Try.func22, Try.ntmps22
        go_wp2_with fail
        refine (WI.out _).mono ?_
        rintro _ w1 ⟨rfl, rfl⟩
        go_wp2_with fail
        refine (H.out _).mono ?_
        rintro _ w2 ⟨rfl, l⟩
        go_wp2
        go_ret
        exact ⟨rfl, leftC_box (leftC_box l)⟩
  | true =>
    have ho2 := ho
    simp only [Pl.slewOk, Bool.and_eq_true, decide_eq_true_eq] at ho2
    obtain ⟨⟨hi, r1⟩, r2⟩ := ho2
    rw [hi] at WI
    have WI := Lib.hid WI
    have t1 : decide (1 ≤ rate) = true := by simp [r1]
    have t2 : decide (rate ≤ 500000) = true := by simp [r2]
    by_cases hn : Pl.nowE s raw = 0
    · have e1 : Pl.slewE s raw delta rate = 0 := by simp [Pl.slewE, ho, hn]
      have e2 : Pl.slewS s raw delta rate = Pl.withSlew (Pl.moved s raw) delta rate := by simp [Pl.slewS, e1]
      rw [e1, e2]
      have H := Lib.hid (cchange_slew b w.heap.size (w.heap.size + 1) s (Pl.withSlew (Pl.moved s raw) delta rate) raw 0 _ hk0 h hn (fun W g hB hg hk2 => (cslew1 g w.heap.size (w.heap.size + 1) _ delta rate W hk2 (((Blk.new w _ _).alloc _).below_ hB) (by have := (Blk.new (w.alloc (.cells #[.int .i64 delta] 3)) 3 #[.int .i64 rate]).below_ hB; simpa using this) (by simp at hg; omega) (by simp at hg; omega)).mono fun e W' ⟨he, k1, k2⟩ => ⟨he, Below.only hB k2 hg hB.size, k1⟩))
      clear hi ho e1 e2 hk hk0 h hn
      go_enter Try.func22, Try.ntmps22
      go_wp2_with fail
      refine (WI.out _).mono ?_
      rintro _ w1 ⟨rfl, rfl⟩
      go_wp2_with fail
      refine H.out.mono ?_
      rintro _ w2 ⟨rfl, l⟩
      go_wp2
      go_ret
      exact ⟨rfl, leftC_box (leftC_box l)⟩
    · have e1 : Pl.slewE s raw delta rate = Pl.nowE s raw := by simp [Pl.slewE, ho]
      have e2 : Pl.slewS s raw delta rate = s := by simp [Pl.slewS, e1, hn]
      rw [e1, e2]
      have H := Lib.hid (fun v => cchange_not b s raw v _ hk0 h hn)
      clear hi ho e1 e2 hk hk0 h hn
      go_enter Try.func22, Try.ntmps22
      go_wp2_with fail
      refine (WI.out _).mono ?_
      rintro _ w1 ⟨rfl, rfl⟩
      go_wp2_with fail
      refine (H.out _).mono ?_
      rintro _ w2 ⟨rfl, l⟩
      go_wp2
      go_ret
      exact ⟨rfl, leftC_box (leftC_box l)⟩

theorem cpend_any (b : Nat) (s : Pl.CS) (raw : Int) (w : World) (hk : Blk w b 51 (csA s)) (h : s.ok = true) :
    Calls Try.prog 23 #[.pointer (some ⟨b, 0, none⟩), .int .i64 raw] w fun e w' => e = .returned (.int .i64 (Pl.pend s raw)) ∧ Below w.heap.size w w' := by
  obtain ⟨T, hT⟩ : ∃ T, Pl.nowT s raw = T := ⟨_, rfl⟩
  by_cases hn : Pl.nowE s raw = 0
  · have N := Lib.hid (cnow_at h hT hn b w hk)
    obtain ⟨m1, m2⟩ := Pl.moved_ok h hn
    have hr : raw ≤ 4503599627370496 := (Pl.CS.ok_iff.1 m1).1.2
    have M := Lib.hid (fun W => cmoved_any s raw h m2 hr W)
    have e1 : Pl.pend s raw = (Pl.moved s raw).left := by simp [Pl.pend, hn]
    rw [e1]
    obtain ⟨m, hm⟩ : ∃ m, Pl.moved s raw = m := ⟨_, rfl⟩
    rw [hm] at M ⊢
    have M : Hid (∀ W : World, Calls Try.prog 37 #[csV s, .int .i64 raw] W fun e W' => e = .returned (.agg #[.int .i64 m.raw, .int .i64 m.time, .int .i64 m.ppb, .int .i64 m.left, .int .i64 m.rate, .int .i64 m.steps]) ∧ Below W.heap.size W W') := M
    have HK := Lib.hid hk
    have hfl : ∀ (x0 x1 x2 x3 x4 x5 : Value) (w : World), (Instr.field 23 (.agg #[x0, x1, x2, x3, x4, x5]) 3).run Try.prog w = .ok x3 w := fun _ _ _ _ _ _ _ => by kernel_rfl
    clear hT hn m1 m2 hr hm h hk e1
    go_enter Try.func23, Try.ntmps23
    go_wp2_with fail
    refine N.out.mono ?_
    rintro _ w1 ⟨rfl, b1⟩
    have hk1 := HK.out.below_ b1
    obtain ⟨k0, k1, k2, k3, k4, k5⟩ := cs_cells hk1
    have kz := hk1.lt
    go_wp2_with fail
    refine (M.out _).mono ?_
    rintro _ w2 ⟨rfl, b2⟩
    have b3 := bel_on b1 b2
    go_wp2
    go_ret
    exact ⟨rfl, b3⟩
  · obtain ⟨E, hE⟩ : ∃ E, Pl.nowE s raw = E := ⟨_, rfl⟩
    have N := Lib.hid (cnow_at h hT hE b w hk)
    have e1 : Pl.pend s raw = 0 := by simp [Pl.pend, hn]
    rw [hE] at hn
    have t : (E == 0) = false := by simp [hn]
    rw [e1]
    clear hT hE h hk hn e1
    go_enter Try.func23, Try.ntmps23
    go_wp2_with fail
    refine N.out.mono ?_
    rintro _ w1 ⟨rfl, b1⟩
    go_wp2
    go_ret
    exact ⟨rfl, b1⟩

theorem cof_yes (s : Pl.CS) (h : s.ok = true) (w : World) :
    Calls Try.prog 11 #[csV s] w fun e w' => ∃ g, e = .returned (.pointer (some ⟨g, 0, none⟩)) ∧ w.heap.size ≤ g ∧ Blk w' g 51 (csA s) ∧ Below w.heap.size w w' := by
  have V := fun W => cvalid_any s W
  rw [h] at V
  have V := Lib.hid V
  clear h
  go_enter Try.func11, Try.ntmps11
  go_wp2_with fail
  refine (V.out _).mono ?_
  rintro _ w1 ⟨rfl, b1⟩
  have T := (one_mk w 23 (csA s)).on b1
  obtain ⟨k0, k1, k2, k3, k4, k5⟩ := cs_cells T.2
  have kz := T.2.lt
  have HT := Lib.hid T
  clear b1 T
  go_wp2
  go_ret
  exact ⟨w1.heap.size, rfl, HT.out.1.size, Blk.new w1 _ _, bel_more HT.out.1 _⟩
theorem cof_no (s : Pl.CS) (h : s.ok = false) (w : World) :
    Calls Try.prog 11 #[csV s] w fun e w' => e = .returned (.pointer none) ∧ Below w.heap.size w w' := by
  have V := fun W => cvalid_any s W
  rw [h] at V
  have V := Lib.hid V
  clear h
  go_enter Try.func11, Try.ntmps11
  go_wp2_with fail
  refine (V.out _).mono ?_
  rintro _ w1 ⟨rfl, b1⟩
  go_wp2
  go_ret
  exact ⟨rfl, bel_on (bel_bx w _) b1⟩
theorem cnew_yes (raw time : Int) (h : (⟨raw, time, 0, 0, 0, 0⟩ : Pl.CS).ok = true) (w : World) :
    Calls Try.prog 14 #[.int .i64 raw, .int .i64 time] w fun e w' => ∃ g, e = .returned (.pointer (some ⟨g, 0, none⟩)) ∧ w.heap.size ≤ g ∧ Blk w' g 51 (csA ⟨raw, time, 0, 0, 0, 0⟩) ∧ Below w.heap.size w w' := by
  have V := Lib.hid (cof_yes ⟨raw, time, 0, 0, 0, 0⟩ h w)
  clear h
  go_enter Try.func14, Try.ntmps14
  go_wp2_with fail
  refine V.out.mono ?_
  rintro _ w1 ⟨g, rfl, hg, hk, b1⟩
  go_wp2
  go_ret
  exact ⟨g, rfl, hg, hk, b1⟩
theorem cnew_no (raw time : Int) (h : (⟨raw, time, 0, 0, 0, 0⟩ : Pl.CS).ok = false) (w : World) :
    Calls Try.prog 14 #[.int .i64 raw, .int .i64 time] w fun e w' => e = .returned (.pointer none) ∧ Below w.heap.size w w' := by
  have V := Lib.hid (cof_no ⟨raw, time, 0, 0, 0, 0⟩ h w)
  clear h
  go_enter Try.func14, Try.ntmps14
  go_wp2_with fail
  refine V.out.mono ?_
  rintro _ w1 ⟨rfl, b1⟩
  go_wp2
  go_ret
  exact ⟨rfl, b1⟩
theorem box6 (w : World) (o : Obj) (u0 u1 u2 u3 u4 u5 : Value) :
    Below w.heap.size w (((((((w.alloc o).setCell ⟨w.heap.size, 0, none⟩ u0).setCell ⟨w.heap.size, 1, none⟩ u1).setCell ⟨w.heap.size, 2, none⟩ u2).setCell ⟨w.heap.size, 3, none⟩ u3).setCell ⟨w.heap.size, 4, none⟩ u4).setCell ⟨w.heap.size, 5, none⟩ u5) := by
  have h0 := Below.setCell (p := ⟨w.heap.size, 0, none⟩) (bel_bx w o) (Nat.le_refl _) u0
  have h1 := Below.setCell (p := ⟨w.heap.size, 1, none⟩) h0 (Nat.le_refl _) u1
  have h2 := Below.setCell (p := ⟨w.heap.size, 2, none⟩) h1 (Nat.le_refl _) u2
  have h3 := Below.setCell (p := ⟨w.heap.size, 3, none⟩) h2 (Nat.le_refl _) u3
  have h4 := Below.setCell (p := ⟨w.heap.size, 4, none⟩) h3 (Nat.le_refl _) u4
  exact Below.setCell (p := ⟨w.heap.size, 5, none⟩) h4 (Nat.le_refl _) u5
theorem cstate_any (b : Nat) (s : Pl.CS) (w : World) (hk : Blk w b 51 (csA s)) :
    Calls Try.prog 13 #[.pointer (some ⟨b, 0, none⟩)] w fun e w' => e = .returned (csV s) ∧ Below w.heap.size w w' := by
  obtain ⟨k0, k1, k2, k3, k4, k5⟩ := cs_cells hk
  have kz := hk.lt
  clear hk
  go_enter Try.func13, Try.ntmps13
  go_wp2
  exact bodyPost_ret (v := csV s) (by simp [results, Try.results13, go_sem]) rfl ⟨rfl, bel_bx w _⟩

theorem cnil_now (raw : Int) (w : World) : Calls Try.prog 20 #[.pointer none, .int .i64 raw] w fun e w' => e = .returned (.tuple #[.int .i64 0, .int .i64 1]) ∧ w = w' := by
  go_enter Try.func20, Try.ntmps20
  go_wp2
  exact bodyPost_ret (v := .tuple #[.int .i64 0, .int .i64 1]) (by simp [results, Try.results20, go_sem]) rfl ⟨rfl, rfl⟩
theorem cnil_state (w : World) : Calls Try.prog 13 #[.pointer none] w fun e w' => e = .returned (csV ⟨0, 0, 0, 0, 0, 0⟩) ∧ Below w.heap.size w w' := by
  go_enter Try.func13, Try.ntmps13
  go_wp2
  exact bodyPost_ret (v := csV ⟨0, 0, 0, 0, 0, 0⟩) (by simp [results, Try.results13, go_sem]) rfl ⟨rfl, bel_bx w _⟩
theorem cnil_pend (raw : Int) (w : World) : Calls Try.prog 23 #[.pointer none, .int .i64 raw] w fun e w' => e = .returned (.int .i64 0) ∧ w = w' := by
  go_enter Try.func23, Try.ntmps23
  go_wp2_with fail
  refine (cnil_now raw w).mono ?_
  rintro _ w1 ⟨rfl, rfl⟩
  go_wp2
  go_ret
  exact ⟨rfl, rfl⟩
theorem cnil_freq (raw ppb : Int) (w : World) : Calls Try.prog 21 #[.pointer none, .int .i64 raw, .int .i64 ppb] w fun e w' => e = .returned (.int .i64 1) ∧ Below w.heap.size w w' := by
  have hmf : ∀ (fn : Fn) (first cap : Array Value) (w : World), (Instr.makeFunc fn first cap).run Try.prog w = .ok (.func fn first cap) w := fun _ _ _ _ => rfl
  go_enter Try.func21, Try.ntmps21
  go_wp2_with fail
  refine (cwithin_any ppb 500000 _ (by omega) (by omega)).mono ?_
  rintro _ w1 ⟨rfl, rfl⟩
  go_wp2_with fail
  refine (cchange_nil raw _ _ _).mono ?_
  rintro _ w2 ⟨rfl, rfl⟩
  go_wp2
  go_ret
  exact ⟨rfl, bel_bx w _⟩
theorem cnil_step (raw delta : Int) (w : World) : Calls Try.prog 24 #[.pointer none, .int .i64 raw, .int .i64 delta] w fun e w' => e = .returned (.int .i64 1) ∧ Below w.heap.size w w' := by
  have hmf : ∀ (fn : Fn) (first cap : Array Value) (w : World), (Instr.makeFunc fn first cap).run Try.prog w = .ok (.func fn first cap) w := fun _ _ _ _ => rfl
  go_enter Try.func24, Try.ntmps24
  go_wp2_with fail
  refine (cwithin_any delta 4503599627370496 _ (by omega) (by omega)).mono ?_
  rintro _ w1 ⟨rfl, rfl⟩
  go_wp2_with fail
  refine (cchange_nil raw _ _ _).mono ?_
  rintro _ w2 ⟨rfl, rfl⟩
  go_wp2
  go_ret
  exact ⟨rfl, bel_bx w _⟩
theorem cnil_slew (raw delta rate : Int) (w : World) : Calls Try.prog 22 #[.pointer none, .int .i64 raw, .int .i64 delta, .int .i64 rate] w fun e w' => e = .returned (.int .i64 1) ∧ Below w.heap.size w w' := by
  have hmf : ∀ (fn : Fn) (first cap : Array Value) (w : World), (Instr.makeFunc fn first cap).run Try.prog w = .ok (.func fn first cap) w := fun _ _ _ _ => rfl
  go_enter Try.func22, Try.ntmps22
  go_wp2_with fail
  refine (cwithin_any delta 4503599627370496 _ (by omega) (by omega)).mono ?_
  rintro _ w1 ⟨rfl, rfl⟩
  go_wp2_with fail
  all_goals (
    refine (cchange_nil raw _ _ _).mono ?_
    rintro _ w2 ⟨rfl, rfl⟩
    go_wp2
    go_ret
    exact ⟨rfl, bel_more (bel_bx w _) _⟩)
end Go.Proofs.Ytcdholgafojjoaa

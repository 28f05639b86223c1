/- The contract of the reference servo's Sample. -/
import Derived.Test.YtaaocdgbflifhaaServoRef
import Derived.Test.YtaaocdgbflifhaaServoMid
import Derived.Deep.DeepCutAuto
import Derived.StillTailTactics
namespace Go.Proofs.Ytaaocdgbflifhaa
open Go.RowKit Go.Lib

set_option maxRecDepth 100000 in
set_option maxHeartbeats 1000000 in
theorem tsample_no (b : Nat) (c : Pl.Conf) (s : Pl.St) (o p : Int) (w : World) (h : Blk w b 60 (sv c s)) (ha : Pl.argsOk o p = false) :
    Calls Try.prog 21 #[.pointer (some ⟨b, 0, none⟩), .int .i64 o, .int .i64 p] w fun e w' => e = .returned (.tuple #[.agg #[.int .i64 0, .int .i64 0], .int .i64 3]) ∧ Left 60 b c s w w' := by
  have hlt := h.lt
  have HB := Lib.hid h
  have hr : o < -1125899906842624 ∨ 1125899906842624 < o ∨ p < 1 ∨ 1125899906842624 < p := by
    have := @Pl.argsOk_iff o p
    rw [ha] at this
    simp only [Bool.false_eq_true, false_iff] at this
    omega
  clear h ha
  by_cases c1 : o < -1125899906842624
  · go_enter Try.func21, Try.ntmps21
    go_wp2
    exact bodyPost_ret (v := .tuple #[.agg #[.int .i64 0, .int .i64 0], .int .i64 3]) (by simp [results, Try.results21, go_sem]) rfl ⟨rfl, left_no HB.out _⟩
  · by_cases c2 : 1125899906842624 < o
    · go_enter Try.func21, Try.ntmps21
      go_wp2
      exact bodyPost_ret (v := .tuple #[.agg #[.int .i64 0, .int .i64 0], .int .i64 3]) (by simp [results, Try.results21, go_sem]) rfl ⟨rfl, left_no HB.out _⟩
    · by_cases c3 : p < 1
      · go_enter Try.func21, Try.ntmps21
        go_wp2
        exact bodyPost_ret (v := .tuple #[.agg #[.int .i64 0, .int .i64 0], .int .i64 3]) (by simp [results, Try.results21, go_sem]) rfl ⟨rfl, left_no HB.out _⟩
      · have c4 : 1125899906842624 < p := by omega
        go_enter Try.func21, Try.ntmps21
        go_wp2
        exact bodyPost_ret (v := .tuple #[.agg #[.int .i64 0, .int .i64 0], .int .i64 3]) (by simp [results, Try.results21, go_sem]) rfl ⟨rfl, left_no HB.out _⟩

theorem mid_six {T : TypeId} {b : Nat} {c : Pl.Conf} {s : Pl.St} {w : World} (h : Blk w b T (sv c s)) (n : Int) : Mid T b c ⟨s.g, n, s.f⟩ w ((w.setCell ⟨b, 6, none⟩ (.int .i64 n)).alloc (.cells #[.int .i64 0, .int .i64 0] 31)) :=
  ⟨(sv_set6 c s n ▸ h.set_ 6 _ : Blk _ b _ (sv c ⟨s.g, n, s.f⟩)).alloc _, only_alloc (only_setCell (only_refl _ _) (.inl rfl) _) _, by have := Blk.new (w.setCell ⟨b, 6, none⟩ (.int .i64 n)) 31 #[.int .i64 0, .int .i64 0]; simpa [World.setCell] using this, h.lt⟩

set_option maxRecDepth 100000 in
set_option maxHeartbeats 4000000 in
theorem tsample_step (b : Nat) (c : Pl.Conf) (s : Pl.St) (o p : Int) (w : World) (h : Blk w b 60 (sv c s)) (hc : c.ok = true) (hi : Pl.Inv c s) (hn' : s.n ≤ 1000000) (ha : Pl.argsOk o p = true) (hs : Pl.isStep c s o = true) :
    Calls Try.prog 21 #[.pointer (some ⟨b, 0, none⟩), .int .i64 o, .int .i64 p] w fun e w' => e = .returned (.tuple #[.agg #[.int .i64 2, .int .i64 o], .int .i64 0]) ∧ Left 60 b c ⟨s.g, s.n + 1, s.f⟩ w w' := by
  obtain ⟨⟨a1, a2⟩, a3, a4⟩ := Pl.argsOk_iff.1 ha
  obtain ⟨h0, h1, h2, h3, h4, h5, h6, h7, f5, f6, f7⟩ := sv_cells h
  have hlt := h.lt
  obtain ⟨⟨g3, g4⟩, ⟨g1, g2⟩, ⟨g5, g6⟩, _⟩ := Pl.Conf.ok_iff.1 hc
  obtain ⟨g7, g8, _, _, hn⟩ := hi
  obtain ⟨s1, s2⟩ := Pl.slope_in o p
  obtain ⟨k1, k2⟩ := Pl.gain_in c.ki (Pl.slopeI o p) g1 g2 s1 s2
  obtain ⟨k3, k4⟩ := Pl.gain_in c.kp (Pl.slopeI o p) g3 g4 s1 s2
  have hG := Pl.clamp_in (n := s.g + Pl.gainI c.ki (Pl.slopeI o p)) (lo := -c.lim) (hi := c.lim) (by omega)
  have HA := Lib.hid ha
  have HB := Lib.hid h
  obtain ⟨t, ht⟩ : ∃ t, Pl.thr c s = t := ⟨_, rfl⟩
  have HT := Lib.hid ht
  have HS := Lib.hid (show (decide (0 < t) && decide (t < max o (-o))) = true by rw [← hs]; unfold Pl.isStep; rw [ht])
  clear hc h ha ht hs
  go_enter Try.func21, Try.ntmps21
  go_upto_if 38 with fail
  go_cut [8] (fun s8 wx => s8 = .int .i64 t ∧ wx = w.alloc (.cells #[.int .i64 0, .int .i64 0] 31))
  case first =>
    by_cases hz : s.n = 0
    · have ht : Hid (c.sf = t) := by have := HT.out; unfold Pl.thr at this; rw [if_pos hz] at this; exact this
      have tz : (s.n == 0) = true := by simp [hz]
      clear hz
      go_wp2_with fail
      go_meet
      case rel => exact ⟨by rw [ht.out], rfl⟩
    · have ht : Hid (c.sl = t) := by have := HT.out; unfold Pl.thr at this; rw [if_neg hz] at this; exact this
      have tz : (s.n == 0) = false := by simp [hz]
      clear hz
      go_wp2_with fail
      go_meet
      case rel => exact ⟨by rw [ht.out], rfl⟩
  case rest =>
    obtain ⟨rfl, rfl⟩ := hcut
    go_upto_if 54 with fail
    go_cut [9] (fun s9 wx => s9 = .int .i64 (max o (-o)) ∧ Mid 60 b c ⟨s.g, s.n + 1, s.f⟩ w wx)
    case first =>
      have HM := Lib.hid (mid_six HB.out (s.n + 1))
      by_cases hz : o < 0
      · go_wp2_with fail
        go_meet
        case rel => exact ⟨reti_ (by omega), HM.out⟩
      · go_wp2_with fail
        go_meet
        case rel => exact ⟨reti_ (by omega), HM.out⟩
    case rest =>
      obtain ⟨rfl, hM⟩ := hcut
      clear h0 h1 h2 h3 h4 h5 h6 h7 f5 f6 f7
      obtain ⟨h0, h1, h2, h3, h4, h5, h6, h7, f5, f6, f7⟩ := sv_cells hM.blk
      obtain ⟨⟨b0, b1⟩, b2, b3⟩ := hM.cells
      have hltx := hM.blk.lt
      have hlty := hM.box.lt
      have HM := Lib.hid hM
      clear hM
      have hs2 := HS.out
      simp only [Bool.and_eq_true, decide_eq_true_eq] at hs2
      obtain ⟨t1, t2⟩ := hs2
      go_wp2
      refine bodyPost_ret (v := .tuple #[.agg #[.int .i64 2, .int .i64 o], .int .i64 0]) (by simp [results, Try.results21, go_sem, b0, b1]) rfl ⟨rfl, ?_⟩
      exact HM.out.end_ _ _

set_option maxRecDepth 100000 in
set_option maxHeartbeats 4000000 in
theorem tsample_freq (b : Nat) (c : Pl.Conf) (s : Pl.St) (o p : Int) (w : World) (h : Blk w b 60 (sv c s)) (hc : c.ok = true) (hi : Pl.Inv c s) (hn' : s.n ≤ 1000000) (ha : Pl.argsOk o p = true) (hs : Pl.isStep c s o = false) :
    Calls Try.prog 21 #[.pointer (some ⟨b, 0, none⟩), .int .i64 o, .int .i64 p] w fun e w' => e = .returned (.tuple #[.agg #[.int .i64 1, .int .i64 (Pl.newF c s o p)], .int .i64 0]) ∧ Left 60 b c ⟨Pl.newG c s o p, s.n + 1, Pl.newF c s o p⟩ w w' := by
  obtain ⟨⟨a1, a2⟩, a3, a4⟩ := Pl.argsOk_iff.1 ha
  obtain ⟨h0, h1, h2, h3, h4, h5, h6, h7, f5, f6, f7⟩ := sv_cells h
  have hlt := h.lt
  obtain ⟨⟨g3, g4⟩, ⟨g1, g2⟩, ⟨g5, g6⟩, _⟩ := Pl.Conf.ok_iff.1 hc
  obtain ⟨g7, g8, _, _, hn⟩ := hi
  obtain ⟨s1, s2⟩ := Pl.slope_in o p
  obtain ⟨k1, k2⟩ := Pl.gain_in c.ki (Pl.slopeI o p) g1 g2 s1 s2
  obtain ⟨k3, k4⟩ := Pl.gain_in c.kp (Pl.slopeI o p) g3 g4 s1 s2
  have hG := Pl.clamp_in (n := s.g + Pl.gainI c.ki (Pl.slopeI o p)) (lo := -c.lim) (hi := c.lim) (by omega)
  have HA := Lib.hid ha
  have HB := Lib.hid h
  obtain ⟨t, ht⟩ : ∃ t, Pl.thr c s = t := ⟨_, rfl⟩
  have HT := Lib.hid ht
  have HS := Lib.hid (show (decide (0 < t) && decide (t < max o (-o))) = false by rw [← hs]; unfold Pl.isStep; rw [ht])
  clear hc h ha ht hs
  go_enter Try.func21, Try.ntmps21
  go_upto_if 38 with fail
  go_cut [8] (fun s8 wx => s8 = .int .i64 t ∧ wx = w.alloc (.cells #[.int .i64 0, .int .i64 0] 31))
  case first =>
    by_cases hz : s.n = 0
    · have ht : Hid (c.sf = t) := by have := HT.out; unfold Pl.thr at this; rw [if_pos hz] at this; exact this
      have tz : (s.n == 0) = true := by simp [hz]
      clear hz
      go_wp2_with fail
      go_meet
      case rel => exact ⟨by rw [ht.out], rfl⟩
    · have ht : Hid (c.sl = t) := by have := HT.out; unfold Pl.thr at this; rw [if_neg hz] at this; exact this
      have tz : (s.n == 0) = false := by simp [hz]
      clear hz
      go_wp2_with fail
      go_meet
      case rel => exact ⟨by rw [ht.out], rfl⟩
  case rest =>
    obtain ⟨rfl, rfl⟩ := hcut
    go_upto_if 54 with fail
    go_cut [9] (fun s9 wx => s9 = .int .i64 (max o (-o)) ∧ Mid 60 b c ⟨s.g, s.n + 1, s.f⟩ w wx)
    case first =>
      have HM := Lib.hid (mid_six HB.out (s.n + 1))
      by_cases hz : o < 0
      · go_wp2_with fail
        go_meet
        case rel => exact ⟨reti_ (by omega), HM.out⟩
      · go_wp2_with fail
        go_meet
        case rel => exact ⟨reti_ (by omega), HM.out⟩
    case rest =>
      obtain ⟨rfl, hM⟩ := hcut
      clear h0 h1 h2 h3 h4 h5 h6 h7 f5 f6 f7
      obtain ⟨h0, h1, h2, h3, h4, h5, h6, h7, f5, f6, f7⟩ := sv_cells hM.blk
      obtain ⟨⟨b0, b1⟩, b2, b3⟩ := hM.cells
      have hltx := hM.blk.lt
      have hlty := hM.box.lt
      have HM := Lib.hid hM
      clear hM
      go_upto_region 12 with fail
      go_cut [63] (fun x wx => x = .bool false ∧ wx = wc)
      case first =>
        by_cases t1 : 0 < t
        · have t2 : ¬ t < max o (-o) := by have := HS.out; simpa [t1] using this
          go_wp2_with fail
          go_meet
          case rel => exact ⟨rfl, rfl⟩
        · go_wp2_with fail
          go_meet
          case rel => exact ⟨rfl, rfl⟩
      case rest =>
        obtain ⟨rfl, rfl⟩ := hcut
        go_wp2_with (go_at_call 33; refine (tratio_any _ _ _ HA.out).mono ?_; rintro e w' ⟨rfl, rfl⟩)
        have kw1 : IntKind.i64.wrap (s.g + Pl.gainI c.ki (Pl.slopeI o p)) = s.g + Pl.gainI c.ki (Pl.slopeI o p) := IntWalk.i64_in _ (by omega)
        have kw2 : IntKind.i64.wrap (-c.lim) = -c.lim := IntWalk.i64_in _ (by omega)
        go_cut [] (fun wx => Mid 60 b c ⟨Pl.newG c s o p, s.n + 1, s.f⟩ w wx)
        case first =>
          refine wp_region_still_tail 25 (by kernel_rfl) (by kernel_rfl) ?_
          simp only [List.take_succ_cons, List.take_zero, List.drop_succ_cons, List.drop_zero]
          repeat still_step
          still_call ((tpart_any _ _ _ g1 g2 s1 s2).mono fun _ _ h => ⟨h.1, h.2.symm⟩)
          repeat still_step
          still_call ((tclamp_any _ _ _ (by omega) _).mono fun _ _ h => ⟨h.1, h.2.symm⟩)
          repeat still_step
          try refine wpStill_nil ?_
          change wpList _ _ _ _ _ (World.drew _)
          go_wp2_with fail
          go_meet
          exact (HM.out.drewN 1).set5 _
        case rest =>
          have hM := hcut
          clear hcut h0 h1 h2 h3 h4 h5 h6 h7 f5 f6 f7 b0 b1 b2 b3 hltx hlty kw1 HM
          obtain ⟨h0, h1, h2, h3, h4, h5, h6, h7, f5, f6, f7⟩ := sv_cells hM.blk
          obtain ⟨⟨b0, b1⟩, b2, b3⟩ := hM.cells
          have hltx := hM.blk.lt
          have hlty := hM.box.lt
          have HM := Lib.hid hM
          clear hM
          have kw3 : IntKind.i64.wrap (Pl.gainI c.kp (Pl.slopeI o p) + Pl.newG c s o p) = Pl.gainI c.kp (Pl.slopeI o p) + Pl.newG c s o p := IntWalk.i64_in _ (by unfold Pl.newG; omega)
          go_wp2_with fail
          go_cut [] (fun wx => Mid 60 b c ⟨Pl.newG c s o p, s.n + 1, Pl.newF c s o p⟩ w wx)
          case first =>
            refine wp_region_still_tail 25 (by kernel_rfl) (by kernel_rfl) ?_
            simp only [List.take_succ_cons, List.take_zero, List.drop_succ_cons, List.drop_zero]
            repeat still_step
            still_call ((tpart_any _ _ _ g3 g4 s1 s2).mono fun _ _ h => ⟨h.1, h.2.symm⟩)
            repeat still_step
            still_call ((tclamp_any _ _ _ (by omega) _).mono fun _ _ h => ⟨h.1, h.2.symm⟩)
            repeat still_step
            try refine wpStill_nil ?_
            change wpList _ _ _ _ _ (World.drew _)
            go_wp2_with fail
            go_meet
            exact (HM.out.drewN 1).set7 _
          case rest =>
            have hM := hcut
            clear hcut h0 h1 h2 h3 h4 h5 h6 h7 f5 f6 f7 b0 b1 b2 b3 hltx hlty kw2 kw3 HM
            obtain ⟨h0, h1, h2, h3, h4, h5, h6, h7, f5, f6, f7⟩ := sv_cells hM.blk
            obtain ⟨⟨b0, b1⟩, b2, b3⟩ := hM.cells
            have hltx := hM.blk.lt
            have hlty := hM.box.lt
            have HM := Lib.hid hM
            clear hM
            go_wp2
            refine bodyPost_ret (v := .tuple #[.agg #[.int .i64 1, .int .i64 (Pl.newF c s o p)], .int .i64 0]) (by simp [results, Try.results21, go_sem, b0, b1]) rfl ⟨rfl, ?_⟩
            exact HM.out.end_ _ _

theorem tsample_any (b : Nat) (c : Pl.Conf) (s : Pl.St) (o p : Int) (w : World) (h : Blk w b 60 (sv c s)) (hc : c.ok = true) (hi : Pl.Inv c s) (hn' : s.n ≤ 1000000) :
    Calls Try.prog 21 #[.pointer (some ⟨b, 0, none⟩), .int .i64 o, .int .i64 p] w fun e w' => e = .returned (.tuple #[.agg #[.int .i64 (Pl.stepR c s o p).k, .int .i64 (Pl.stepR c s o p).v], .int .i64 (Pl.stepR c s o p).e]) ∧ Left 60 b c (Pl.stepS c s o p) w w' := by
  unfold Pl.stepR Pl.stepS
  cases ha : Pl.argsOk o p with
  | true =>
    simp only [if_true]
    cases hs : Pl.isStep c s o with
    | true => exact tsample_step b c s o p w h hc hi hn' ha hs
    | false => exact tsample_freq b c s o p w h hc hi hn' ha hs
  | false => exact tsample_no b c s o p w h ha

#print axioms tsample_any
end Go.Proofs.Ytaaocdgbflifhaa

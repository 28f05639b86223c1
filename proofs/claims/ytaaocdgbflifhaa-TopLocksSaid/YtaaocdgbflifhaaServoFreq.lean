/- The contract of the servo's inner sample: a step; a frequency. -/
import Derived.Test.YtaaocdgbflifhaaServoMid
import Derived.Deep.RegionHeld3
namespace Go.Proofs.Ytaaocdgbflifhaa
open Go.RowKit Go.Lib

theorem ssample_step (b : Nat) (c : Pl.Conf) (s : Pl.St) (o p : Int) (w : World) (h : Blk w b 56 (sv c s)) (hc : c.ok = true) (hn : 0 ≤ s.n) (hn' : s.n ≤ 1000000) (ha : Pl.argsOk o p = true) (hs : Pl.isStep c s o = true) :
    Calls Try.prog 32 #[.pointer (some ⟨b, 0, none⟩), .int .i64 o, .int .i64 p] w fun e w' => e = .returned (.agg #[.int .i64 2, .int .i64 o]) ∧ Left 56 b c ⟨s.g, s.n + 1, s.f⟩ w w' := by
  obtain ⟨⟨a1, a2⟩, a3, a4⟩ := Pl.argsOk_iff.1 ha
  obtain ⟨h0, h1, h2, h3, h4, h5, h6, h7, f5, f6, f7⟩ := sv_cells h
  have hlt := h.lt
  unfold Pl.isStep Pl.thr at hs
  simp only [Bool.and_eq_true, decide_eq_true_eq] at hs
  by_cases hz : s.n = 0
  · rw [if_pos hz] at hs
    obtain ⟨t1, t2⟩ := hs
    have tz : (s.n == 0) = true := by simp [hz]
    have HB := Lib.hid h
    clear hz hc ha h
    go_enter Try.func32, Try.ntmps32
    go_wp2
    refine bodyPost_ret (v := .agg #[.int .i64 2, .int .i64 o]) (by simp [results, Try.results32, go_sem]) rfl ⟨rfl, left_step HB.out _ _⟩
  · rw [if_neg hz] at hs
    obtain ⟨t1, t2⟩ := hs
    have tz : (s.n == 0) = false := by simp [hz]
    have HB := Lib.hid h
    clear hz hc ha h
    go_enter Try.func32, Try.ntmps32
    go_wp2
    refine bodyPost_ret (v := .agg #[.int .i64 2, .int .i64 o]) (by simp [results, Try.results32, go_sem]) rfl ⟨rfl, left_step HB.out _ _⟩

set_option maxRecDepth 100000 in
set_option maxHeartbeats 4000000 in
theorem ssample_freq (b : Nat) (c : Pl.Conf) (s : Pl.St) (o p : Int) (w : World) (h : Blk w b 56 (sv c s)) (hc : c.ok = true) (hi : Pl.Inv c s) (hn' : s.n ≤ 1000000) (ha : Pl.argsOk o p = true) (hs : Pl.isStep c s o = false) :
    Calls Try.prog 32 #[.pointer (some ⟨b, 0, none⟩), .int .i64 o, .int .i64 p] w fun e w' => e = .returned (.agg #[.int .i64 1, .int .i64 (Pl.newF c s o p)]) ∧ Left 56 b c ⟨Pl.newG c s o p, s.n + 1, Pl.newF c s o p⟩ w w' := by
  obtain ⟨⟨a1, a2⟩, a3, a4⟩ := Pl.argsOk_iff.1 ha
  obtain ⟨h0, h1, h2, h3, h4, h5, h6, h7, f5, f6, f7⟩ := sv_cells h
  have hlt := h.lt
  obtain ⟨⟨g3, g4⟩, ⟨g1, g2⟩, ⟨g5, g6⟩, _⟩ := Pl.Conf.ok_iff.1 hc
  obtain ⟨g7, g8, _, _, hn⟩ := hi
  obtain ⟨s1, s2⟩ := Pl.slope_in o p
  obtain ⟨k1, k2⟩ := Pl.gain_in c.ki (Pl.slopeI o p) g1 g2 s1 s2
  obtain ⟨k3, k4⟩ := Pl.gain_in c.kp (Pl.slopeI o p) g3 g4 s1 s2
  have hG := Pl.clamp_in (n := s.g + Pl.gainI c.ki (Pl.slopeI o p)) (lo := -c.lim) (hi := c.lim) (by omega)
  have HA := Lib.hid ha
  have HB := Lib.hid h
  unfold Pl.isStep at hs
  have HS := Lib.hid hs
  clear hc ha hs h
  go_enter Try.func32, Try.ntmps32
  go_upto_if 19 with fail
  go_cut [7] (fun s7 wx => s7 = .int .i64 (Pl.thr c s) ∧ wx = w.alloc (.cells #[.int .i64 0, .int .i64 0] 31))
  case first =>
    by_cases hz : s.n = 0
    · have ht : Hid (Pl.thr c s = c.sf) := if_pos hz
      have tz : (s.n == 0) = true := by simp [hz]
      clear hz
      go_wp2_with fail
      go_meet
      case rel => exact ⟨by rw [ht.out], rfl⟩
    · have ht : Hid (Pl.thr c s = c.sl) := if_neg hz
      have tz : (s.n == 0) = false := by simp [hz]
      clear hz
      go_wp2_with fail
      go_meet
      case rel => exact ⟨by rw [ht.out], rfl⟩
  case rest =>
    obtain ⟨rfl, rfl⟩ := hcut
    go_upto_region 5 with fail
    go_cut [41] (fun x wx => x = .bool false ∧ Mid 56 b c ⟨s.g, s.n + 1, s.f⟩ w wx)
    case first =>
      have hM : Mid 56 b c ⟨s.g, s.n + 1, s.f⟩ w ((w.setCell ⟨b, 6, none⟩ (.int .i64 (s.n + 1))).alloc (.cells #[.int .i64 0, .int .i64 0] 31)) :=
        ⟨(sv_set6 c s (s.n + 1) ▸ HB.out.set_ 6 _ : Blk _ b _ (sv c ⟨s.g, s.n + 1, s.f⟩)).alloc _, only_alloc (only_setCell (only_refl _ _) (.inl rfl) _) _, by have := Blk.new (w.setCell ⟨b, 6, none⟩ (.int .i64 (s.n + 1))) 31 #[.int .i64 0, .int .i64 0]; simpa [World.setCell] using this, HB.out.lt⟩
      have HM := Lib.hid hM
      clear hM
      have hs := HS.out
      by_cases t1 : 0 < Pl.thr c s
      · have t2 : ¬ Pl.thr c s < max o (-o) := by simpa [t1] using hs
        clear hs
        go_wp2_with fail
        go_meet
        case rel => exact ⟨rfl, HM.out⟩
      · clear hs
        go_wp2_with fail
        go_meet
        case rel => exact ⟨rfl, HM.out⟩
    case rest =>
      obtain ⟨rfl, hM⟩ := hcut
      clear h0 h1 h2 h3 h4 h5 h6 h7 f5 f6 f7
      obtain ⟨h0, h1, h2, h3, h4, h5, h6, h7, f5, f6, f7⟩ := sv_cells hM.blk
      obtain ⟨⟨b0, b1⟩, b2, b3⟩ := hM.cells
      have hltx := hM.blk.lt
      have hlty := hM.box.lt
      have HM := Lib.hid hM
      clear hM
      go_wp2_with (go_at_call 42; refine (sslope_any _ _ _ HA.out).mono ?_; rintro e w' ⟨rfl, n1, rfl⟩)
      have kw1 : IntKind.i64.wrap (s.g + Pl.gainI c.ki (Pl.slopeI o p)) = s.g + Pl.gainI c.ki (Pl.slopeI o p) := IntWalk.i64_in _ (by omega)
      have kw2 : IntKind.i64.wrap (-c.lim) = -c.lim := IntWalk.i64_in _ (by omega)
      go_cut [] (fun wx => Mid 56 b c ⟨Pl.newG c s o p, s.n + 1, s.f⟩ w wx)
      case first =>
        go_region_with (first
          | (go_at_call 43; refine (sgain_any _ _ _ g1 g2 s1 s2).mono ?_; rintro e w' ⟨rfl, n2, rfl⟩)
          | (go_at_call 41; refine (sclamp_any _ _ _ _).mono ?_; rintro e w' ⟨rfl, rfl⟩))
        all_goals (go_wp2_with fail; go_meet; exact ((HM.out.drewN _).set5 _))
      case rest =>
        have hM := hcut
        clear hcut h0 h1 h2 h3 h4 h5 h6 h7 f5 f6 f7 b0 b1 b2 b3 hltx hlty kw1 HM
        obtain ⟨h0, h1, h2, h3, h4, h5, h6, h7, f5, f6, f7⟩ := sv_cells hM.blk
        obtain ⟨⟨b0, b1⟩, b2, b3⟩ := hM.cells
        have hltx := hM.blk.lt
        have hlty := hM.box.lt
        have HM := Lib.hid hM
        clear hM
        have kw3 : IntKind.i64.wrap (Pl.gainI c.kp (Pl.slopeI o p) + Pl.newG c s o p) = Pl.gainI c.kp (Pl.slopeI o p) + Pl.newG c s o p := IntWalk.i64_in _ (by unfold Pl.newG; omega)
        go_wp2_with fail
        go_cut [] (fun wx => Mid 56 b c ⟨Pl.newG c s o p, s.n + 1, Pl.newF c s o p⟩ w wx)
        case first =>
          go_region_with (first
            | (go_at_call 43; refine (sgain_any _ _ _ g3 g4 s1 s2).mono ?_; rintro e w' ⟨rfl, n2, rfl⟩)
            | (go_at_call 41; refine (sclamp_any _ _ _ _).mono ?_; rintro e w' ⟨rfl, rfl⟩))
          all_goals (go_wp2_with fail; go_meet; exact ((HM.out.drewN _).set7 _))
        case rest =>
          have hM := hcut
          clear hcut h0 h1 h2 h3 h4 h5 h6 h7 f5 f6 f7 b0 b1 b2 b3 hltx hlty kw2 kw3 HM
          obtain ⟨h0, h1, h2, h3, h4, h5, h6, h7, f5, f6, f7⟩ := sv_cells hM.blk
          obtain ⟨⟨b0, b1⟩, b2, b3⟩ := hM.cells
          have hltx := hM.blk.lt
          have hlty := hM.box.lt
          have HM := Lib.hid hM
          clear hM
          go_wp2
          refine bodyPost_ret (v := .agg #[.int .i64 1, .int .i64 (Pl.newF c s o p)]) (by simp [results, Try.results32, go_sem, b0, b1]) rfl ⟨rfl, ?_⟩
          exact HM.out.end_ _ _
end Go.Proofs.Ytaaocdgbflifhaa

/- The contract of the reference's moved. -/
import Derived.Test.YtcdholgafojjoaaClockRef4
namespace Go.Proofs.Ytcdholgafojjoaa
open Go.RowKit Go.Lib

theorem One.off {w W : World} {t : TypeId} {c : Array Value} {e : Nat} (h : One w W t c) (he : w.heap.size < e) (i : Nat) (u : Value) : One w (W.setCell ⟨e, i, none⟩ u) t c :=
  ⟨Below.setCell (p := ⟨e, i, none⟩) h.1 (Nat.le_of_lt he) u, h.2.far (p := ⟨e, i, none⟩) (by show w.heap.size ≠ e; omega) u⟩

set_option maxHeartbeats 8000000 in
theorem rmoved_yes (b : Nat) (s : Pl.CS) (raw : Int) (w : World) (hk : Blk w b 53 (csA s)) (h : s.ok = true) (hE : Pl.nowE s raw = 0) :
    Calls Try.prog 41 #[.pointer (some ⟨b, 0, none⟩), .int .i64 raw] w fun e w' => e = .returned (.tuple #[csV (Pl.moved s raw), .int .i64 0]) ∧ Below w.heap.size w w' := by
  obtain ⟨_, _, h3, _, h5, h6, h7, _⟩ := Pl.CS.ok_iff.1 h
  obtain ⟨m1, m2⟩ := Pl.moved_ok h hE
  have hr : raw ≤ 4503599627370496 := (Pl.CS.ok_iff.1 m1).1.2
  have hr0 := (Pl.CS.ok_iff.1 h).1.1
  have hT : Pl.nowT s raw = Pl.shown s (raw - s.raw) := by unfold Pl.nowT; rw [if_pos hE]
  have N := Lib.hid (fun W k => rnow10_at h hT hE b W k)
  have P0 := Lib.hid (fun W => rpart_any (raw - s.raw) s.rate ⟨by omega, by omega, by omega, by omega⟩ W)
  have pi := Pl.part_in (e := raw - s.raw) (p := s.rate) (by omega) (by omega) (by omega)
  have pj := Pl.part_up (e := 0) (e' := raw - s.raw) (by omega) h5
  rw [Pl.part_zero] at pj
  unfold Pl.moved
  obtain ⟨X, hX⟩ : ∃ X, Pl.shown s (raw - s.raw) = X := ⟨_, rfl⟩
  obtain ⟨P, hP⟩ : ∃ P, Pl.part (raw - s.raw) s.rate = P := ⟨_, rfl⟩
  rw [hX] at N ⊢
  rw [hP] at P0 pi pj
  have HK := Lib.hid hk
  obtain ⟨G, hG⟩ : ∃ G, min (max s.left (-s.left)) P = G := ⟨_, rfl⟩
  have G0 : 0 ≤ G ∧ G ≤ 4503599627370496 := by omega
  clear hT hX hk hE h m1
  by_cases c : 0 < s.left
  · have cp := eq_true c
    have SG := Lib.hid (fun W => rsign_any s.left W)
    simp only [cp, if_true] at SG
    have hN : Pl.leftAfter s (raw - s.raw) = s.left - G := by unfold Pl.leftAfter; rw [hP]; simp only [cp, if_true]; omega
    have a1 : IntKind.i64.wrap (-s.left) = -s.left := IntWalk.i64_in _ (by omega)
    have a2 : IntKind.i64.wrap (raw - s.raw) = raw - s.raw := IntWalk.i64_in _ (by omega)
    have a3 : IntKind.i64.wrap G = G := IntWalk.i64_in _ (by omega)
    have a4 : IntKind.i64.wrap (-G) = -G := IntWalk.i64_in _ (by omega)
    have a5 : IntKind.i64.wrap (s.left - G) = s.left - G := IntWalk.i64_in _ (by omega)
    have a6 : IntKind.i64.wrap (s.left - -G) = s.left - -G := IntWalk.i64_in _ (by omega)
    have a7 : IntKind.i64.wrap 0 = 0 := IntWalk.i64_in _ (by omega)
    have a8 : IntKind.i64.wrap (s.left - 0) = s.left - 0 := IntWalk.i64_in _ (by omega)
    have a9 : IntKind.i64.wrap s.left = s.left := IntWalk.i64_in _ (by omega)
    have a10 : IntKind.i64.wrap (s.left + G) = s.left + G := IntWalk.i64_in _ (by omega)
    rw [hN]
    obtain ⟨RT, hRT⟩ : ∃ RT, (if s.left - G = 0 then 0 else s.rate) = RT := ⟨_, rfl⟩
    rw [hRT]
    go_enter Try.func41, Try.ntmps41
    go_wp2_with fail
    refine (N.out _ (HK.out.alloc _)).mono ?_
    rintro _ w1 ⟨rfl, l1⟩
    have K1 := (one_mk w 23 #[.int .i64 0, .int .i64 0, .int .i64 0, .int .i64 0, .int .i64 0, .int .i64 0]).on l1
    have hk1 := (HK.out.alloc (.cells #[.int .i64 0, .int .i64 0, .int .i64 0, .int .i64 0, .int .i64 0, .int .i64 0] 23)).below_ l1
    obtain ⟨k0, k1, k2, k3, k4, k5⟩ := cs_cells hk1
    have kz := hk1.lt
    have HB := Lib.hid (And.intro (K1.on (bel_bx w1 (.cells (csA s) 23))) (Blk.new w1 23 (csA s)))
    have he1 := K1.2.lt
    clear l1 K1 hk1
    go_upto_region 5 with fail
    go_cut [8, 9] (fun v8 v9 wx => ∃ e, v8 = .pointer (some ⟨e, 0, none⟩) ∧ v9 = .int .i64 G ∧ w.heap.size < e ∧ Hid (One w wx 23 #[.int .i64 0, .int .i64 0, .int .i64 0, .int .i64 0, .int .i64 0, .int .i64 0] ∧ Blk wx e 23 (csA s)))
    case first =>
      go_region_held3 (fun w' => w'.cell? ⟨w1.heap.size, 0, none⟩ = some (.int .i64 s.raw) ∧ w'.cell? ⟨w1.heap.size, 3, none⟩ = some (.int .i64 s.left) ∧ w'.cell? ⟨w1.heap.size, 4, none⟩ = some (.int .i64 s.rate)) (first | exact ⟨HB.out.2.cell 0, HB.out.2.cell 3, HB.out.2.cell 4⟩ | exact ⟨HB.out.2.drew.cell 0, HB.out.2.drew.cell 3, HB.out.2.drew.cell 4⟩) ((go_at_call 45; refine (P0.out _).mono ?_; rintro _ w2 ⟨rfl, rfl⟩))
      all_goals (go_wp2_with fail; go_meet; exact ⟨_, rfl, rfl, he1, Lib.hid ⟨HB.out.1.drew, HB.out.2.drew⟩⟩)
    case rest =>
      obtain ⟨e, rfl, rfl, he, HC⟩ := hcut
      clear k0 k1 k2 k3 k4 k5 kz HB he1
      have B := HC.out.2
      obtain ⟨k0, k1, k2, k3, k4, k5⟩ := cs_cells B
      have kz := B.lt
      have q3 := B.frozen 3
      clear B
      go_wp2_with fail
      go_cut [] (fun wx => Hid (One w wx 23 #[.int .i64 0, .int .i64 0, .int .i64 0, .int .i64 0, .int .i64 0, .int .i64 0] ∧ Blk wx e 23 (csA ⟨s.raw, s.time, s.ppb, s.left - G, s.rate, s.steps⟩)))
      case first =>
        go_region_with (go_at_call 46; refine (SG.out _).mono ?_; rintro _ w2 ⟨rfl, rfl⟩)
        all_goals (
          go_wp2_with fail
          go_meet
          have q := (HC.out.1.off he 3 (.int .i64 (s.left - G))).drew
          have q2 := (HC.out.2.set_ 3 (.int .i64 (s.left - G))).drew
          first | exact Lib.hid ⟨q, q2⟩ | exact Lib.hid ⟨HC.out.1.off he 3 _, HC.out.2.set_ 3 _⟩)
      case rest =>
        have HKC := hcut
        clear k0 k1 k2 k3 k4 k5 kz q3 HC hcut
        have B := HKC.out.2
        obtain ⟨k0, k1, k2, k3, k4, k5⟩ := cs_cells B
        have kz := B.lt
        have q4 := B.frozen 4
        clear B
        go_upto_if 49 with fail
        go_cut [] (fun wx => Hid (One w wx 23 #[.int .i64 0, .int .i64 0, .int .i64 0, .int .i64 0, .int .i64 0, .int .i64 0] ∧ Blk wx e 23 (csA ⟨s.raw, s.time, s.ppb, s.left - G, RT, s.steps⟩)))
        case first =>
          by_cases tz : s.left - G = 0
          · have t : (s.left - G == 0) = true := by simp only [tz]; rfl
            rw [if_pos tz] at hRT
            subst hRT
            clear tz
            go_wp2_with fail
            go_meet
            exact Lib.hid ⟨HKC.out.1.off he 4 _, HKC.out.2.set_ 4 _⟩
          · have t : (s.left - G == 0) = false := by simp only [beq_eq_false_iff_ne]; exact tz
            rw [if_neg tz] at hRT
            subst hRT
            clear tz
            go_wp2_with fail
            all_goals (go_meet; exact HKC)
        case rest =>
          have HKC := hcut
          clear k0 k1 k2 k3 k4 k5 kz q4 hcut hRT
          have B := HKC.out.2
          obtain ⟨k0, k1, k2, k3, k4, k5⟩ := cs_cells B
          have kz := B.lt
          have q0 := B.frozen 0
          clear B
          go_upto_region 9 with fail
          go_cut [] (fun wx => Hid (One w wx 23 #[.int .i64 0, .int .i64 0, .int .i64 0, .int .i64 0, .int .i64 0, .int .i64 0] ∧ Blk wx e 23 (csA ⟨raw, s.time, s.ppb, s.left - G, RT, s.steps⟩)))
          case first =>
            go_wp2_with fail
            go_meet
            exact Lib.hid ⟨HKC.out.1.off he 0 _, HKC.out.2.set_ 0 _⟩
          case rest =>
            have HKC := hcut
            clear k0 k1 k2 k3 k4 k5 kz q0 hcut
            have B := HKC.out.2
            obtain ⟨k0, k1, k2, k3, k4, k5⟩ := cs_cells B
            have kz := B.lt
            have q1 := B.frozen 1
            clear B
            go_upto_region 10 with fail
            go_cut [] (fun wx => Hid (One w wx 23 #[.int .i64 0, .int .i64 0, .int .i64 0, .int .i64 0, .int .i64 0, .int .i64 0] ∧ Blk wx e 23 (csA ⟨raw, X, s.ppb, s.left - G, RT, s.steps⟩)))
            case first =>
              go_wp2_with fail
              go_meet
              exact Lib.hid ⟨HKC.out.1.off he 1 _, HKC.out.2.set_ 1 _⟩
            case rest =>
              have HKC := hcut
              clear k0 k1 k2 k3 k4 k5 kz q1 hcut
              have B := HKC.out.2
              obtain ⟨k0, k1, k2, k3, k4, k5⟩ := cs_cells B
              have kz := B.lt
              clear B
              have A := HKC.out.1
              have z0 : wc.cell? ⟨w.heap.size, 0, none⟩ = some (.int .i64 0) := A.2.cell 0
              have z1 : wc.cell? ⟨w.heap.size, 1, none⟩ = some (.int .i64 0) := A.2.cell 1
              have z2 : wc.cell? ⟨w.heap.size, 2, none⟩ = some (.int .i64 0) := A.2.cell 2
              have z3 : wc.cell? ⟨w.heap.size, 3, none⟩ = some (.int .i64 0) := A.2.cell 3
              have z4 : wc.cell? ⟨w.heap.size, 4, none⟩ = some (.int .i64 0) := A.2.cell 4
              have z5 : wc.cell? ⟨w.heap.size, 5, none⟩ = some (.int .i64 0) := A.2.cell 5
              have f0 := A.2.frozen 0
              have f1 := A.2.frozen 1
              have f2 := A.2.frozen 2
              have f3 := A.2.frozen 3
              have f4 := A.2.frozen 4
              have f5 := A.2.frozen 5
              have kz2 := A.2.lt
              clear A
              go_wp2_with fail
              refine bodyPost_ret (v := .tuple #[csV ⟨raw, X, s.ppb, s.left - G, RT, s.steps⟩, .int .i64 0]) (by simp [results, Try.results41, go_sem, z0, z1, z2, z3, z4, z5, kz2]) rfl ⟨rfl, ?_⟩
              exact one6 HKC.out.1 _ _ _ _ _ _
  · by_cases c2 : s.left < 0
    · have cn := eq_false c
      have cp := eq_true c2
      have SG := Lib.hid (fun W => rsign_any s.left W)
      simp only [cn, cp, if_true, if_false] at SG
      have hN : Pl.leftAfter s (raw - s.raw) = s.left + G := by unfold Pl.leftAfter; rw [hP]; simp only [cn, cp, if_true, if_false]; omega
      have a1 : IntKind.i64.wrap (-s.left) = -s.left := IntWalk.i64_in _ (by omega)
      have a2 : IntKind.i64.wrap (raw - s.raw) = raw - s.raw := IntWalk.i64_in _ (by omega)
      have a3 : IntKind.i64.wrap G = G := IntWalk.i64_in _ (by omega)
      have a4 : IntKind.i64.wrap (-G) = -G := IntWalk.i64_in _ (by omega)
      have a5 : IntKind.i64.wrap (s.left - G) = s.left - G := IntWalk.i64_in _ (by omega)
      have a6 : IntKind.i64.wrap (s.left - -G) = s.left - -G := IntWalk.i64_in _ (by omega)
      have a7 : IntKind.i64.wrap 0 = 0 := IntWalk.i64_in _ (by omega)
      have a8 : IntKind.i64.wrap (s.left - 0) = s.left - 0 := IntWalk.i64_in _ (by omega)
      have a9 : IntKind.i64.wrap s.left = s.left := IntWalk.i64_in _ (by omega)
      have a10 : IntKind.i64.wrap (s.left + G) = s.left + G := IntWalk.i64_in _ (by omega)
      rw [hN]
      obtain ⟨RT, hRT⟩ : ∃ RT, (if s.left + G = 0 then 0 else s.rate) = RT := ⟨_, rfl⟩
      rw [hRT]
      go_enter Try.func41, Try.ntmps41
      go_wp2_with fail
      refine (N.out _ (HK.out.alloc _)).mono ?_
      rintro _ w1 ⟨rfl, l1⟩
      have K1 := (one_mk w 23 #[.int .i64 0, .int .i64 0, .int .i64 0, .int .i64 0, .int .i64 0, .int .i64 0]).on l1
      have hk1 := (HK.out.alloc (.cells #[.int .i64 0, .int .i64 0, .int .i64 0, .int .i64 0, .int .i64 0, .int .i64 0] 23)).below_ l1
      obtain ⟨k0, k1, k2, k3, k4, k5⟩ := cs_cells hk1
      have kz := hk1.lt
      have HB := Lib.hid (And.intro (K1.on (bel_bx w1 (.cells (csA s) 23))) (Blk.new w1 23 (csA s)))
      have he1 := K1.2.lt
      clear l1 K1 hk1
      go_upto_region 5 with fail
      go_cut [8, 9] (fun v8 v9 wx => ∃ e, v8 = .pointer (some ⟨e, 0, none⟩) ∧ v9 = .int .i64 G ∧ w.heap.size < e ∧ Hid (One w wx 23 #[.int .i64 0, .int .i64 0, .int .i64 0, .int .i64 0, .int .i64 0, .int .i64 0] ∧ Blk wx e 23 (csA s)))
      case first =>
        go_region_held3 (fun w' => w'.cell? ⟨w1.heap.size, 0, none⟩ = some (.int .i64 s.raw) ∧ w'.cell? ⟨w1.heap.size, 3, none⟩ = some (.int .i64 s.left) ∧ w'.cell? ⟨w1.heap.size, 4, none⟩ = some (.int .i64 s.rate)) (first | exact ⟨HB.out.2.cell 0, HB.out.2.cell 3, HB.out.2.cell 4⟩ | exact ⟨HB.out.2.drew.cell 0, HB.out.2.drew.cell 3, HB.out.2.drew.cell 4⟩) ((go_at_call 45; refine (P0.out _).mono ?_; rintro _ w2 ⟨rfl, rfl⟩))
        all_goals (go_wp2_with fail; go_meet; exact ⟨_, rfl, rfl, he1, Lib.hid ⟨HB.out.1.drew, HB.out.2.drew⟩⟩)
      case rest =>
        obtain ⟨e, rfl, rfl, he, HC⟩ := hcut
        clear k0 k1 k2 k3 k4 k5 kz HB he1
        have B := HC.out.2
        obtain ⟨k0, k1, k2, k3, k4, k5⟩ := cs_cells B
        have kz := B.lt
        have q3 := B.frozen 3
        clear B
        go_wp2_with fail
        go_cut [] (fun wx => Hid (One w wx 23 #[.int .i64 0, .int .i64 0, .int .i64 0, .int .i64 0, .int .i64 0, .int .i64 0] ∧ Blk wx e 23 (csA ⟨s.raw, s.time, s.ppb, s.left + G, s.rate, s.steps⟩)))
        case first =>
          go_region_with (go_at_call 46; refine (SG.out _).mono ?_; rintro _ w2 ⟨rfl, rfl⟩)
          all_goals (
            go_wp2_with fail
            go_meet
            have q := (HC.out.1.off he 3 (.int .i64 (s.left + G))).drew
            have q2 := (HC.out.2.set_ 3 (.int .i64 (s.left + G))).drew
            first | exact Lib.hid ⟨q, q2⟩ | exact Lib.hid ⟨HC.out.1.off he 3 _, HC.out.2.set_ 3 _⟩)
        case rest =>
          have HKC := hcut
          clear k0 k1 k2 k3 k4 k5 kz q3 HC hcut
          have B := HKC.out.2
          obtain ⟨k0, k1, k2, k3, k4, k5⟩ := cs_cells B
          have kz := B.lt
          have q4 := B.frozen 4
          clear B
          go_upto_if 49 with fail
          go_cut [] (fun wx => Hid (One w wx 23 #[.int .i64 0, .int .i64 0, .int .i64 0, .int .i64 0, .int .i64 0, .int .i64 0] ∧ Blk wx e 23 (csA ⟨s.raw, s.time, s.ppb, s.left + G, RT, s.steps⟩)))
          case first =>
            by_cases tz : s.left + G = 0
            · have t : (s.left + G == 0) = true := by simp only [tz]; rfl
              rw [if_pos tz] at hRT
              subst hRT
              clear tz
              go_wp2_with fail
              go_meet
              exact Lib.hid ⟨HKC.out.1.off he 4 _, HKC.out.2.set_ 4 _⟩
            · have t : (s.left + G == 0) = false := by simp only [beq_eq_false_iff_ne]; exact tz
              rw [if_neg tz] at hRT
              subst hRT
              clear tz
              go_wp2_with fail
              all_goals (go_meet; exact HKC)
          case rest =>
            have HKC := hcut
            clear k0 k1 k2 k3 k4 k5 kz q4 hcut hRT
            have B := HKC.out.2
            obtain ⟨k0, k1, k2, k3, k4, k5⟩ := cs_cells B
            have kz := B.lt
            have q0 := B.frozen 0
            clear B
            go_upto_region 9 with fail
            go_cut [] (fun wx => Hid (One w wx 23 #[.int .i64 0, .int .i64 0, .int .i64 0, .int .i64 0, .int .i64 0, .int .i64 0] ∧ Blk wx e 23 (csA ⟨raw, s.time, s.ppb, s.left + G, RT, s.steps⟩)))
            case first =>
              go_wp2_with fail
              go_meet
              exact Lib.hid ⟨HKC.out.1.off he 0 _, HKC.out.2.set_ 0 _⟩
            case rest =>
              have HKC := hcut
              clear k0 k1 k2 k3 k4 k5 kz q0 hcut
              have B := HKC.out.2
              obtain ⟨k0, k1, k2, k3, k4, k5⟩ := cs_cells B
              have kz := B.lt
              have q1 := B.frozen 1
              clear B
              go_upto_region 10 with fail
              go_cut [] (fun wx => Hid (One w wx 23 #[.int .i64 0, .int .i64 0, .int .i64 0, .int .i64 0, .int .i64 0, .int .i64 0] ∧ Blk wx e 23 (csA ⟨raw, X, s.ppb, s.left + G, RT, s.steps⟩)))
              case first =>
                go_wp2_with fail
                go_meet
                exact Lib.hid ⟨HKC.out.1.off he 1 _, HKC.out.2.set_ 1 _⟩
              case rest =>
                have HKC := hcut
                clear k0 k1 k2 k3 k4 k5 kz q1 hcut
                have B := HKC.out.2
                obtain ⟨k0, k1, k2, k3, k4, k5⟩ := cs_cells B
                have kz := B.lt
                clear B
                have A := HKC.out.1
                have z0 : wc.cell? ⟨w.heap.size, 0, none⟩ = some (.int .i64 0) := A.2.cell 0
                have z1 : wc.cell? ⟨w.heap.size, 1, none⟩ = some (.int .i64 0) := A.2.cell 1
                have z2 : wc.cell? ⟨w.heap.size, 2, none⟩ = some (.int .i64 0) := A.2.cell 2
                have z3 : wc.cell? ⟨w.heap.size, 3, none⟩ = some (.int .i64 0) := A.2.cell 3
                have z4 : wc.cell? ⟨w.heap.size, 4, none⟩ = some (.int .i64 0) := A.2.cell 4
                have z5 : wc.cell? ⟨w.heap.size, 5, none⟩ = some (.int .i64 0) := A.2.cell 5
                have f0 := A.2.frozen 0
                have f1 := A.2.frozen 1
                have f2 := A.2.frozen 2
                have f3 := A.2.frozen 3
                have f4 := A.2.frozen 4
                have f5 := A.2.frozen 5
                have kz2 := A.2.lt
                clear A
                go_wp2_with fail
                refine bodyPost_ret (v := .tuple #[csV ⟨raw, X, s.ppb, s.left + G, RT, s.steps⟩, .int .i64 0]) (by simp [results, Try.results41, go_sem, z0, z1, z2, z3, z4, z5, kz2]) rfl ⟨rfl, ?_⟩
                exact one6 HKC.out.1 _ _ _ _ _ _
    · have cn := eq_false c
      have cn2 := eq_false c2
      have SG := Lib.hid (fun W => rsign_any s.left W)
      simp only [cn, cn2, if_false] at SG
      have hN : Pl.leftAfter s (raw - s.raw) = s.left := by unfold Pl.leftAfter; rw [hP]; simp only [cn, cn2, if_false]; omega
      have a1 : IntKind.i64.wrap (-s.left) = -s.left := IntWalk.i64_in _ (by omega)
      have a2 : IntKind.i64.wrap (raw - s.raw) = raw - s.raw := IntWalk.i64_in _ (by omega)
      have a3 : IntKind.i64.wrap G = G := IntWalk.i64_in _ (by omega)
      have a4 : IntKind.i64.wrap (-G) = -G := IntWalk.i64_in _ (by omega)
      have a5 : IntKind.i64.wrap (s.left - G) = s.left - G := IntWalk.i64_in _ (by omega)
      have a6 : IntKind.i64.wrap (s.left - -G) = s.left - -G := IntWalk.i64_in _ (by omega)
      have a7 : IntKind.i64.wrap 0 = 0 := IntWalk.i64_in _ (by omega)
      have a8 : IntKind.i64.wrap (s.left - 0) = s.left - 0 := IntWalk.i64_in _ (by omega)
      have a9 : IntKind.i64.wrap s.left = s.left := IntWalk.i64_in _ (by omega)
      have a10 : IntKind.i64.wrap (s.left + G) = s.left + G := IntWalk.i64_in _ (by omega)
      rw [hN]
      obtain ⟨RT, hRT⟩ : ∃ RT, (if s.left = 0 then 0 else s.rate) = RT := ⟨_, rfl⟩
      rw [hRT]
      go_enter Try.func41, Try.ntmps41
      go_wp2_with fail
      refine (N.out _ (HK.out.alloc _)).mono ?_
      rintro _ w1 ⟨rfl, l1⟩
      have K1 := (one_mk w 23 #[.int .i64 0, .int .i64 0, .int .i64 0, .int .i64 0, .int .i64 0, .int .i64 0]).on l1
      have hk1 := (HK.out.alloc (.cells #[.int .i64 0, .int .i64 0, .int .i64 0, .int .i64 0, .int .i64 0, .int .i64 0] 23)).below_ l1
      obtain ⟨k0, k1, k2, k3, k4, k5⟩ := cs_cells hk1
      have kz := hk1.lt
      have HB := Lib.hid (And.intro (K1.on (bel_bx w1 (.cells (csA s) 23))) (Blk.new w1 23 (csA s)))
      have he1 := K1.2.lt
      clear l1 K1 hk1
      go_upto_region 5 with fail
      go_cut [8, 9] (fun v8 v9 wx => ∃ e, v8 = .pointer (some ⟨e, 0, none⟩) ∧ v9 = .int .i64 G ∧ w.heap.size < e ∧ Hid (One w wx 23 #[.int .i64 0, .int .i64 0, .int .i64 0, .int .i64 0, .int .i64 0, .int .i64 0] ∧ Blk wx e 23 (csA s)))
      case first =>
        go_region_held3 (fun w' => w'.cell? ⟨w1.heap.size, 0, none⟩ = some (.int .i64 s.raw) ∧ w'.cell? ⟨w1.heap.size, 3, none⟩ = some (.int .i64 s.left) ∧ w'.cell? ⟨w1.heap.size, 4, none⟩ = some (.int .i64 s.rate)) (first | exact ⟨HB.out.2.cell 0, HB.out.2.cell 3, HB.out.2.cell 4⟩ | exact ⟨HB.out.2.drew.cell 0, HB.out.2.drew.cell 3, HB.out.2.drew.cell 4⟩) ((go_at_call 45; refine (P0.out _).mono ?_; rintro _ w2 ⟨rfl, rfl⟩))
        all_goals (go_wp2_with fail; go_meet; exact ⟨_, rfl, rfl, he1, Lib.hid ⟨HB.out.1.drew, HB.out.2.drew⟩⟩)
      case rest =>
        obtain ⟨e, rfl, rfl, he, HC⟩ := hcut
        clear k0 k1 k2 k3 k4 k5 kz HB he1
        have B := HC.out.2
        obtain ⟨k0, k1, k2, k3, k4, k5⟩ := cs_cells B
        have kz := B.lt
        have q3 := B.frozen 3
        clear B
        go_wp2_with fail
        go_cut [] (fun wx => Hid (One w wx 23 #[.int .i64 0, .int .i64 0, .int .i64 0, .int .i64 0, .int .i64 0, .int .i64 0] ∧ Blk wx e 23 (csA ⟨s.raw, s.time, s.ppb, s.left, s.rate, s.steps⟩)))
        case first =>
          go_region_with (go_at_call 46; refine (SG.out _).mono ?_; rintro _ w2 ⟨rfl, rfl⟩)
          all_goals (
            go_wp2_with fail
            go_meet
            have q := (HC.out.1.off he 3 (.int .i64 (s.left))).drew
            have q2 := (HC.out.2.set_ 3 (.int .i64 (s.left))).drew
            first | exact Lib.hid ⟨q, q2⟩ | exact Lib.hid ⟨HC.out.1.off he 3 _, HC.out.2.set_ 3 _⟩)
        case rest =>
          have HKC := hcut
          clear k0 k1 k2 k3 k4 k5 kz q3 HC hcut
          have B := HKC.out.2
          obtain ⟨k0, k1, k2, k3, k4, k5⟩ := cs_cells B
          have kz := B.lt
          have q4 := B.frozen 4
          clear B
          go_upto_if 49 with fail
          go_cut [] (fun wx => Hid (One w wx 23 #[.int .i64 0, .int .i64 0, .int .i64 0, .int .i64 0, .int .i64 0, .int .i64 0] ∧ Blk wx e 23 (csA ⟨s.raw, s.time, s.ppb, s.left, RT, s.steps⟩)))
          case first =>
            by_cases tz : s.left = 0
            · have t : (s.left == 0) = true := by simp only [tz]; rfl
              rw [if_pos tz] at hRT
              subst hRT
              clear tz
              go_wp2_with fail
              go_meet
              exact Lib.hid ⟨HKC.out.1.off he 4 _, HKC.out.2.set_ 4 _⟩
            · have t : (s.left == 0) = false := by simp only [beq_eq_false_iff_ne]; exact tz
              rw [if_neg tz] at hRT
              subst hRT
              clear tz
              go_wp2_with fail
              all_goals (go_meet; exact HKC)
          case rest =>
            have HKC := hcut
            clear k0 k1 k2 k3 k4 k5 kz q4 hcut hRT
            have B := HKC.out.2
            obtain ⟨k0, k1, k2, k3, k4, k5⟩ := cs_cells B
            have kz := B.lt
            have q0 := B.frozen 0
            clear B
            go_upto_region 9 with fail
            go_cut [] (fun wx => Hid (One w wx 23 #[.int .i64 0, .int .i64 0, .int .i64 0, .int .i64 0, .int .i64 0, .int .i64 0] ∧ Blk wx e 23 (csA ⟨raw, s.time, s.ppb, s.left, RT, s.steps⟩)))
            case first =>
              go_wp2_with fail
              go_meet
              exact Lib.hid ⟨HKC.out.1.off he 0 _, HKC.out.2.set_ 0 _⟩
            case rest =>
              have HKC := hcut
              clear k0 k1 k2 k3 k4 k5 kz q0 hcut
              have B := HKC.out.2
              obtain ⟨k0, k1, k2, k3, k4, k5⟩ := cs_cells B
              have kz := B.lt
              have q1 := B.frozen 1
              clear B
              go_upto_region 10 with fail
              go_cut [] (fun wx => Hid (One w wx 23 #[.int .i64 0, .int .i64 0, .int .i64 0, .int .i64 0, .int .i64 0, .int .i64 0] ∧ Blk wx e 23 (csA ⟨raw, X, s.ppb, s.left, RT, s.steps⟩)))
              case first =>
                go_wp2_with fail
                go_meet
                exact Lib.hid ⟨HKC.out.1.off he 1 _, HKC.out.2.set_ 1 _⟩
              case rest =>
                have HKC := hcut
                clear k0 k1 k2 k3 k4 k5 kz q1 hcut
                have B := HKC.out.2
                obtain ⟨k0, k1, k2, k3, k4, k5⟩ := cs_cells B
                have kz := B.lt
                clear B
                have A := HKC.out.1
                have z0 : wc.cell? ⟨w.heap.size, 0, none⟩ = some (.int .i64 0) := A.2.cell 0
                have z1 : wc.cell? ⟨w.heap.size, 1, none⟩ = some (.int .i64 0) := A.2.cell 1
                have z2 : wc.cell? ⟨w.heap.size, 2, none⟩ = some (.int .i64 0) := A.2.cell 2
                have z3 : wc.cell? ⟨w.heap.size, 3, none⟩ = some (.int .i64 0) := A.2.cell 3
                have z4 : wc.cell? ⟨w.heap.size, 4, none⟩ = some (.int .i64 0) := A.2.cell 4
                have z5 : wc.cell? ⟨w.heap.size, 5, none⟩ = some (.int .i64 0) := A.2.cell 5
                have f0 := A.2.frozen 0
                have f1 := A.2.frozen 1
                have f2 := A.2.frozen 2
                have f3 := A.2.frozen 3
                have f4 := A.2.frozen 4
                have f5 := A.2.frozen 5
                have kz2 := A.2.lt
                clear A
                go_wp2_with fail
                refine bodyPost_ret (v := .tuple #[csV ⟨raw, X, s.ppb, s.left, RT, s.steps⟩, .int .i64 0]) (by simp [results, Try.results41, go_sem, z0, z1, z2, z3, z4, z5, kz2]) rfl ⟨rfl, ?_⟩
                exact one6 HKC.out.1 _ _ _ _ _ _
end Go.Proofs.Ytcdholgafojjoaa

/- The walk of SysclockStates. -/
import Derived.Test.YtcdholgafojjoaaClockRef
import Derived.Test.YtcdholgafojjoaaClockLaw
import Derived.Test.YtcdholgafojjoaaOpen
import Derived.Deep.DeepCutAuto
namespace Go.Proofs.Ytcdholgafojjoaa
open Go.RowKit Go.Lib

set_option maxRecDepth 100000 in
set_option maxHeartbeats 8000000 in
theorem sysclockStates_go (s : Pl.CS) (w : World) : Calls Try.prog 3 #[csV s] w fun e w' => e = .returned (.bool true) ∧ Below w.heap.size w w' := by
  have K := stB_mk w s
  obtain ⟨k0, k1, k2, k3, k4, k5⟩ := cs_cells K.2
  have kz := K.2.lt
  cases h1 : s.ok with
  | true =>
    have O1 := Lib.hid (fun W => cof_yes s h1 W)
    have O2 := Lib.hid (fun W => rof_yes s h1 W)
    cases h2 : (⟨s.raw, s.time, 0, 0, 0, 0⟩ : Pl.CS).ok with
    | true =>
      have N1 := Lib.hid (fun W => cnew_yes s.raw s.time h2 W)
      have N2 := Lib.hid (fun W => rnew10_yes s.raw s.time h2 W)
      clear h1 h2
      go_enter Try.func3, Try.ntmps3
      go_wp2_with fail
      go_cut [3, 4] (fun v1 v2 wx => ∃ b b2, v1 = .pointer (some ⟨b, 0, none⟩) ∧ v2 = .pointer (some ⟨b2, 0, none⟩) ∧ Hid (StB w wx s ∧ Blk wx b 51 (csA s)))
      case first =>
        go_region_held3 (fun w' => w'.cell? ⟨w.heap.size, 0, none⟩ = some (.int .i64 s.raw) ∧ w'.cell? ⟨w.heap.size, 1, none⟩ = some (.int .i64 s.time) ∧ w'.cell? ⟨w.heap.size, 2, none⟩ = some (.int .i64 s.ppb) ∧ w'.cell? ⟨w.heap.size, 3, none⟩ = some (.int .i64 s.left) ∧ w'.cell? ⟨w.heap.size, 4, none⟩ = some (.int .i64 s.rate) ∧ w'.cell? ⟨w.heap.size, 5, none⟩ = some (.int .i64 s.steps)) (first | exact cs_cells K.2 | exact cs_cells K.drew.2) ((first
          | (go_at_call 11; refine (O1.out _).mono ?_; rintro _ w5 ⟨b, rfl, _, hkb, l5⟩; have hk : Blk w5 b 51 (csA s) := hkb; have K : StB w w5 s := (by first | exact K.on l5 | exact K.drew.on l5))
          | (go_at_call 12; refine (O2.out _).mono ?_; rintro _ w6 ⟨b2, rfl, _, _, l6⟩; (try (have hk : Blk w6 b 51 (csA s) := (by first | exact hk.below_ l6 | exact hk.drew.below_ l6))); have K : StB w w6 s := (by first | exact K.on l6 | exact K.drew.on l6))))
        all_goals (go_wp2_with fail; go_meet; exact ⟨_, _, rfl, rfl, Lib.hid ⟨(by first | exact K | exact K.drew), (by first | exact hk | exact hk.drew)⟩⟩)
      case rest =>
        obtain ⟨b, b2, rfl, rfl, HK⟩ := hcut
        clear K
        have K := HK.out.1
        have hk := HK.out.2
        have STA := Lib.hid (fun W (k : Blk W b 51 (csA s)) => (cstate_any b s W k : Calls Try.prog 13 #[.pointer (some ⟨b, 0, none⟩)] W fun e W' => e = .returned (.agg #[.int .i64 s.raw, .int .i64 s.time, .int .i64 s.ppb, .int .i64 s.left, .int .i64 s.rate, .int .i64 s.steps]) ∧ Below W.heap.size W W'))
        clear HK k0 k1 k2 k3 k4 k5 kz
        have kz := K.2.lt
        go_upto_region 2 with fail
        go_cut [25] (fun v wx => v = .bool false ∧ Hid (StB w wx s))
        case first =>
          go_region_held3 (fun w' => w'.cell? ⟨w.heap.size, 0, none⟩ = some (.int .i64 s.raw) ∧ w'.cell? ⟨w.heap.size, 1, none⟩ = some (.int .i64 s.time) ∧ w'.cell? ⟨w.heap.size, 2, none⟩ = some (.int .i64 s.ppb) ∧ w'.cell? ⟨w.heap.size, 3, none⟩ = some (.int .i64 s.left) ∧ w'.cell? ⟨w.heap.size, 4, none⟩ = some (.int .i64 s.rate) ∧ w'.cell? ⟨w.heap.size, 5, none⟩ = some (.int .i64 s.steps)) (first | exact cs_cells K.2 | exact cs_cells K.drew.2) ((go_at_call 13; refine (STA.out _ (by first | exact hk | exact hk.drew)).mono ?_; rintro _ w7 ⟨rfl, l7⟩; have K : StB w w7 s := (by first | exact K.on l7 | exact K.drew.on l7)))
          all_goals (go_wp2_with fail; go_meet; exact ⟨rfl, Lib.hid (by first | exact K | exact K.drew)⟩)
        case rest =>
          obtain ⟨rfl, HK⟩ := hcut
          clear K hk STA
          have K := HK.out
          clear HK
          obtain ⟨k0, k1, k2, k3, k4, k5⟩ := cs_cells K.2
          have kz := K.2.lt
          go_wp2_with fail
          go_cut [5, 6] (fun v1 v2 wx => ∃ b b2, v1 = .pointer (some ⟨b, 0, none⟩) ∧ v2 = .pointer (some ⟨b2, 0, none⟩) ∧ Hid (StB w wx s ∧ Blk wx b 51 (csA ⟨s.raw, s.time, 0, 0, 0, 0⟩)))
          case first =>
            go_region_held3 (fun w' => w'.cell? ⟨w.heap.size, 0, none⟩ = some (.int .i64 s.raw) ∧ w'.cell? ⟨w.heap.size, 1, none⟩ = some (.int .i64 s.time) ∧ w'.cell? ⟨w.heap.size, 2, none⟩ = some (.int .i64 s.ppb) ∧ w'.cell? ⟨w.heap.size, 3, none⟩ = some (.int .i64 s.left) ∧ w'.cell? ⟨w.heap.size, 4, none⟩ = some (.int .i64 s.rate) ∧ w'.cell? ⟨w.heap.size, 5, none⟩ = some (.int .i64 s.steps)) (first | exact cs_cells K.2 | exact cs_cells K.drew.2) ((first
              | (go_at_call 14; refine (N1.out _).mono ?_; rintro _ w5 ⟨b, rfl, _, hkb, l5⟩; have hk : Blk w5 b 51 (csA ⟨s.raw, s.time, 0, 0, 0, 0⟩) := hkb; have K : StB w w5 s := (by first | exact K.on l5 | exact K.drew.on l5))
              | (go_at_call 15; refine (N2.out _).mono ?_; rintro _ w6 ⟨b2, rfl, _, _, l6⟩; (try (have hk : Blk w6 b 51 (csA ⟨s.raw, s.time, 0, 0, 0, 0⟩) := (by first | exact hk.below_ l6 | exact hk.drew.below_ l6))); have K : StB w w6 s := (by first | exact K.on l6 | exact K.drew.on l6))))
            all_goals (go_wp2_with fail; go_meet; exact ⟨_, _, rfl, rfl, Lib.hid ⟨(by first | exact K | exact K.drew), (by first | exact hk | exact hk.drew)⟩⟩)
          case rest =>
            obtain ⟨b, b2, rfl, rfl, HK⟩ := hcut
            clear K
            have K := HK.out.1
            have hk := HK.out.2
            have STA := Lib.hid (fun W (k : Blk W b 51 (csA ⟨s.raw, s.time, 0, 0, 0, 0⟩)) => (cstate_any b ⟨s.raw, s.time, 0, 0, 0, 0⟩ W k : Calls Try.prog 13 #[.pointer (some ⟨b, 0, none⟩)] W fun e W' => e = .returned (.agg #[.int .i64 s.raw, .int .i64 s.time, .int .i64 0, .int .i64 0, .int .i64 0, .int .i64 0]) ∧ Below W.heap.size W W'))
            clear HK k0 k1 k2 k3 k4 k5 kz
            have kz := K.2.lt
            go_upto_region 5 with fail
            go_cut [54] (fun v wx => v = .bool false ∧ Hid (StB w wx s))
            case first =>
              go_region_held3 (fun w' => w'.cell? ⟨w.heap.size, 0, none⟩ = some (.int .i64 s.raw) ∧ w'.cell? ⟨w.heap.size, 1, none⟩ = some (.int .i64 s.time) ∧ w'.cell? ⟨w.heap.size, 2, none⟩ = some (.int .i64 s.ppb) ∧ w'.cell? ⟨w.heap.size, 3, none⟩ = some (.int .i64 s.left) ∧ w'.cell? ⟨w.heap.size, 4, none⟩ = some (.int .i64 s.rate) ∧ w'.cell? ⟨w.heap.size, 5, none⟩ = some (.int .i64 s.steps)) (first | exact cs_cells K.2 | exact cs_cells K.drew.2) ((go_at_call 13; refine (STA.out _ (by first | exact hk | exact hk.drew)).mono ?_; rintro _ w7 ⟨rfl, l7⟩; have K : StB w w7 s := (by first | exact K.on l7 | exact K.drew.on l7)))
              all_goals (go_wp2_with fail; go_meet; exact ⟨rfl, Lib.hid (by first | exact K | exact K.drew)⟩)
            case rest =>
              obtain ⟨rfl, HK⟩ := hcut
              clear K hk STA
              have K := HK.out
              clear HK
              go_wp2_with fail
              refine (cawake_any _).mono ?_
              rintro _ w9 ⟨rfl, l9⟩
              have K := K.on l9
              go_wp2
              go_ret
              exact ⟨rfl, K.1⟩
    | false =>
      have N1 := Lib.hid (fun W => cnew_no s.raw s.time h2 W)
      have N2 := Lib.hid (fun W => rnew10_no s.raw s.time h2 W)
      clear h1 h2
      go_enter Try.func3, Try.ntmps3
      go_wp2_with fail
      go_cut [3, 4] (fun v1 v2 wx => ∃ b b2, v1 = .pointer (some ⟨b, 0, none⟩) ∧ v2 = .pointer (some ⟨b2, 0, none⟩) ∧ Hid (StB w wx s ∧ Blk wx b 51 (csA s)))
      case first =>
        go_region_held3 (fun w' => w'.cell? ⟨w.heap.size, 0, none⟩ = some (.int .i64 s.raw) ∧ w'.cell? ⟨w.heap.size, 1, none⟩ = some (.int .i64 s.time) ∧ w'.cell? ⟨w.heap.size, 2, none⟩ = some (.int .i64 s.ppb) ∧ w'.cell? ⟨w.heap.size, 3, none⟩ = some (.int .i64 s.left) ∧ w'.cell? ⟨w.heap.size, 4, none⟩ = some (.int .i64 s.rate) ∧ w'.cell? ⟨w.heap.size, 5, none⟩ = some (.int .i64 s.steps)) (first | exact cs_cells K.2 | exact cs_cells K.drew.2) ((first
          | (go_at_call 11; refine (O1.out _).mono ?_; rintro _ w5 ⟨b, rfl, _, hkb, l5⟩; have hk : Blk w5 b 51 (csA s) := hkb; have K : StB w w5 s := (by first | exact K.on l5 | exact K.drew.on l5))
          | (go_at_call 12; refine (O2.out _).mono ?_; rintro _ w6 ⟨b2, rfl, _, _, l6⟩; (try (have hk : Blk w6 b 51 (csA s) := (by first | exact hk.below_ l6 | exact hk.drew.below_ l6))); have K : StB w w6 s := (by first | exact K.on l6 | exact K.drew.on l6))))
        all_goals (go_wp2_with fail; go_meet; exact ⟨_, _, rfl, rfl, Lib.hid ⟨(by first | exact K | exact K.drew), (by first | exact hk | exact hk.drew)⟩⟩)
      case rest =>
        obtain ⟨b, b2, rfl, rfl, HK⟩ := hcut
        clear K
        have K := HK.out.1
        have hk := HK.out.2
        have STA := Lib.hid (fun W (k : Blk W b 51 (csA s)) => (cstate_any b s W k : Calls Try.prog 13 #[.pointer (some ⟨b, 0, none⟩)] W fun e W' => e = .returned (.agg #[.int .i64 s.raw, .int .i64 s.time, .int .i64 s.ppb, .int .i64 s.left, .int .i64 s.rate, .int .i64 s.steps]) ∧ Below W.heap.size W W'))
        clear HK k0 k1 k2 k3 k4 k5 kz
        have kz := K.2.lt
        go_upto_region 2 with fail
        go_cut [25] (fun v wx => v = .bool false ∧ Hid (StB w wx s))
        case first =>
          go_region_held3 (fun w' => w'.cell? ⟨w.heap.size, 0, none⟩ = some (.int .i64 s.raw) ∧ w'.cell? ⟨w.heap.size, 1, none⟩ = some (.int .i64 s.time) ∧ w'.cell? ⟨w.heap.size, 2, none⟩ = some (.int .i64 s.ppb) ∧ w'.cell? ⟨w.heap.size, 3, none⟩ = some (.int .i64 s.left) ∧ w'.cell? ⟨w.heap.size, 4, none⟩ = some (.int .i64 s.rate) ∧ w'.cell? ⟨w.heap.size, 5, none⟩ = some (.int .i64 s.steps)) (first | exact cs_cells K.2 | exact cs_cells K.drew.2) ((go_at_call 13; refine (STA.out _ (by first | exact hk | exact hk.drew)).mono ?_; rintro _ w7 ⟨rfl, l7⟩; have K : StB w w7 s := (by first | exact K.on l7 | exact K.drew.on l7)))
          all_goals (go_wp2_with fail; go_meet; exact ⟨rfl, Lib.hid (by first | exact K | exact K.drew)⟩)
        case rest =>
          obtain ⟨rfl, HK⟩ := hcut
          clear K hk STA
          have K := HK.out
          clear HK
          obtain ⟨k0, k1, k2, k3, k4, k5⟩ := cs_cells K.2
          have kz := K.2.lt
          go_wp2_with fail
          go_cut [5, 6] (fun v1 v2 wx => v1 = .pointer none ∧ v2 = .pointer none ∧ Hid (StB w wx s))
          case first =>
            go_region_held3 (fun w' => w'.cell? ⟨w.heap.size, 0, none⟩ = some (.int .i64 s.raw) ∧ w'.cell? ⟨w.heap.size, 1, none⟩ = some (.int .i64 s.time) ∧ w'.cell? ⟨w.heap.size, 2, none⟩ = some (.int .i64 s.ppb) ∧ w'.cell? ⟨w.heap.size, 3, none⟩ = some (.int .i64 s.left) ∧ w'.cell? ⟨w.heap.size, 4, none⟩ = some (.int .i64 s.rate) ∧ w'.cell? ⟨w.heap.size, 5, none⟩ = some (.int .i64 s.steps)) (first | exact cs_cells K.2 | exact cs_cells K.drew.2) ((first
              | (go_at_call 14; refine (N1.out _).mono ?_; rintro _ w5 ⟨rfl, l5⟩; have K : StB w w5 s := (by first | exact K.on l5 | exact K.drew.on l5))
              | (go_at_call 15; refine (N2.out _).mono ?_; rintro _ w6 ⟨rfl, l6⟩; have K : StB w w6 s := (by first | exact K.on l6 | exact K.drew.on l6))))
            all_goals (go_wp2_with fail; go_meet; exact ⟨rfl, rfl, Lib.hid (by first | exact K | exact K.drew)⟩)
          case rest =>
            obtain ⟨rfl, rfl, HK⟩ := hcut
            clear K
            have K := HK.out
            clear HK k0 k1 k2 k3 k4 k5 kz
            have kz := K.2.lt
            go_upto_region 5 with fail
            go_cut [54] (fun v wx => v = .bool false ∧ Hid (StB w wx s))
            case first =>
              refine wp_region_held_drew (S := (fun w' => w'.cell? ⟨w.heap.size, 0, none⟩ = some (.int .i64 s.raw) ∧ w'.cell? ⟨w.heap.size, 1, none⟩ = some (.int .i64 s.time) ∧ w'.cell? ⟨w.heap.size, 2, none⟩ = some (.int .i64 s.ppb) ∧ w'.cell? ⟨w.heap.size, 3, none⟩ = some (.int .i64 s.left) ∧ w'.cell? ⟨w.heap.size, 4, none⟩ = some (.int .i64 s.rate) ∧ w'.cell? ⟨w.heap.size, 5, none⟩ = some (.int .i64 s.steps))) (by kernel_rfl) (by exact cs_cells K.drew.2) (fun hHeld => ?_)
              refine wpAnyH_take (i := 0) (oi := ⟨some 36, _, _, _, _, _⟩) (v := .pointer none) rfl (by kernel_rfl) (by kernel_rfl) (by kernel_rfl) (fun _ _ _ h => h) (Or.inl ⟨rfl, by intro w hSw; (try dsimp only at hSw); go_simp⟩) (by assumption) ?_
              try simp only [Act.put, List.setIfInBounds_toArray, List.set_cons_zero, List.set_cons_succ]
              refine wpAnyH_take (i := 1) (oi := ⟨some 37, _, _, _, _, _⟩) (v := .bool false) rfl (by kernel_rfl) (by kernel_rfl) (by kernel_rfl) (fun _ _ _ h => h) (Or.inl ⟨rfl, by intro w hSw; (try dsimp only at hSw); go_simp⟩) (by assumption) ?_
              try simp only [Act.put, List.setIfInBounds_toArray, List.set_cons_zero, List.set_cons_succ]
              refine wpAnyH_take (i := 2) (oi := ⟨some 38, _, _, _, _, _⟩) (v := .pointer none) rfl (by kernel_rfl) (by kernel_rfl) (by kernel_rfl) (fun _ _ _ h => h) (Or.inl ⟨rfl, by intro w hSw; (try dsimp only at hSw); go_simp⟩) (by assumption) ?_
              try simp only [Act.put, List.setIfInBounds_toArray, List.set_cons_zero, List.set_cons_succ]
              refine wpAnyH_take (i := 3) (oi := ⟨some 39, _, _, _, _, _⟩) (v := .bool false) rfl (by kernel_rfl) (by kernel_rfl) (by kernel_rfl) (fun _ _ _ h => h) (Or.inl ⟨rfl, by intro w hSw; (try dsimp only at hSw); go_simp⟩) (by assumption) ?_
              try simp only [Act.put, List.setIfInBounds_toArray, List.set_cons_zero, List.set_cons_succ]
              refine wpAnyH_take (i := 4) (oi := ⟨some 40, _, _, _, _, _⟩) (v := .bool false) rfl (by kernel_rfl) (by kernel_rfl) (by kernel_rfl) (fun _ _ _ h => h) (Or.inl ⟨rfl, by intro w hSw; (try dsimp only at hSw); go_simp⟩) (by assumption) ?_
              try simp only [Act.put, List.setIfInBounds_toArray, List.set_cons_zero, List.set_cons_succ]
              refine wpAnyH_take (i := 5) (oi := ⟨some 41, _, _, _, _, _⟩) (v := .bool false) rfl (by kernel_rfl) (by kernel_rfl) (by kernel_rfl) (fun _ _ _ h => h) (Or.inl ⟨rfl, by intro w hSw; (try dsimp only at hSw); go_simp⟩) (by assumption) ?_
              try simp only [Act.put, List.setIfInBounds_toArray, List.set_cons_zero, List.set_cons_succ]
              refine wpAnyH_take (i := 6) (oi := ⟨some 42, _, _, _, _, _⟩) (v := .pointer none) rfl (by kernel_rfl) (by kernel_rfl) (by kernel_rfl) (fun _ _ _ h => h) (Or.inl ⟨rfl, by intro w hSw; (try dsimp only at hSw); go_simp⟩) (by assumption) ?_
              try simp only [Act.put, List.setIfInBounds_toArray, List.set_cons_zero, List.set_cons_succ]
              refine wpAnyH_take (i := 7) (oi := ⟨some 43, _, _, _, _, _⟩) (v := .bool false) rfl (by kernel_rfl) (by kernel_rfl) (by kernel_rfl) (fun _ _ _ h => h) (Or.inl ⟨rfl, by intro w hSw; (try dsimp only at hSw); go_simp⟩) (by assumption) ?_
              try simp only [Act.put, List.setIfInBounds_toArray, List.set_cons_zero, List.set_cons_succ]
              refine wpAnyH_take (i := 8) (oi := ⟨some 44, _, _, _, _, _⟩) (v := .bool false) rfl (by kernel_rfl) (by kernel_rfl) (by kernel_rfl) (fun _ _ _ h => h) (Or.inl ⟨rfl, by intro w hSw; (try dsimp only at hSw); go_simp⟩) (by assumption) ?_
              try simp only [Act.put, List.setIfInBounds_toArray, List.set_cons_zero, List.set_cons_succ]
              refine wpAnyH_take (i := 9) (oi := ⟨some 45, _, _, _, _, _⟩) (v := undef) rfl (by kernel_rfl) (by kernel_rfl) (by kernel_rfl) (fun _ _ _ h => h) (Or.inr ⟨rfl, rfl⟩) (by assumption) ?_
              try simp only [Act.put, List.setIfInBounds_toArray, List.set_cons_zero, List.set_cons_succ]
              refine wpAnyH_take (i := 10) (oi := ⟨some 46, _, _, _, _, _⟩) (v := undef) rfl (by kernel_rfl) (by kernel_rfl) (by kernel_rfl) (fun _ _ _ h => h) (Or.inr ⟨rfl, rfl⟩) (by assumption) ?_
              try simp only [Act.put, List.setIfInBounds_toArray, List.set_cons_zero, List.set_cons_succ]
              refine wpAnyH_take (i := 11) (oi := ⟨some 47, _, _, _, _, _⟩) (v := undef) rfl (by kernel_rfl) (by kernel_rfl) (by kernel_rfl) (fun _ _ _ h => h) (Or.inr ⟨rfl, rfl⟩) (by assumption) ?_
              try simp only [Act.put, List.setIfInBounds_toArray, List.set_cons_zero, List.set_cons_succ]
              refine wpAnyH_take (i := 12) (oi := ⟨some 48, _, _, _, _, _⟩) (v := undef) rfl (by kernel_rfl) (by kernel_rfl) (by kernel_rfl) (fun _ _ _ h => h) (Or.inr ⟨rfl, rfl⟩) (by assumption) ?_
              try simp only [Act.put, List.setIfInBounds_toArray, List.set_cons_zero, List.set_cons_succ]
              refine wpAnyH_take (i := 13) (oi := ⟨some 49, _, _, _, _, _⟩) (v := undef) rfl (by kernel_rfl) (by kernel_rfl) (by kernel_rfl) (fun _ _ _ h => h) (Or.inr ⟨rfl, rfl⟩) (by assumption) ?_
              try simp only [Act.put, List.setIfInBounds_toArray, List.set_cons_zero, List.set_cons_succ]
              refine wpAnyH_take (i := 14) (oi := ⟨some 50, _, _, _, _, _⟩) (v := undef) rfl (by kernel_rfl) (by kernel_rfl) (by kernel_rfl) (fun _ _ _ h => h) (Or.inr ⟨rfl, rfl⟩) (by assumption) ?_
              try simp only [Act.put, List.setIfInBounds_toArray, List.set_cons_zero, List.set_cons_succ]
              refine wpAnyH_take (i := 15) (oi := ⟨some 51, _, _, _, _, _⟩) (v := undef) rfl (by kernel_rfl) (by kernel_rfl) (by kernel_rfl) (fun _ _ _ h => h) (Or.inr ⟨rfl, rfl⟩) (by assumption) ?_
              try simp only [Act.put, List.setIfInBounds_toArray, List.set_cons_zero, List.set_cons_succ]
              refine wpAnyH_take (i := 16) (oi := ⟨some 52, _, _, _, _, _⟩) (v := undef) rfl (by kernel_rfl) (by kernel_rfl) (by kernel_rfl) (fun _ _ _ h => h) (Or.inr ⟨rfl, rfl⟩) (by assumption) ?_
              try simp only [Act.put, List.setIfInBounds_toArray, List.set_cons_zero, List.set_cons_succ]
              refine wpAnyH_take (i := 17) (oi := ⟨some 53, _, _, _, _, _⟩) (v := .bool false) rfl (by kernel_rfl) (by kernel_rfl) (by kernel_rfl) (fun _ _ _ h => h) (Or.inl ⟨rfl, by intro w hSw; (try dsimp only at hSw); go_simp⟩) (by assumption) ?_
              try simp only [Act.put, List.setIfInBounds_toArray, List.set_cons_zero, List.set_cons_succ]
              refine wpAnyH_take (i := 18) (oi := ⟨some 54, _, _, _, _, _⟩) (v := .bool false) rfl (by kernel_rfl) (by kernel_rfl) (by kernel_rfl) (fun _ _ _ h => h) (Or.inl ⟨rfl, by intro w hSw; (try dsimp only at hSw); go_simp⟩) (by assumption) ?_
              try simp only [Act.put, List.setIfInBounds_toArray, List.set_cons_zero, List.set_cons_succ]
              refine wpAnyH_done (by kernel_rfl) ?_ _
              go_wp2_with fail
              go_meet
              exact ⟨rfl, Lib.hid K.drew⟩
            case rest =>
              obtain ⟨rfl, HK⟩ := hcut
              clear K
              have K := HK.out
              clear HK
              go_wp2_with fail
              refine (cawake_any _).mono ?_
              rintro _ w9 ⟨rfl, l9⟩
              have K := K.on l9
              go_wp2
              go_ret
              exact ⟨rfl, K.1⟩
  | false =>
    have O1 := Lib.hid (fun W => cof_no s h1 W)
    have O2 := Lib.hid (fun W => rof_no s h1 W)
    cases h2 : (⟨s.raw, s.time, 0, 0, 0, 0⟩ : Pl.CS).ok with
    | true =>
      have N1 := Lib.hid (fun W => cnew_yes s.raw s.time h2 W)
      have N2 := Lib.hid (fun W => rnew10_yes s.raw s.time h2 W)
      clear h1 h2
      go_enter Try.func3, Try.ntmps3
      go_wp2_with fail
      go_cut [3, 4] (fun v1 v2 wx => v1 = .pointer none ∧ v2 = .pointer none ∧ Hid (StB w wx s))
      case first =>
        go_region_held3 (fun w' => w'.cell? ⟨w.heap.size, 0, none⟩ = some (.int .i64 s.raw) ∧ w'.cell? ⟨w.heap.size, 1, none⟩ = some (.int .i64 s.time) ∧ w'.cell? ⟨w.heap.size, 2, none⟩ = some (.int .i64 s.ppb) ∧ w'.cell? ⟨w.heap.size, 3, none⟩ = some (.int .i64 s.left) ∧ w'.cell? ⟨w.heap.size, 4, none⟩ = some (.int .i64 s.rate) ∧ w'.cell? ⟨w.heap.size, 5, none⟩ = some (.int .i64 s.steps)) (first | exact cs_cells K.2 | exact cs_cells K.drew.2) ((first
          | (go_at_call 11; refine (O1.out _).mono ?_; rintro _ w5 ⟨rfl, l5⟩; have K : StB w w5 s := (by first | exact K.on l5 | exact K.drew.on l5))
          | (go_at_call 12; refine (O2.out _).mono ?_; rintro _ w6 ⟨rfl, l6⟩; have K : StB w w6 s := (by first | exact K.on l6 | exact K.drew.on l6))))
        all_goals (go_wp2_with fail; go_meet; exact ⟨rfl, rfl, Lib.hid (by first | exact K | exact K.drew)⟩)
      case rest =>
        obtain ⟨rfl, rfl, HK⟩ := hcut
        clear K
        have K := HK.out
        clear HK k0 k1 k2 k3 k4 k5 kz
        have kz := K.2.lt
        go_upto_region 2 with fail
        go_cut [25] (fun v wx => v = .bool false ∧ Hid (StB w wx s))
        case first =>
          refine wp_region_held_drew (S := (fun w' => w'.cell? ⟨w.heap.size, 0, none⟩ = some (.int .i64 s.raw) ∧ w'.cell? ⟨w.heap.size, 1, none⟩ = some (.int .i64 s.time) ∧ w'.cell? ⟨w.heap.size, 2, none⟩ = some (.int .i64 s.ppb) ∧ w'.cell? ⟨w.heap.size, 3, none⟩ = some (.int .i64 s.left) ∧ w'.cell? ⟨w.heap.size, 4, none⟩ = some (.int .i64 s.rate) ∧ w'.cell? ⟨w.heap.size, 5, none⟩ = some (.int .i64 s.steps))) (by kernel_rfl) (by exact cs_cells K.drew.2) (fun hHeld => ?_)
          refine wpAnyH_take (i := 0) (oi := ⟨some 11, _, _, _, _, _⟩) (v := .pointer none) rfl (by kernel_rfl) (by kernel_rfl) (by kernel_rfl) (fun _ _ _ h => h) (Or.inl ⟨rfl, by intro w hSw; (try dsimp only at hSw); go_simp⟩) (by assumption) ?_
          try simp only [Act.put, List.setIfInBounds_toArray, List.set_cons_zero, List.set_cons_succ]
          refine wpAnyH_take (i := 1) (oi := ⟨some 12, _, _, _, _, _⟩) (v := .bool false) rfl (by kernel_rfl) (by kernel_rfl) (by kernel_rfl) (fun _ _ _ h => h) (Or.inl ⟨rfl, by intro w hSw; (try dsimp only at hSw); go_simp⟩) (by assumption) ?_
          try simp only [Act.put, List.setIfInBounds_toArray, List.set_cons_zero, List.set_cons_succ]
          refine wpAnyH_take (i := 2) (oi := ⟨some 13, _, _, _, _, _⟩) (v := .pointer none) rfl (by kernel_rfl) (by kernel_rfl) (by kernel_rfl) (fun _ _ _ h => h) (Or.inl ⟨rfl, by intro w hSw; (try dsimp only at hSw); go_simp⟩) (by assumption) ?_
          try simp only [Act.put, List.setIfInBounds_toArray, List.set_cons_zero, List.set_cons_succ]
          refine wpAnyH_take (i := 3) (oi := ⟨some 14, _, _, _, _, _⟩) (v := .bool false) rfl (by kernel_rfl) (by kernel_rfl) (by kernel_rfl) (fun _ _ _ h => h) (Or.inl ⟨rfl, by intro w hSw; (try dsimp only at hSw); go_simp⟩) (by assumption) ?_
          try simp only [Act.put, List.setIfInBounds_toArray, List.set_cons_zero, List.set_cons_succ]
          refine wpAnyH_take (i := 4) (oi := ⟨some 15, _, _, _, _, _⟩) (v := .bool false) rfl (by kernel_rfl) (by kernel_rfl) (by kernel_rfl) (fun _ _ _ h => h) (Or.inl ⟨rfl, by intro w hSw; (try dsimp only at hSw); go_simp⟩) (by assumption) ?_
          try simp only [Act.put, List.setIfInBounds_toArray, List.set_cons_zero, List.set_cons_succ]
          refine wpAnyH_take (i := 5) (oi := ⟨some 16, _, _, _, _, _⟩) (v := .bool false) rfl (by kernel_rfl) (by kernel_rfl) (by kernel_rfl) (fun _ _ _ h => h) (Or.inl ⟨rfl, by intro w hSw; (try dsimp only at hSw); go_simp⟩) (by assumption) ?_
          try simp only [Act.put, List.setIfInBounds_toArray, List.set_cons_zero, List.set_cons_succ]
          refine wpAnyH_take (i := 6) (oi := ⟨some 17, _, _, _, _, _⟩) (v := .pointer none) rfl (by kernel_rfl) (by kernel_rfl) (by kernel_rfl) (fun _ _ _ h => h) (Or.inl ⟨rfl, by intro w hSw; (try dsimp only at hSw); go_simp⟩) (by assumption) ?_
          try simp only [Act.put, List.setIfInBounds_toArray, List.set_cons_zero, List.set_cons_succ]
          refine wpAnyH_take (i := 7) (oi := ⟨some 18, _, _, _, _, _⟩) (v := .bool false) rfl (by kernel_rfl) (by kernel_rfl) (by kernel_rfl) (fun _ _ _ h => h) (Or.inl ⟨rfl, by intro w hSw; (try dsimp only at hSw); go_simp⟩) (by assumption) ?_
          try simp only [Act.put, List.setIfInBounds_toArray, List.set_cons_zero, List.set_cons_succ]
          refine wpAnyH_take (i := 8) (oi := ⟨some 19, _, _, _, _, _⟩) (v := .bool false) rfl (by kernel_rfl) (by kernel_rfl) (by kernel_rfl) (fun _ _ _ h => h) (Or.inl ⟨rfl, by intro w hSw; (try dsimp only at hSw); go_simp⟩) (by assumption) ?_
          try simp only [Act.put, List.setIfInBounds_toArray, List.set_cons_zero, List.set_cons_succ]
          refine wpAnyH_take (i := 9) (oi := ⟨some 20, _, _, _, _, _⟩) (v := undef) rfl (by kernel_rfl) (by kernel_rfl) (by kernel_rfl) (fun _ _ _ h => h) (Or.inr ⟨rfl, rfl⟩) (by assumption) ?_
          try simp only [Act.put, List.setIfInBounds_toArray, List.set_cons_zero, List.set_cons_succ]
          refine wpAnyH_take (i := 10) (oi := ⟨some 21, _, _, _, _, _⟩) (v := undef) rfl (by kernel_rfl) (by kernel_rfl) (by kernel_rfl) (fun _ _ _ h => h) (Or.inr ⟨rfl, rfl⟩) (by assumption) ?_
          try simp only [Act.put, List.setIfInBounds_toArray, List.set_cons_zero, List.set_cons_succ]
          refine wpAnyH_take (i := 11) (oi := ⟨some 22, _, _, _, _, _⟩) (v := undef) rfl (by kernel_rfl) (by kernel_rfl) (by kernel_rfl) (fun _ _ _ h => h) (Or.inr ⟨rfl, rfl⟩) (by assumption) ?_
          try simp only [Act.put, List.setIfInBounds_toArray, List.set_cons_zero, List.set_cons_succ]
          refine wpAnyH_take (i := 12) (oi := ⟨some 23, _, _, _, _, _⟩) (v := undef) rfl (by kernel_rfl) (by kernel_rfl) (by kernel_rfl) (fun _ _ _ h => h) (Or.inr ⟨rfl, rfl⟩) (by assumption) ?_
          try simp only [Act.put, List.setIfInBounds_toArray, List.set_cons_zero, List.set_cons_succ]
          refine wpAnyH_take (i := 13) (oi := ⟨some 24, _, _, _, _, _⟩) (v := .bool false) rfl (by kernel_rfl) (by kernel_rfl) (by kernel_rfl) (fun _ _ _ h => h) (Or.inl ⟨rfl, by intro w hSw; (try dsimp only at hSw); go_simp⟩) (by assumption) ?_
          try simp only [Act.put, List.setIfInBounds_toArray, List.set_cons_zero, List.set_cons_succ]
          refine wpAnyH_take (i := 14) (oi := ⟨some 25, _, _, _, _, _⟩) (v := .bool false) rfl (by kernel_rfl) (by kernel_rfl) (by kernel_rfl) (fun _ _ _ h => h) (Or.inl ⟨rfl, by intro w hSw; (try dsimp only at hSw); go_simp⟩) (by assumption) ?_
          try simp only [Act.put, List.setIfInBounds_toArray, List.set_cons_zero, List.set_cons_succ]
          refine wpAnyH_done (by kernel_rfl) ?_ _
          go_wp2_with fail
          go_meet
          exact ⟨rfl, Lib.hid K.drew⟩
        case rest =>
          obtain ⟨rfl, HK⟩ := hcut
          clear K
          have K := HK.out
          clear HK
          obtain ⟨k0, k1, k2, k3, k4, k5⟩ := cs_cells K.2
          have kz := K.2.lt
          go_wp2_with fail
          go_cut [5, 6] (fun v1 v2 wx => ∃ b b2, v1 = .pointer (some ⟨b, 0, none⟩) ∧ v2 = .pointer (some ⟨b2, 0, none⟩) ∧ Hid (StB w wx s ∧ Blk wx b 51 (csA ⟨s.raw, s.time, 0, 0, 0, 0⟩)))
          case first =>
            go_region_held3 (fun w' => w'.cell? ⟨w.heap.size, 0, none⟩ = some (.int .i64 s.raw) ∧ w'.cell? ⟨w.heap.size, 1, none⟩ = some (.int .i64 s.time) ∧ w'.cell? ⟨w.heap.size, 2, none⟩ = some (.int .i64 s.ppb) ∧ w'.cell? ⟨w.heap.size, 3, none⟩ = some (.int .i64 s.left) ∧ w'.cell? ⟨w.heap.size, 4, none⟩ = some (.int .i64 s.rate) ∧ w'.cell? ⟨w.heap.size, 5, none⟩ = some (.int .i64 s.steps)) (first | exact cs_cells K.2 | exact cs_cells K.drew.2) ((first
              | (go_at_call 14; refine (N1.out _).mono ?_; rintro _ w5 ⟨b, rfl, _, hkb, l5⟩; have hk : Blk w5 b 51 (csA ⟨s.raw, s.time, 0, 0, 0, 0⟩) := hkb; have K : StB w w5 s := (by first | exact K.on l5 | exact K.drew.on l5))
              | (go_at_call 15; refine (N2.out _).mono ?_; rintro _ w6 ⟨b2, rfl, _, _, l6⟩; (try (have hk : Blk w6 b 51 (csA ⟨s.raw, s.time, 0, 0, 0, 0⟩) := (by first | exact hk.below_ l6 | exact hk.drew.below_ l6))); have K : StB w w6 s := (by first | exact K.on l6 | exact K.drew.on l6))))
            all_goals (go_wp2_with fail; go_meet; exact ⟨_, _, rfl, rfl, Lib.hid ⟨(by first | exact K | exact K.drew), (by first | exact hk | exact hk.drew)⟩⟩)
          case rest =>
            obtain ⟨b, b2, rfl, rfl, HK⟩ := hcut
            clear K
            have K := HK.out.1
            have hk := HK.out.2
            have STA := Lib.hid (fun W (k : Blk W b 51 (csA ⟨s.raw, s.time, 0, 0, 0, 0⟩)) => (cstate_any b ⟨s.raw, s.time, 0, 0, 0, 0⟩ W k : Calls Try.prog 13 #[.pointer (some ⟨b, 0, none⟩)] W fun e W' => e = .returned (.agg #[.int .i64 s.raw, .int .i64 s.time, .int .i64 0, .int .i64 0, .int .i64 0, .int .i64 0]) ∧ Below W.heap.size W W'))
            clear HK k0 k1 k2 k3 k4 k5 kz
            have kz := K.2.lt
            go_upto_region 5 with fail
            go_cut [54] (fun v wx => v = .bool false ∧ Hid (StB w wx s))
            case first =>
              go_region_held3 (fun w' => w'.cell? ⟨w.heap.size, 0, none⟩ = some (.int .i64 s.raw) ∧ w'.cell? ⟨w.heap.size, 1, none⟩ = some (.int .i64 s.time) ∧ w'.cell? ⟨w.heap.size, 2, none⟩ = some (.int .i64 s.ppb) ∧ w'.cell? ⟨w.heap.size, 3, none⟩ = some (.int .i64 s.left) ∧ w'.cell? ⟨w.heap.size, 4, none⟩ = some (.int .i64 s.rate) ∧ w'.cell? ⟨w.heap.size, 5, none⟩ = some (.int .i64 s.steps)) (first | exact cs_cells K.2 | exact cs_cells K.drew.2) ((go_at_call 13; refine (STA.out _ (by first | exact hk | exact hk.drew)).mono ?_; rintro _ w7 ⟨rfl, l7⟩; have K : StB w w7 s := (by first | exact K.on l7 | exact K.drew.on l7)))
              all_goals (go_wp2_with fail; go_meet; exact ⟨rfl, Lib.hid (by first | exact K | exact K.drew)⟩)
            case rest =>
              obtain ⟨rfl, HK⟩ := hcut
              clear K hk STA
              have K := HK.out
              clear HK
              go_wp2_with fail
              refine (cawake_any _).mono ?_
              rintro _ w9 ⟨rfl, l9⟩
              have K := K.on l9
              go_wp2
              go_ret
              exact ⟨rfl, K.1⟩
    | false =>
      have N1 := Lib.hid (fun W => cnew_no s.raw s.time h2 W)
      have N2 := Lib.hid (fun W => rnew10_no s.raw s.time h2 W)
      clear h1 h2
      go_enter Try.func3, Try.ntmps3
      go_wp2_with fail
      go_cut [3, 4] (fun v1 v2 wx => v1 = .pointer none ∧ v2 = .pointer none ∧ Hid (StB w wx s))
      case first =>
        go_region_held3 (fun w' => w'.cell? ⟨w.heap.size, 0, none⟩ = some (.int .i64 s.raw) ∧ w'.cell? ⟨w.heap.size, 1, none⟩ = some (.int .i64 s.time) ∧ w'.cell? ⟨w.heap.size, 2, none⟩ = some (.int .i64 s.ppb) ∧ w'.cell? ⟨w.heap.size, 3, none⟩ = some (.int .i64 s.left) ∧ w'.cell? ⟨w.heap.size, 4, none⟩ = some (.int .i64 s.rate) ∧ w'.cell? ⟨w.heap.size, 5, none⟩ = some (.int .i64 s.steps)) (first | exact cs_cells K.2 | exact cs_cells K.drew.2) ((first
          | (go_at_call 11; refine (O1.out _).mono ?_; rintro _ w5 ⟨rfl, l5⟩; have K : StB w w5 s := (by first | exact K.on l5 | exact K.drew.on l5))
          | (go_at_call 12; refine (O2.out _).mono ?_; rintro _ w6 ⟨rfl, l6⟩; have K : StB w w6 s := (by first | exact K.on l6 | exact K.drew.on l6))))
        all_goals (go_wp2_with fail; go_meet; exact ⟨rfl, rfl, Lib.hid (by first | exact K | exact K.drew)⟩)
      case rest =>
        obtain ⟨rfl, rfl, HK⟩ := hcut
        clear K
        have K := HK.out
        clear HK k0 k1 k2 k3 k4 k5 kz
        have kz := K.2.lt
        go_upto_region 2 with fail
        go_cut [25] (fun v wx => v = .bool false ∧ Hid (StB w wx s))
        case first =>
          refine wp_region_held_drew (S := (fun w' => w'.cell? ⟨w.heap.size, 0, none⟩ = some (.int .i64 s.raw) ∧ w'.cell? ⟨w.heap.size, 1, none⟩ = some (.int .i64 s.time) ∧ w'.cell? ⟨w.heap.size, 2, none⟩ = some (.int .i64 s.ppb) ∧ w'.cell? ⟨w.heap.size, 3, none⟩ = some (.int .i64 s.left) ∧ w'.cell? ⟨w.heap.size, 4, none⟩ = some (.int .i64 s.rate) ∧ w'.cell? ⟨w.heap.size, 5, none⟩ = some (.int .i64 s.steps))) (by kernel_rfl) (by exact cs_cells K.drew.2) (fun hHeld => ?_)
          refine wpAnyH_take (i := 0) (oi := ⟨some 11, _, _, _, _, _⟩) (v := .pointer none) rfl (by kernel_rfl) (by kernel_rfl) (by kernel_rfl) (fun _ _ _ h => h) (Or.inl ⟨rfl, by intro w hSw; (try dsimp only at hSw); go_simp⟩) (by assumption) ?_
          try simp only [Act.put, List.setIfInBounds_toArray, List.set_cons_zero, List.set_cons_succ]
          refine wpAnyH_take (i := 1) (oi := ⟨some 12, _, _, _, _, _⟩) (v := .bool false) rfl (by kernel_rfl) (by kernel_rfl) (by kernel_rfl) (fun _ _ _ h => h) (Or.inl ⟨rfl, by intro w hSw; (try dsimp only at hSw); go_simp⟩) (by assumption) ?_
          try simp only [Act.put, List.setIfInBounds_toArray, List.set_cons_zero, List.set_cons_succ]
          refine wpAnyH_take (i := 2) (oi := ⟨some 13, _, _, _, _, _⟩) (v := .pointer none) rfl (by kernel_rfl) (by kernel_rfl) (by kernel_rfl) (fun _ _ _ h => h) (Or.inl ⟨rfl, by intro w hSw; (try dsimp only at hSw); go_simp⟩) (by assumption) ?_
          try simp only [Act.put, List.setIfInBounds_toArray, List.set_cons_zero, List.set_cons_succ]
          refine wpAnyH_take (i := 3) (oi := ⟨some 14, _, _, _, _, _⟩) (v := .bool false) rfl (by kernel_rfl) (by kernel_rfl) (by kernel_rfl) (fun _ _ _ h => h) (Or.inl ⟨rfl, by intro w hSw; (try dsimp only at hSw); go_simp⟩) (by assumption) ?_
          try simp only [Act.put, List.setIfInBounds_toArray, List.set_cons_zero, List.set_cons_succ]
          refine wpAnyH_take (i := 4) (oi := ⟨some 15, _, _, _, _, _⟩) (v := .bool false) rfl (by kernel_rfl) (by kernel_rfl) (by kernel_rfl) (fun _ _ _ h => h) (Or.inl ⟨rfl, by intro w hSw; (try dsimp only at hSw); go_simp⟩) (by assumption) ?_
          try simp only [Act.put, List.setIfInBounds_toArray, List.set_cons_zero, List.set_cons_succ]
          refine wpAnyH_take (i := 5) (oi := ⟨some 16, _, _, _, _, _⟩) (v := .bool false) rfl (by kernel_rfl) (by kernel_rfl) (by kernel_rfl) (fun _ _ _ h => h) (Or.inl ⟨rfl, by intro w hSw; (try dsimp only at hSw); go_simp⟩) (by assumption) ?_
          try simp only [Act.put, List.setIfInBounds_toArray, List.set_cons_zero, List.set_cons_succ]
          refine wpAnyH_take (i := 6) (oi := ⟨some 17, _, _, _, _, _⟩) (v := .pointer none) rfl (by kernel_rfl) (by kernel_rfl) (by kernel_rfl) (fun _ _ _ h => h) (Or.inl ⟨rfl, by intro w hSw; (try dsimp only at hSw); go_simp⟩) (by assumption) ?_
          try simp only [Act.put, List.setIfInBounds_toArray, List.set_cons_zero, List.set_cons_succ]
          refine wpAnyH_take (i := 7) (oi := ⟨some 18, _, _, _, _, _⟩) (v := .bool false) rfl (by kernel_rfl) (by kernel_rfl) (by kernel_rfl) (fun _ _ _ h => h) (Or.inl ⟨rfl, by intro w hSw; (try dsimp only at hSw); go_simp⟩) (by assumption) ?_
          try simp only [Act.put, List.setIfInBounds_toArray, List.set_cons_zero, List.set_cons_succ]
          refine wpAnyH_take (i := 8) (oi := ⟨some 19, _, _, _, _, _⟩) (v := .bool false) rfl (by kernel_rfl) (by kernel_rfl) (by kernel_rfl) (fun _ _ _ h => h) (Or.inl ⟨rfl, by intro w hSw; (try dsimp only at hSw); go_simp⟩) (by assumption) ?_
          try simp only [Act.put, List.setIfInBounds_toArray, List.set_cons_zero, List.set_cons_succ]
          refine wpAnyH_take (i := 9) (oi := ⟨some 20, _, _, _, _, _⟩) (v := undef) rfl (by kernel_rfl) (by kernel_rfl) (by kernel_rfl) (fun _ _ _ h => h) (Or.inr ⟨rfl, rfl⟩) (by assumption) ?_
          try simp only [Act.put, List.setIfInBounds_toArray, List.set_cons_zero, List.set_cons_succ]
          refine wpAnyH_take (i := 10) (oi := ⟨some 21, _, _, _, _, _⟩) (v := undef) rfl (by kernel_rfl) (by kernel_rfl) (by kernel_rfl) (fun _ _ _ h => h) (Or.inr ⟨rfl, rfl⟩) (by assumption) ?_
          try simp only [Act.put, List.setIfInBounds_toArray, List.set_cons_zero, List.set_cons_succ]
          refine wpAnyH_take (i := 11) (oi := ⟨some 22, _, _, _, _, _⟩) (v := undef) rfl (by kernel_rfl) (by kernel_rfl) (by kernel_rfl) (fun _ _ _ h => h) (Or.inr ⟨rfl, rfl⟩) (by assumption) ?_
          try simp only [Act.put, List.setIfInBounds_toArray, List.set_cons_zero, List.set_cons_succ]
          refine wpAnyH_take (i := 12) (oi := ⟨some 23, _, _, _, _, _⟩) (v := undef) rfl (by kernel_rfl) (by kernel_rfl) (by kernel_rfl) (fun _ _ _ h => h) (Or.inr ⟨rfl, rfl⟩) (by assumption) ?_
          try simp only [Act.put, List.setIfInBounds_toArray, List.set_cons_zero, List.set_cons_succ]
          refine wpAnyH_take (i := 13) (oi := ⟨some 24, _, _, _, _, _⟩) (v := .bool false) rfl (by kernel_rfl) (by kernel_rfl) (by kernel_rfl) (fun _ _ _ h => h) (Or.inl ⟨rfl, by intro w hSw; (try dsimp only at hSw); go_simp⟩) (by assumption) ?_
          try simp only [Act.put, List.setIfInBounds_toArray, List.set_cons_zero, List.set_cons_succ]
          refine wpAnyH_take (i := 14) (oi := ⟨some 25, _, _, _, _, _⟩) (v := .bool false) rfl (by kernel_rfl) (by kernel_rfl) (by kernel_rfl) (fun _ _ _ h => h) (Or.inl ⟨rfl, by intro w hSw; (try dsimp only at hSw); go_simp⟩) (by assumption) ?_
          try simp only [Act.put, List.setIfInBounds_toArray, List.set_cons_zero, List.set_cons_succ]
          refine wpAnyH_done (by kernel_rfl) ?_ _
          go_wp2_with fail
          go_meet
          exact ⟨rfl, Lib.hid K.drew⟩
        case rest =>
          obtain ⟨rfl, HK⟩ := hcut
          clear K
          have K := HK.out
          clear HK
          obtain ⟨k0, k1, k2, k3, k4, k5⟩ := cs_cells K.2
          have kz := K.2.lt
          go_wp2_with fail
          go_cut [5, 6] (fun v1 v2 wx => v1 = .pointer none ∧ v2 = .pointer none ∧ Hid (StB w wx s))
          case first =>
            go_region_held3 (fun w' => w'.cell? ⟨w.heap.size, 0, none⟩ = some (.int .i64 s.raw) ∧ w'.cell? ⟨w.heap.size, 1, none⟩ = some (.int .i64 s.time) ∧ w'.cell? ⟨w.heap.size, 2, none⟩ = some (.int .i64 s.ppb) ∧ w'.cell? ⟨w.heap.size, 3, none⟩ = some (.int .i64 s.left) ∧ w'.cell? ⟨w.heap.size, 4, none⟩ = some (.int .i64 s.rate) ∧ w'.cell? ⟨w.heap.size, 5, none⟩ = some (.int .i64 s.steps)) (first | exact cs_cells K.2 | exact cs_cells K.drew.2) ((first
              | (go_at_call 14; refine (N1.out _).mono ?_; rintro _ w5 ⟨rfl, l5⟩; have K : StB w w5 s := (by first | exact K.on l5 | exact K.drew.on l5))
              | (go_at_call 15; refine (N2.out _).mono ?_; rintro _ w6 ⟨rfl, l6⟩; have K : StB w w6 s := (by first | exact K.on l6 | exact K.drew.on l6))))
            all_goals (go_wp2_with fail; go_meet; exact ⟨rfl, rfl, Lib.hid (by first | exact K | exact K.drew)⟩)
          case rest =>
            obtain ⟨rfl, rfl, HK⟩ := hcut
            clear K
            have K := HK.out
            clear HK k0 k1 k2 k3 k4 k5 kz
            have kz := K.2.lt
            go_upto_region 5 with fail
            go_cut [54] (fun v wx => v = .bool false ∧ Hid (StB w wx s))
            case first =>
              refine wp_region_held_drew (S := (fun w' => w'.cell? ⟨w.heap.size, 0, none⟩ = some (.int .i64 s.raw) ∧ w'.cell? ⟨w.heap.size, 1, none⟩ = some (.int .i64 s.time) ∧ w'.cell? ⟨w.heap.size, 2, none⟩ = some (.int .i64 s.ppb) ∧ w'.cell? ⟨w.heap.size, 3, none⟩ = some (.int .i64 s.left) ∧ w'.cell? ⟨w.heap.size, 4, none⟩ = some (.int .i64 s.rate) ∧ w'.cell? ⟨w.heap.size, 5, none⟩ = some (.int .i64 s.steps))) (by kernel_rfl) (by exact cs_cells K.drew.2) (fun hHeld => ?_)
              refine wpAnyH_take (i := 0) (oi := ⟨some 36, _, _, _, _, _⟩) (v := .pointer none) rfl (by kernel_rfl) (by kernel_rfl) (by kernel_rfl) (fun _ _ _ h => h) (Or.inl ⟨rfl, by intro w hSw; (try dsimp only at hSw); go_simp⟩) (by assumption) ?_
              try simp only [Act.put, List.setIfInBounds_toArray, List.set_cons_zero, List.set_cons_succ]
              refine wpAnyH_take (i := 1) (oi := ⟨some 37, _, _, _, _, _⟩) (v := .bool false) rfl (by kernel_rfl) (by kernel_rfl) (by kernel_rfl) (fun _ _ _ h => h) (Or.inl ⟨rfl, by intro w hSw; (try dsimp only at hSw); go_simp⟩) (by assumption) ?_
              try simp only [Act.put, List.setIfInBounds_toArray, List.set_cons_zero, List.set_cons_succ]
              refine wpAnyH_take (i := 2) (oi := ⟨some 38, _, _, _, _, _⟩) (v := .pointer none) rfl (by kernel_rfl) (by kernel_rfl) (by kernel_rfl) (fun _ _ _ h => h) (Or.inl ⟨rfl, by intro w hSw; (try dsimp only at hSw); go_simp⟩) (by assumption) ?_
              try simp only [Act.put, List.setIfInBounds_toArray, List.set_cons_zero, List.set_cons_succ]
              refine wpAnyH_take (i := 3) (oi := ⟨some 39, _, _, _, _, _⟩) (v := .bool false) rfl (by kernel_rfl) (by kernel_rfl) (by kernel_rfl) (fun _ _ _ h => h) (Or.inl ⟨rfl, by intro w hSw; (try dsimp only at hSw); go_simp⟩) (by assumption) ?_
              try simp only [Act.put, List.setIfInBounds_toArray, List.set_cons_zero, List.set_cons_succ]
              refine wpAnyH_take (i := 4) (oi := ⟨some 40, _, _, _, _, _⟩) (v := .bool false) rfl (by kernel_rfl) (by kernel_rfl) (by kernel_rfl) (fun _ _ _ h => h) (Or.inl ⟨rfl, by intro w hSw; (try dsimp only at hSw); go_simp⟩) (by assumption) ?_
              try simp only [Act.put, List.setIfInBounds_toArray, List.set_cons_zero, List.set_cons_succ]
              refine wpAnyH_take (i := 5) (oi := ⟨some 41, _, _, _, _, _⟩) (v := .bool false) rfl (by kernel_rfl) (by kernel_rfl) (by kernel_rfl) (fun _ _ _ h => h) (Or.inl ⟨rfl, by intro w hSw; (try dsimp only at hSw); go_simp⟩) (by assumption) ?_
              try simp only [Act.put, List.setIfInBounds_toArray, List.set_cons_zero, List.set_cons_succ]
              refine wpAnyH_take (i := 6) (oi := ⟨some 42, _, _, _, _, _⟩) (v := .pointer none) rfl (by kernel_rfl) (by kernel_rfl) (by kernel_rfl) (fun _ _ _ h => h) (Or.inl ⟨rfl, by intro w hSw; (try dsimp only at hSw); go_simp⟩) (by assumption) ?_
              try simp only [Act.put, List.setIfInBounds_toArray, List.set_cons_zero, List.set_cons_succ]
              refine wpAnyH_take (i := 7) (oi := ⟨some 43, _, _, _, _, _⟩) (v := .bool false) rfl (by kernel_rfl) (by kernel_rfl) (by kernel_rfl) (fun _ _ _ h => h) (Or.inl ⟨rfl, by intro w hSw; (try dsimp only at hSw); go_simp⟩) (by assumption) ?_
              try simp only [Act.put, List.setIfInBounds_toArray, List.set_cons_zero, List.set_cons_succ]
              refine wpAnyH_take (i := 8) (oi := ⟨some 44, _, _, _, _, _⟩) (v := .bool false) rfl (by kernel_rfl) (by kernel_rfl) (by kernel_rfl) (fun _ _ _ h => h) (Or.inl ⟨rfl, by intro w hSw; (try dsimp only at hSw); go_simp⟩) (by assumption) ?_
              try simp only [Act.put, List.setIfInBounds_toArray, List.set_cons_zero, List.set_cons_succ]
              refine wpAnyH_take (i := 9) (oi := ⟨some 45, _, _, _, _, _⟩) (v := undef) rfl (by kernel_rfl) (by kernel_rfl) (by kernel_rfl) (fun _ _ _ h => h) (Or.inr ⟨rfl, rfl⟩) (by assumption) ?_
              try simp only [Act.put, List.setIfInBounds_toArray, List.set_cons_zero, List.set_cons_succ]
              refine wpAnyH_take (i := 10) (oi := ⟨some 46, _, _, _, _, _⟩) (v := undef) rfl (by kernel_rfl) (by kernel_rfl) (by kernel_rfl) (fun _ _ _ h => h) (Or.inr ⟨rfl, rfl⟩) (by assumption) ?_
              try simp only [Act.put, List.setIfInBounds_toArray, List.set_cons_zero, List.set_cons_succ]
              refine wpAnyH_take (i := 11) (oi := ⟨some 47, _, _, _, _, _⟩) (v := undef) rfl (by kernel_rfl) (by kernel_rfl) (by kernel_rfl) (fun _ _ _ h => h) (Or.inr ⟨rfl, rfl⟩) (by assumption) ?_
              try simp only [Act.put, List.setIfInBounds_toArray, List.set_cons_zero, List.set_cons_succ]
              refine wpAnyH_take (i := 12) (oi := ⟨some 48, _, _, _, _, _⟩) (v := undef) rfl (by kernel_rfl) (by kernel_rfl) (by kernel_rfl) (fun _ _ _ h => h) (Or.inr ⟨rfl, rfl⟩) (by assumption) ?_
              try simp only [Act.put, List.setIfInBounds_toArray, List.set_cons_zero, List.set_cons_succ]
              refine wpAnyH_take (i := 13) (oi := ⟨some 49, _, _, _, _, _⟩) (v := undef) rfl (by kernel_rfl) (by kernel_rfl) (by kernel_rfl) (fun _ _ _ h => h) (Or.inr ⟨rfl, rfl⟩) (by assumption) ?_
              try simp only [Act.put, List.setIfInBounds_toArray, List.set_cons_zero, List.set_cons_succ]
              refine wpAnyH_take (i := 14) (oi := ⟨some 50, _, _, _, _, _⟩) (v := undef) rfl (by kernel_rfl) (by kernel_rfl) (by kernel_rfl) (fun _ _ _ h => h) (Or.inr ⟨rfl, rfl⟩) (by assumption) ?_
              try simp only [Act.put, List.setIfInBounds_toArray, List.set_cons_zero, List.set_cons_succ]
              refine wpAnyH_take (i := 15) (oi := ⟨some 51, _, _, _, _, _⟩) (v := undef) rfl (by kernel_rfl) (by kernel_rfl) (by kernel_rfl) (fun _ _ _ h => h) (Or.inr ⟨rfl, rfl⟩) (by assumption) ?_
              try simp only [Act.put, List.setIfInBounds_toArray, List.set_cons_zero, List.set_cons_succ]
              refine wpAnyH_take (i := 16) (oi := ⟨some 52, _, _, _, _, _⟩) (v := undef) rfl (by kernel_rfl) (by kernel_rfl) (by kernel_rfl) (fun _ _ _ h => h) (Or.inr ⟨rfl, rfl⟩) (by assumption) ?_
              try simp only [Act.put, List.setIfInBounds_toArray, List.set_cons_zero, List.set_cons_succ]
              refine wpAnyH_take (i := 17) (oi := ⟨some 53, _, _, _, _, _⟩) (v := .bool false) rfl (by kernel_rfl) (by kernel_rfl) (by kernel_rfl) (fun _ _ _ h => h) (Or.inl ⟨rfl, by intro w hSw; (try dsimp only at hSw); go_simp⟩) (by assumption) ?_
              try simp only [Act.put, List.setIfInBounds_toArray, List.set_cons_zero, List.set_cons_succ]
              refine wpAnyH_take (i := 18) (oi := ⟨some 54, _, _, _, _, _⟩) (v := .bool false) rfl (by kernel_rfl) (by kernel_rfl) (by kernel_rfl) (fun _ _ _ h => h) (Or.inl ⟨rfl, by intro w hSw; (try dsimp only at hSw); go_simp⟩) (by assumption) ?_
              try simp only [Act.put, List.setIfInBounds_toArray, List.set_cons_zero, List.set_cons_succ]
              refine wpAnyH_done (by kernel_rfl) ?_ _
              go_wp2_with fail
              go_meet
              exact ⟨rfl, Lib.hid K.drew⟩
            case rest =>
              obtain ⟨rfl, HK⟩ := hcut
              clear K
              have K := HK.out
              clear HK
              go_wp2_with fail
              refine (cawake_any _).mono ?_
              rintro _ w9 ⟨rfl, l9⟩
              have K := K.on l9
              go_wp2
              go_ret
              exact ⟨rfl, K.1⟩

theorem sysclockStates_walk (a b c d e f : Int) (w : World) (_h : ∀ n ∈ [a, b, c, d, e, f], (Lit.int .i64 n).wf = true) :
    Calls Try.prog 3 #[.agg ([a, b, c, d, e, f].map (Value.int .i64)).toArray] w fun e w' => e = .returned (.bool true) ∧ Below w.heap.size w w' := sysclockStates_go ⟨a, b, c, d, e, f⟩ w
end Go.Proofs.Ytcdholgafojjoaa

/- The walk of PllSpikes. -/
import Derived.Test.YtdjfbghdnkjdoaaDoorPllLoop
namespace Go.Proofs.YtdjfbghdnkjdoaaDoor
open Go.RowKit Go.Lib

set_option maxRecDepth 100000 in
theorem pllSpikes_no (c : Pl.LC) (a : Option Addr) (len cap : Nat) (w : World) (hc : ConfAt w) (h : c.err ≠ 0) : Calls Tryd.prog 7 #[lcV c, .slice a len cap] w fun e w' => e = .returned (.bool true) ∧ Below w.heap.size w w' := by
  have HC := Lib.hid hc
  have NW := Lib.hid (fun W => pnew_no c h W)
  clear hc h
  go_enter Tryd.func7, Tryd.ntmps7
  go_wp2_with fail
  refine (NW.out _).mono ?_
  rintro _ w1 ⟨rfl, l1⟩
  have h1 := (Blk.new w 23 #[.int .i64 c.lo, .int .i64 c.hi, .int .i64 c.sa, .int .i64 c.so, .int .i64 c.lim]).below_ l1
  have g0 : w1.cell? ⟨w.heap.size, 0, none⟩ = some (.int .i64 c.lo) := h1.cell 0
  have g1 : w1.cell? ⟨w.heap.size, 1, none⟩ = some (.int .i64 c.hi) := h1.cell 1
  have g2 : w1.cell? ⟨w.heap.size, 2, none⟩ = some (.int .i64 c.sa) := h1.cell 2
  have g3 : w1.cell? ⟨w.heap.size, 3, none⟩ = some (.int .i64 c.so) := h1.cell 3
  have g4 : w1.cell? ⟨w.heap.size, 4, none⟩ = some (.int .i64 c.lim) := h1.cell 4
  have gz := h1.lt
  have B1 := Lib.hid (bel_on (bel_bx w _) l1)
  clear l1 h1
  go_wp2_with fail
  refine (pawake_any _ (HC.out.on B1.out)).mono ?_
  rintro _ w3 ⟨rfl, l3⟩
  go_wp2
  go_ret
  exact ⟨rfl, bel_on B1.out l3⟩

set_option maxRecDepth 100000 in
theorem pllSpikes_long (c : Pl.LC) (a : Option Addr) (len cap : Nat) (w : World) (hc : ConfAt w) (h : c.err = 0) (hl : 60 < len) (hcap : len ≤ 9223372036854775807) : Calls Tryd.prog 7 #[lcV c, .slice a len cap] w fun e w' => e = .returned (.bool true) ∧ Below w.heap.size w w' := by
  have HC := Lib.hid hc
  have NW := Lib.hid (fun W => pnew_yes c h W)
  have FW := Lib.hid (fun W => few_no a len cap hl W)
  clear hc h
  go_enter Tryd.func7, Tryd.ntmps7
  go_wp2_with fail
  refine (NW.out _).mono ?_
  rintro _ w1 ⟨b, rfl, hb, hk, l1⟩
  have K : Lo w w1 b c ⟨0, 0, 0, false, 0, 0, 0⟩ := lo_mk l1 hb hk
  clear hb hk l1
  obtain ⟨g0, g1, g2, g3, g4⟩ := K.cf
  have gz := K.2.1.lt
  go_wp2_with fail
  refine (FW.out _).mono ?_
  rintro _ w1 ⟨rfl, rfl⟩
  go_wp2_with fail
  refine (pawake_any _ (HC.out.on K.1)).mono ?_
  rintro _ w3 ⟨rfl, l3⟩
  have K := K.on l3
  go_wp2
  go_ret
  exact ⟨rfl, K.1⟩

set_option maxRecDepth 100000 in
set_option maxHeartbeats 4000000 in
theorem pllSpikes_yes (c : Pl.LC) (a : Option Addr) (len cap : Nat) (z : Nat → Nat → Int) (w : World) (hc : ConfAt w) (h : c.err = 0) (hl : len ≤ 60) (hz : Fours w a len z) : Calls Tryd.prog 7 #[lcV c, .slice a len cap] w fun e w' => e = .returned (.bool true) ∧ Below w.heap.size w w' := by
  have HC := Lib.hid hc
  have NW := Lib.hid (fun W => pnew_yes c h W)
  have HE := Lib.hid h
  have HZ := Lib.hid hz
  have I0 := Lib.hid (Pl.linv0 h)
  have hlo := Pl.LC.ok h
  have kwsa : IntKind.i64.wrap (-c.sa) = -c.sa := IntWalk.i64_in _ (by omega)
  have kwlim : IntKind.i64.wrap (-c.lim) = -c.lim := IntWalk.i64_in _ (by omega)
  have FW := Lib.hid (fun W => few_yes a len cap hl W)
  clear hc h hz
  go_enter Tryd.func7, Tryd.ntmps7
  go_wp2_with fail
  refine (NW.out _).mono ?_
  rintro _ w1 ⟨b, rfl, hb, hk, l1⟩
  have K : Lo w w1 b c ⟨0, 0, 0, false, 0, 0, 0⟩ := lo_mk l1 hb hk
  clear hb hk l1
  obtain ⟨g0, g1, g2, g3, g4⟩ := K.cf
  have gz := K.2.1.lt
  go_wp2_with fail
  refine (FW.out _).mono ?_
  rintro _ w1 ⟨rfl, rfl⟩
  go_wp2_with fail
  have HK := Lib.hid K
  clear g0 g1 g2 g3 g4 gz K
  go_loopw [6, 7] (fun x i wr => ∃ (j : Nat) (B : Int) (S : Pl.LS), x = .int .i64 B ∧ i = .int .i64 j ∧ j ≤ len ∧ Hid (Pl.SInv S B) ∧ Hid (Pl.LInv c S) ∧ Hid (Lo w wr b c S)) (fun _ i _ => len - (RowKit.intOf i).toNat)
  case atStart => exact ⟨0, 0, ⟨0, 0, 0, false, 0, 0, 0⟩, rfl, rfl, by omega, Lib.hid ⟨by omega, fun q => by cases q⟩, I0, HK⟩
  case round =>
    obtain ⟨j, B, S, rfl, rfl, hj, hS, hI, hK⟩ := hrel
    by_cases hlt : j < len
    · skip
      obtain ⟨bx, ox, rfl, hb1, hb2, d0, d1, d2, d3⟩ := fours_at HZ.out hK.out.1 hlt
      obtain ⟨k0, hk⟩ : ∃ k, z j 0 = k := ⟨_, rfl⟩
      obtain ⟨t, hr⟩ : ∃ r, z j 1 = r := ⟨_, rfl⟩
      obtain ⟨o, hx⟩ : ∃ x, z j 2 = x := ⟨_, rfl⟩
      obtain ⟨po, hy⟩ : ∃ y, z j 3 = y := ⟨_, rfl⟩
      rw [hk] at d0
      rw [hr] at d1
      rw [hx] at d2
      rw [hy] at d3
      have hr : Row4 wr bx (ox + j * 4) k0 t o po := ⟨hb2, d0, d1, d2, d3⟩
      clear hk hx hy d0 d1 d2 d3 hb2
      obtain ⟨k, v, e, hR⟩ : ∃ k v e, Pl.upR c S t o po = ⟨k, v, e⟩ := ⟨_, _, _, rfl⟩
      obtain ⟨S2, hS2⟩ : ∃ S2, Pl.upS c S t o po = S2 := ⟨_, rfl⟩
      have I2 := Pl.linv_up (t := t) (o := o) (po := po) HE.out hI.out
      have U2 := Lib.hid (pupdate_at HE.out hI.out hR hS2)
      have F0 : (e ≠ 0 ∨ Pl.big c o = false ∨ S.st = 0 ∨ S.st = 1) → Pl.SInv S2 B := by
        intro q
        have := Pl.sinv_same (c := c) (s := S) (B := B) (t := t) (o := o) (po := po) hS.out (by rw [hR]; exact q)
        rw [hS2] at this
        exact this
      have F1 : e = 0 → Pl.big c o = true → S.st = 3 → k = 0 ∧ S2.f = S.f ∧ S2.p = S.p ∧ S2.st = 2 ∧ Pl.SInv S2 t := by
        intro q1 q2 q3
        have := Pl.big_sync (c := c) (s := S) (t := t) (o := o) (po := po) (by rw [hR]; exact q1) q2 q3
        rw [hS2, hR] at this
        exact this
      have F2 : e = 0 → Pl.big c o = true → S.st = 2 → S2.f = S.f ∧ (t - B < c.so → k = 0 ∧ S2.p = S.p ∧ S2.st = 2 ∧ Pl.SInv S2 B) ∧ (c.so ≤ t - B → k = 2 ∧ S2.st = 3 ∧ Pl.SInv S2 B) := by
        intro q1 q2 q3
        have := Pl.big_spike (c := c) (s := S) (B := B) (t := t) (o := o) (po := po) (by rw [hR]; exact q1) q2 q3 hS.out
        rw [hS2, hR] at this
        exact this
      have F3 : e = 0 → (0 ≤ t ∧ t ≤ 1073741824) := by
        intro q
        exact (Pl.args_in (c := c) (s := S) (t := t) (o := o) (po := po) HE.out (by rw [hR]; exact q)).1
      have hBb := hS.out.1
      rw [hS2] at I2
      have I2 := Lib.hid I2
      have hst := hI.out.1
      clear hR hS2 hI hS
      obtain ⟨f, hf⟩ : ∃ f, S.f = f := ⟨_, rfl⟩
      obtain ⟨p, hp⟩ : ∃ p, S.p = p := ⟨_, rfl⟩
      obtain ⟨s, hs⟩ : ∃ s, S.st = s := ⟨_, rfl⟩
      obtain ⟨f2, hf2⟩ : ∃ f, S2.f = f := ⟨_, rfl⟩
      obtain ⟨p2, hp2⟩ : ∃ p, S2.p = p := ⟨_, rfl⟩
      obtain ⟨s2, hs2⟩ : ∃ s, S2.st = s := ⟨_, rfl⟩
      have PS0 := pstate_any b c S
      have PF0 := pfreq_any b c S
      have PP0 := pphase_any b c S
      have PS := pstate_any b c S2
      have PF := pfreq_any b c S2
      have PP := pphase_any b c S2
      rw [hs] at PS0 hst
      rw [hf] at PF0
      rw [hp] at PP0
      rw [hs2] at PS
      rw [hf2] at PF
      rw [hp2] at PP
      rw [hs] at F0
      rw [hf, hp, hs, hf2, hp2, hs2] at F1
      rw [hf, hp, hs, hf2, hp2, hs2] at F2
      have PS0 := Lib.hid PS0
      have PF0 := Lib.hid PF0
      have PP0 := Lib.hid PP0
      have PS := Lib.hid PS
      have PF := Lib.hid PF
      have PP := Lib.hid PP
      clear hf hp hs hf2 hp2 hs2
      have kb0 := hK.out.2.2.1
      go_wp2_with fail
      refine (PS0.out _ (by first | exact kb0 | exact kb0.drewN _ | exact (kb0.drewN _).drewN _)).mono ?_
      rintro _ w3 ⟨rfl, rfl⟩
      go_wp2_with fail
      refine (PF0.out _ (by first | exact kb0 | exact kb0.drewN _ | exact (kb0.drewN _).drewN _)).mono ?_
      rintro _ w3 ⟨rfl, rfl⟩
      go_wp2_with fail
      refine (PP0.out _ (by first | exact kb0 | exact kb0.drewN _ | exact (kb0.drewN _).drewN _)).mono ?_
      rintro _ w3 ⟨rfl, rfl⟩
      have hr0 := hr
      obtain ⟨cb, c0, c1, c2, c3⟩ := hr
      have hne : bx < b := by have := hK.out.2.2.2; omega
      go_wp2_with fail
      go_cut [11, 12] (fun x y wx => ∃ g, x = .pointer (some ⟨g, 0, none⟩) ∧ y = .int .i64 e ∧ Hid (Lo w wx b c S2 ∧ Row4 wx bx (ox + j * 4) k0 t o po ∧ Blk wx g 38 #[.int .i64 k, .int .i64 v]))
      case first =>
        go_region_held3 (fun w' => w'.cell? ⟨bx, ox + j * 4 + 1, none⟩ = some (.int .i64 t) ∧ w'.cell? ⟨bx, ox + j * 4 + 2, none⟩ = some (.int .i64 o) ∧ w'.cell? ⟨bx, ox + j * 4 + 3, none⟩ = some (.int .i64 po)) (first | exact ⟨c1, c2, c3⟩ | exact hr1.2.2 | exact (hr1.on (bel_bx w2 _)).2.2 | exact (hr0.on (bel_bx wr _)).2.2 | exact (hr1.two hxb _ _).2.2) ((go_at_call 18; refine (U2.out b _ ?_).mono ?_; (first | exact hK.out.2.2.1 | exact hK.out.drew.2.2.1 | exact (hK.out.alloc _).drew.2.2.1); rintro _ w2 ⟨rfl, l2⟩; (first | (have K2 : Lo w w2 b c S2 := hK.out.turn l2) | (have K2 : Lo w w2 b c S2 := hK.out.drew.turn l2) | (have K2 : Lo w w2 b c S2 := (hK.out.alloc _).drew.turn l2; have hX := up_two l2 hK.out.2.2.1.lt; have d0 := hX.frozen 0; have d1 := hX.frozen 1; have dz := hX.lt; have e0 := hX.cell 0; have e1 := hX.cell 1)); (first | (have hr1 : Row4 w2 bx (ox + j * 4) k0 t o po := hr0.grown l2.2 hne) | (have hr1 : Row4 w2 bx (ox + j * 4) k0 t o po := hr0.drew.grown l2.2 hne) | (have hr1 : Row4 w2 bx (ox + j * 4) k0 t o po := (hr0.on (bel_bx wr _)).drew.grown l2.2 hne)); have hxb : bx < wr.heap.size := cb))
        all_goals (
          go_wp2_with fail
          go_meet
          first
            | exact ⟨_, rfl, rfl, Lib.hid ⟨K2.alloc _, hr1.on (bel_bx w2 _), Blk.new w2 _ _⟩⟩
            | exact ⟨_, rfl, rfl, Lib.hid ⟨K2.two hK.out.2.2.1.lt _ _, hr1.two hxb _ _, blk_two hX⟩⟩)
      obtain ⟨g, rfl, rfl, hW⟩ := hcut
      have K := hW.out.1
      have hr := hW.out.2.1
      have HA := hW.out.2.2
      clear hW cb c0 c1 c2 c3 hr0 hK U2 hne
      have KX := K
      have a0 := HA.cell 0
      have a1 := HA.cell 1
      have az := HA.lt
      have kb := K.2.2.1
      obtain ⟨g0, g1, g2, g3, g4⟩ := K.cf
      have gz := K.2.1.lt
      obtain ⟨cb, c0, c1, c2, c3⟩ := hr
      by_cases e0 : e = 0
      · subst e0
        cases hb : Pl.big c o with
        | true =>
          rw [hb] at F0 F1 F2
          have hb := Pl.big_iff.1 hb
          have hbb : decide (c.sa ≤ o) = true ∨ (decide (c.sa ≤ o) = false ∧ decide (o ≤ -c.sa) = true) := by
            by_cases q : c.sa ≤ o
            · exact .inl (by simp [q])
            · exact .inr ⟨by simp; omega, by simp; omega⟩
          have ht := F3 rfl
          have kwt : IntKind.i64.wrap (t - B) = t - B := IntWalk.i64_in _ (by omega)
          clear F3 hb hBb ht
          rcases hst with rfl | rfl | rfl | rfl
          · have HS := Lib.hid (F0 (.inr (.inr (.inl rfl))))
            clear F0 F1 F2
            rcases hbb with v1 | ⟨v1, v2⟩
            · skip
              go_wp2_with fail
              go_quiet (fail)
              go_wp2_with fail
              go_roundw
              case rel => first | exact ⟨j + 1, B, S2, rfl, by go_num, by omega, HS, I2, Lib.hid (by first | exact KX | exact KX.drewN _ | exact (KX.drewN _).drewN _)⟩ | ((repeat apply Exists.intro); exact ⟨⟨j + 1, B, S2, rfl, by go_num, by omega, HS, I2, Lib.hid (by first | exact KX | exact KX.drewN _ | exact (KX.drewN _).drewN _)⟩, rfl⟩)
              case measure => simp [RowKit.intOf]; omega
            · skip
              go_wp2_with fail
              go_quiet (fail)
              go_wp2_with fail
              go_roundw
              case rel => first | exact ⟨j + 1, B, S2, rfl, by go_num, by omega, HS, I2, Lib.hid (by first | exact KX | exact KX.drewN _ | exact (KX.drewN _).drewN _)⟩ | ((repeat apply Exists.intro); exact ⟨⟨j + 1, B, S2, rfl, by go_num, by omega, HS, I2, Lib.hid (by first | exact KX | exact KX.drewN _ | exact (KX.drewN _).drewN _)⟩, rfl⟩)
              case measure => simp [RowKit.intOf]; omega
          · have HS := Lib.hid (F0 (.inr (.inr (.inr rfl))))
            clear F0 F1 F2
            rcases hbb with v1 | ⟨v1, v2⟩
            · skip
              go_wp2_with fail
              go_quiet (fail)
              go_wp2_with fail
              go_roundw
              case rel => first | exact ⟨j + 1, B, S2, rfl, by go_num, by omega, HS, I2, Lib.hid (by first | exact KX | exact KX.drewN _ | exact (KX.drewN _).drewN _)⟩ | ((repeat apply Exists.intro); exact ⟨⟨j + 1, B, S2, rfl, by go_num, by omega, HS, I2, Lib.hid (by first | exact KX | exact KX.drewN _ | exact (KX.drewN _).drewN _)⟩, rfl⟩)
              case measure => simp [RowKit.intOf]; omega
            · skip
              go_wp2_with fail
              go_quiet (fail)
              go_wp2_with fail
              go_roundw
              case rel => first | exact ⟨j + 1, B, S2, rfl, by go_num, by omega, HS, I2, Lib.hid (by first | exact KX | exact KX.drewN _ | exact (KX.drewN _).drewN _)⟩ | ((repeat apply Exists.intro); exact ⟨⟨j + 1, B, S2, rfl, by go_num, by omega, HS, I2, Lib.hid (by first | exact KX | exact KX.drewN _ | exact (KX.drewN _).drewN _)⟩, rfl⟩)
              case measure => simp [RowKit.intOf]; omega
          · obtain ⟨rfl, F4, F5⟩ := F2 rfl rfl rfl
            by_cases d : c.so ≤ t - B
            · obtain ⟨rfl, rfl, hs⟩ := F5 d
              have HS := Lib.hid hs
              have v3 : decide (c.so ≤ t - B) = true := by simp [d]
              clear F0 F1 F2 F4 F5 hs d
              rcases hbb with v1 | ⟨v1, v2⟩
              all_goals (
                go_wp2_with fail
                go_quiet (fail)
                go_wp2_with fail
                go_quiet (fail)
                go_wp2_with fail
                refine (PF.out _ (by first | exact kb | exact kb.drewN _ | exact (kb.drewN _).drewN _)).mono ?_
                rintro _ w3 ⟨rfl, rfl⟩
                go_wp2_with fail
                refine (PS.out _ (by first | exact kb | exact kb.drewN _ | exact (kb.drewN _).drewN _)).mono ?_
                rintro _ w3 ⟨rfl, rfl⟩
                go_wp2_with fail
                go_roundw
                case rel => first | exact ⟨j + 1, B, S2, rfl, by go_num, by omega, HS, I2, Lib.hid (by first | exact KX | exact KX.drewN _ | exact (KX.drewN _).drewN _)⟩ | ((repeat apply Exists.intro); exact ⟨⟨j + 1, B, S2, rfl, by go_num, by omega, HS, I2, Lib.hid (by first | exact KX | exact KX.drewN _ | exact (KX.drewN _).drewN _)⟩, rfl⟩)
                case measure => simp [RowKit.intOf]; omega
                )
            · obtain ⟨rfl, rfl, rfl, hs⟩ := F4 (by omega)
              have HS := Lib.hid hs
              have v3 : decide (c.so ≤ t - B) = false := by simp; omega
              clear F0 F1 F2 F4 F5 hs d
              rcases hbb with v1 | ⟨v1, v2⟩
              all_goals (
                go_wp2_with fail
                go_quiet (fail)
                go_wp2_with fail
                go_quiet (fail)
                go_wp2_with fail
                refine (PF.out _ (by first | exact kb | exact kb.drewN _ | exact (kb.drewN _).drewN _)).mono ?_
                rintro _ w3 ⟨rfl, rfl⟩
                go_wp2_with fail
                refine (PP.out _ (by first | exact kb | exact kb.drewN _ | exact (kb.drewN _).drewN _)).mono ?_
                rintro _ w3 ⟨rfl, rfl⟩
                go_wp2_with fail
                refine (PS.out _ (by first | exact kb | exact kb.drewN _ | exact (kb.drewN _).drewN _)).mono ?_
                rintro _ w3 ⟨rfl, rfl⟩
                go_wp2_with fail
                go_roundw
                case rel => first | exact ⟨j + 1, B, S2, rfl, by go_num, by omega, HS, I2, Lib.hid (by first | exact KX | exact KX.drewN _ | exact (KX.drewN _).drewN _)⟩ | ((repeat apply Exists.intro); exact ⟨⟨j + 1, B, S2, rfl, by go_num, by omega, HS, I2, Lib.hid (by first | exact KX | exact KX.drewN _ | exact (KX.drewN _).drewN _)⟩, rfl⟩)
                case measure => simp [RowKit.intOf]; omega
                )
          · obtain ⟨rfl, rfl, rfl, rfl, hs⟩ := F1 rfl rfl rfl
            have HS := Lib.hid hs
            clear F0 F1 F2 hs
            rcases hbb with v1 | ⟨v1, v2⟩
            all_goals (
              go_wp2_with fail
              go_quiet (fail)
              go_wp2_with fail
              go_quiet (fail)
              go_wp2_with fail
              refine (PF.out _ (by first | exact kb | exact kb.drewN _ | exact (kb.drewN _).drewN _)).mono ?_
              rintro _ w3 ⟨rfl, rfl⟩
              go_wp2_with fail
              refine (PP.out _ (by first | exact kb | exact kb.drewN _ | exact (kb.drewN _).drewN _)).mono ?_
              rintro _ w3 ⟨rfl, rfl⟩
              go_wp2_with fail
              refine (PS.out _ (by first | exact kb | exact kb.drewN _ | exact (kb.drewN _).drewN _)).mono ?_
              rintro _ w3 ⟨rfl, rfl⟩
              go_wp2_with fail
              go_roundw
              case rel => first | exact ⟨j + 1, t, S2, rfl, by go_num, by omega, HS, I2, Lib.hid (by first | exact KX | exact KX.drewN _ | exact (KX.drewN _).drewN _)⟩ | ((repeat apply Exists.intro); exact ⟨⟨j + 1, t, S2, rfl, by go_num, by omega, HS, I2, Lib.hid (by first | exact KX | exact KX.drewN _ | exact (KX.drewN _).drewN _)⟩, rfl⟩)
              case measure => simp [RowKit.intOf]; omega
              )
        | false =>
          have HS := Lib.hid (F0 (.inr (.inl hb)))
          have hb := Pl.big_no.1 hb
          have v1 : decide (c.sa ≤ o) = false := by simp; omega
          have v2 : decide (o ≤ -c.sa) = false := by simp; omega
          clear F0 F1 F2 F3 hb hst hBb
          go_wp2_with fail
          go_quiet (fail)
          go_wp2_with fail
          go_roundw
          case rel => first | exact ⟨j + 1, B, S2, rfl, by go_num, by omega, HS, I2, Lib.hid (by first | exact KX | exact KX.drewN _ | exact (KX.drewN _).drewN _)⟩ | ((repeat apply Exists.intro); exact ⟨⟨j + 1, B, S2, rfl, by go_num, by omega, HS, I2, Lib.hid (by first | exact KX | exact KX.drewN _ | exact (KX.drewN _).drewN _)⟩, rfl⟩)
          case measure => simp [RowKit.intOf]; omega
      · have HS := Lib.hid (F0 (.inl e0))
        have t0 : (e == 0) = false := by simp [e0]
        have t0' : (e != 0) = true := by simp [e0]
        clear F0 F1 F2 F3 e0 hst hBb
        cases hq : decide (c.sa ≤ o) with
        | true =>
          go_wp2_with fail
          go_quiet (fail)
          go_wp2_with fail
          go_roundw
          case rel => first | exact ⟨j + 1, B, S2, rfl, by go_num, by omega, HS, I2, Lib.hid (by first | exact KX | exact KX.drewN _ | exact (KX.drewN _).drewN _)⟩ | ((repeat apply Exists.intro); exact ⟨⟨j + 1, B, S2, rfl, by go_num, by omega, HS, I2, Lib.hid (by first | exact KX | exact KX.drewN _ | exact (KX.drewN _).drewN _)⟩, rfl⟩)
          case measure => simp [RowKit.intOf]; omega
        | false =>
          go_wp2_with fail
          go_quiet (fail)
          go_wp2_with fail
          go_roundw
          case rel => first | exact ⟨j + 1, B, S2, rfl, by go_num, by omega, HS, I2, Lib.hid (by first | exact KX | exact KX.drewN _ | exact (KX.drewN _).drewN _)⟩ | ((repeat apply Exists.intro); exact ⟨⟨j + 1, B, S2, rfl, by go_num, by omega, HS, I2, Lib.hid (by first | exact KX | exact KX.drewN _ | exact (KX.drewN _).drewN _)⟩, rfl⟩)
          case measure => simp [RowKit.intOf]; omega
    · obtain rfl : j = len := by omega
      have K := hK.out
      go_wp2_with fail
      refine (pawake_any _ (HC.out.on K.1)).mono ?_
      rintro _ w9 ⟨rfl, l9⟩
      have K := K.on l9
      go_wp2
      go_ret
      exact ⟨rfl, K.1⟩

theorem pllSpikes_walk (a b c d e : Int) (x : Option Addr) (len cap : Nat) (z : Nat → Nat → Int) (w : World) (hc : ConfAt w) (_h : ∀ n ∈ [a, b, c, d, e], (Lit.int .i64 n).wf = true) (hz : len ≤ cap ∧ cap ≤ maxLen ∧ Fours w x len z) :
    Calls Tryd.prog 7 #[.agg ([a, b, c, d, e].map (Value.int .i64)).toArray, .slice x len cap] w fun e w' => e = .returned (.bool true) ∧ Below w.heap.size w w' := by
  have hcap : cap ≤ 9223372036854775807 := by simpa [maxLen] using hz.2.1
  by_cases h : (⟨a, b, c, d, e⟩ : Pl.LC).err = 0
  · by_cases hl : len ≤ 60
    · exact pllSpikes_yes ⟨a, b, c, d, e⟩ x len cap z w hc h hl hz.2.2
    · exact pllSpikes_long ⟨a, b, c, d, e⟩ x len cap w hc h (by omega) (by omega)
  · exact pllSpikes_no ⟨a, b, c, d, e⟩ x len cap w hc h
end Go.Proofs.YtdjfbghdnkjdoaaDoor

/- The walk of PllTicks. -/
import Derived.Test.YtdjfbghdnkjdoaaDoorPllLoop
namespace Go.Proofs.YtdjfbghdnkjdoaaDoor
open Go.RowKit Go.Lib

set_option maxRecDepth 100000 in
theorem pllTicks_no (c : Pl.LC) (a : Option Addr) (len cap : Nat) (n : Int) (w : World) (hc : ConfAt w) (h : c.err ≠ 0) : Calls Tryd.prog 6 #[lcV c, .slice a len cap, .int .i64 n] w fun e w' => e = .returned (.bool true) ∧ Below w.heap.size w w' := by
  have HC := Lib.hid hc
  have NW := Lib.hid (fun W => pnew_no c h W)
  clear hc h
  go_enter Tryd.func6, Tryd.ntmps6
  go_wp2_with fail
  refine (NW.out _).mono ?_
  rintro _ w1 ⟨rfl, l1⟩
  have h1 := (Blk.new w 23 #[.int .i64 c.lo, .int .i64 c.hi, .int .i64 c.sa, .int .i64 c.so, .int .i64 c.lim]).below_ l1
  have g0 : w1.cell? ⟨w.heap.size, 0, none⟩ = some (.int .i64 c.lo) := h1.cell 0
  have g1 : w1.cell? ⟨w.heap.size, 1, none⟩ = some (.int .i64 c.hi) := h1.cell 1
  have g2 : w1.cell? ⟨w.heap.size, 2, none⟩ = some (.int .i64 c.sa) := h1.cell 2
  have g3 : w1.cell? ⟨w.heap.size, 3, none⟩ = some (.int .i64 c.so) := h1.cell 3
  have g4 : w1.cell? ⟨w.heap.size, 4, none⟩ = some (.int .i64 c.lim) := h1.cell 4
  have gz := h1.lt
  have B1 := Lib.hid (bel_on (bel_bx w _) l1)
  clear l1 h1
  go_wp2_with fail
  refine (pawake_any _ (HC.out.on B1.out)).mono ?_
  rintro _ w3 ⟨rfl, l3⟩
  go_wp2
  go_ret
  exact ⟨rfl, bel_on B1.out l3⟩

set_option maxRecDepth 100000 in
theorem pllTicks_long (c : Pl.LC) (a : Option Addr) (len cap : Nat) (n : Int) (w : World) (hc : ConfAt w) (h : c.err = 0) (hl : 60 < len) (hcap : len ≤ 9223372036854775807) : Calls Tryd.prog 6 #[lcV c, .slice a len cap, .int .i64 n] w fun e w' => e = .returned (.bool true) ∧ Below w.heap.size w w' := by
  have HC := Lib.hid hc
  have NW := Lib.hid (fun W => pnew_yes c h W)
  have FW := Lib.hid (fun W => few_no a len cap hl W)
  clear hc h
  go_enter Tryd.func6, Tryd.ntmps6
  go_wp2_with fail
  refine (NW.out _).mono ?_
  rintro _ w1 ⟨b, rfl, hb, hk, l1⟩
  have K : Lo w w1 b c ⟨0, 0, 0, false, 0, 0, 0⟩ := lo_mk l1 hb hk
  clear hb hk l1
  obtain ⟨g0, g1, g2, g3, g4⟩ := K.cf
  have gz := K.2.1.lt
  go_wp2_with fail
  refine (FW.out _).mono ?_
  rintro _ w1 ⟨rfl, rfl⟩
  go_wp2_with fail
  refine (pawake_any _ (HC.out.on K.1)).mono ?_
  rintro _ w3 ⟨rfl, l3⟩
  have K := K.on l3
  go_wp2
  go_ret
  exact ⟨rfl, K.1⟩

set_option maxRecDepth 100000 in
set_option maxHeartbeats 4000000 in
theorem pllTicks_yes (c : Pl.LC) (a : Option Addr) (len cap : Nat) (n : Int) (z : Nat → Nat → Int) (w : World) (hc : ConfAt w) (h : c.err = 0) (hl : len ≤ 60) (hz : Fours w a len z) : Calls Tryd.prog 6 #[lcV c, .slice a len cap, .int .i64 n] w fun e w' => e = .returned (.bool true) ∧ Below w.heap.size w w' := by
  have HC := Lib.hid hc
  have NW := Lib.hid (fun W => pnew_yes c h W)
  have HE := Lib.hid h
  have HZ := Lib.hid hz
  have I0 := Lib.hid (Pl.linv0 h)
  have hlo := Pl.LC.ok h
  have FW := Lib.hid (fun W => few_yes a len cap hl W)
  clear hc h hz
  go_enter Tryd.func6, Tryd.ntmps6
  go_wp2_with fail
  refine (NW.out _).mono ?_
  rintro _ w1 ⟨b, rfl, hb, hk, l1⟩
  have K : Lo w w1 b c ⟨0, 0, 0, false, 0, 0, 0⟩ := lo_mk l1 hb hk
  clear hb hk l1
  obtain ⟨g0, g1, g2, g3, g4⟩ := K.cf
  have gz := K.2.1.lt
  go_wp2_with fail
  refine (FW.out _).mono ?_
  rintro _ w1 ⟨rfl, rfl⟩
  go_wp2_with fail
  have HK := Lib.hid K
  clear g0 g1 g2 g3 g4 gz K
  go_loopw [8, 9] (fun p i wr => ∃ (j : Nat) (S : Pl.LS), p = .int .i64 (Pl.plOf c S) ∧ i = .int .i64 j ∧ j ≤ len ∧ Hid (Pl.LInv c S) ∧ Hid (Lo w wr b c S)) (fun _ i _ => len - (RowKit.intOf i).toNat)
  case atStart => exact ⟨0, ⟨0, 0, 0, false, 0, 0, 0⟩, rfl, rfl, by omega, I0, HK⟩
  case round =>
    obtain ⟨j, S, rfl, rfl, hj, hI, hK⟩ := hrel
    by_cases hlt : j < len
    · skip
      obtain ⟨bx, ox, rfl, hb1, hb2, d0, d1, d2, d3⟩ := fours_at HZ.out hK.out.1 hlt
      obtain ⟨k0, hk⟩ : ∃ k, z j 0 = k := ⟨_, rfl⟩
      obtain ⟨t, hr⟩ : ∃ r, z j 1 = r := ⟨_, rfl⟩
      obtain ⟨o, hx⟩ : ∃ x, z j 2 = x := ⟨_, rfl⟩
      obtain ⟨po, hy⟩ : ∃ y, z j 3 = y := ⟨_, rfl⟩
      rw [hk] at d0
      rw [hr] at d1
      rw [hx] at d2
      rw [hy] at d3
      have hr : Row4 wr bx (ox + j * 4) k0 t o po := ⟨hb2, d0, d1, d2, d3⟩
      clear hk hx hy d0 d1 d2 d3 hb2
      obtain ⟨k, v, e, hR⟩ : ∃ k v e, Pl.upR c S t o po = ⟨k, v, e⟩ := ⟨_, _, _, rfl⟩
      obtain ⟨S2, hS2⟩ : ∃ S2, Pl.upS c S t o po = S2 := ⟨_, rfl⟩
      have I2 := Pl.linv_up (t := t) (o := o) (po := po) HE.out hI.out
      have U2 := Lib.hid (pupdate_at HE.out hI.out hR hS2)
      obtain ⟨P, hP⟩ : ∃ P, Pl.plOf c S = P := ⟨_, rfl⟩
      have F1 : e ≠ 0 → S2 = S := by
        intro q
        have := (Pl.up_err (c := c) (s := S) (t := t) (o := o) (po := po) (by rw [hR]; exact q)).1
        rw [hS2] at this
        exact this
      have F2 : e = 0 → (k = 0 → S2.st = 1 → Pl.plOf c S2 = P) ∧ ((k ≠ 0 ∨ S2.st ≠ 1) → Pl.plOf c S2 = po) := by
        intro q
        have := Pl.up_poll (c := c) (s := S) (t := t) (o := o) (po := po) (by rw [hR]; exact q)
        rw [hS2, hR, hP] at this
        refine ⟨this.1, fun x => ?_⟩
        rcases this.2 x with y | ⟨y1, y2, y3⟩
        · exact y
        · rw [y1] at x
          rcases x with x | x
          · exact absurd y2 x
          · exact absurd y3 x
      rw [hS2] at I2
      have I2 := Lib.hid I2
      rw [hP]
      clear hR hS2 hI
      have hr0 := hr
      obtain ⟨cb, c0, c1, c2, c3⟩ := hr
      have hne : bx < b := by have := hK.out.2.2.2; omega
      go_wp2_with fail
      go_cut [10, 11] (fun x y wx => ∃ g, x = .pointer (some ⟨g, 0, none⟩) ∧ y = .int .i64 e ∧ Hid (Lo w wx b c S2 ∧ Row4 wx bx (ox + j * 4) k0 t o po ∧ Blk wx g 38 #[.int .i64 k, .int .i64 v]))
      case first =>
        go_region_held3 (fun w' => w'.cell? ⟨bx, ox + j * 4 + 1, none⟩ = some (.int .i64 t) ∧ w'.cell? ⟨bx, ox + j * 4 + 2, none⟩ = some (.int .i64 o) ∧ w'.cell? ⟨bx, ox + j * 4 + 3, none⟩ = some (.int .i64 po)) (first | exact ⟨c1, c2, c3⟩ | exact hr1.2.2 | exact (hr1.on (bel_bx w2 _)).2.2 | exact (hr0.on (bel_bx wr _)).2.2 | exact (hr1.two hxb _ _).2.2) ((go_at_call 18; refine (U2.out b _ ?_).mono ?_; (first | exact hK.out.2.2.1 | exact hK.out.drew.2.2.1 | exact (hK.out.alloc _).drew.2.2.1); rintro _ w2 ⟨rfl, l2⟩; (first | (have K2 : Lo w w2 b c S2 := hK.out.turn l2) | (have K2 : Lo w w2 b c S2 := hK.out.drew.turn l2) | (have K2 : Lo w w2 b c S2 := (hK.out.alloc _).drew.turn l2; have hX := up_two l2 hK.out.2.2.1.lt; have d0 := hX.frozen 0; have d1 := hX.frozen 1; have dz := hX.lt; have e0 := hX.cell 0; have e1 := hX.cell 1)); (first | (have hr1 : Row4 w2 bx (ox + j * 4) k0 t o po := hr0.grown l2.2 hne) | (have hr1 : Row4 w2 bx (ox + j * 4) k0 t o po := hr0.drew.grown l2.2 hne) | (have hr1 : Row4 w2 bx (ox + j * 4) k0 t o po := (hr0.on (bel_bx wr _)).drew.grown l2.2 hne)); have hxb : bx < wr.heap.size := cb))
        all_goals (
          go_wp2_with fail
          go_meet
          first
            | exact ⟨_, rfl, rfl, Lib.hid ⟨K2.alloc _, hr1.on (bel_bx w2 _), Blk.new w2 _ _⟩⟩
            | exact ⟨_, rfl, rfl, Lib.hid ⟨K2.two hK.out.2.2.1.lt _ _, hr1.two hxb _ _, blk_two hX⟩⟩)
      obtain ⟨g, rfl, rfl, hW⟩ := hcut
      have K := hW.out.1
      have hr := hW.out.2.1
      have HA := hW.out.2.2
      clear hW cb c0 c1 c2 c3 hr0 hK U2 hne
      have PS := Lib.hid (fun W k => pstate_any b c S2 W k)
      have a0 := HA.cell 0
      have a1 := HA.cell 1
      have az := HA.lt
      have KX := K
      obtain ⟨cb, c0, c1, c2, c3⟩ := hr
      by_cases e0 : e = 0
      · subst e0
        obtain ⟨f1, f2⟩ := F2 rfl
        by_cases k0 : k = 0
        · by_cases s1 : S2.st = 1
          · have t1 : (k == 0) = true := by simp [k0]
            have t1' : (k != 0) = false := by simp [k0]
            have t2 : (S2.st == 1) = true := by simp [s1]
            have t2' : (S2.st != 1) = false := by simp [s1]
            have f := f1 k0 s1
            clear f1 f2 F1 F2 k0 s1
            go_wp2_with fail
            refine (PS.out _ K.2.2.1).mono ?_
            rintro _ w3 ⟨rfl, rfl⟩
            go_wp2_with fail
            go_roundw
            case rel => exact ⟨j + 1, S2, by rw [f], by go_num, by omega, I2, Lib.hid KX⟩
            case measure => simp [RowKit.intOf]; omega
          · have t1 : (k == 0) = true := by simp [k0]
            have t1' : (k != 0) = false := by simp [k0]
            have t2 : (S2.st == 1) = false := by simp [s1]
            have t2' : (S2.st != 1) = true := by simp [s1]
            have f := f2 (.inr s1)
            clear f1 f2 F1 F2 k0 s1
            go_wp2_with fail
            refine (PS.out _ K.2.2.1).mono ?_
            rintro _ w3 ⟨rfl, rfl⟩
            go_wp2_with fail
            go_roundw
            case rel => exact ⟨j + 1, S2, by rw [f], by go_num, by omega, I2, Lib.hid KX⟩
            case measure => simp [RowKit.intOf]; omega
        · have t1 : (k == 0) = false := by simp [k0]
          have t1' : (k != 0) = true := by simp [k0]
          have f := f2 (.inl k0)
          clear f1 f2 F1 F2 k0
          go_wp2_with fail
          go_roundw
          case rel => exact ⟨j + 1, S2, by rw [f], by go_num, by omega, I2, Lib.hid KX⟩
          case measure => simp [RowKit.intOf]; omega
      · have t0 : (e == 0) = false := by simp [e0]
        have t0' : (e != 0) = true := by simp [e0]
        have f : Pl.plOf c S2 = P := by rw [F1 e0]; exact hP
        clear F1 F2 e0
        go_wp2_with fail
        go_roundw
        case rel => exact ⟨j + 1, S2, by rw [f], by go_num, by omega, I2, Lib.hid KX⟩
        case measure => simp [RowKit.intOf]; omega
    · obtain rfl : j = len := by omega
      have hP3 : 3 ≤ Pl.plOf c S ∧ Pl.plOf c S ≤ 17 := by
        unfold Pl.plOf
        split
        · rename_i k; have := hI.out.2.2.2.2.1 k; omega
        · omega
      obtain ⟨P, hP⟩ : ∃ P, Pl.plOf c S = P := ⟨_, rfl⟩
      have hKI : Hid (Pl.plOf c S = P ∧ Pl.LInv c S ∧ Lo w wr b c S) := Lib.hid ⟨hP, hI.out, hK.out⟩
      rw [hP] at hP3 ⊢
      clear hP hK
      obtain ⟨p1, p2⟩ := Pl.pw_in hP3.1 hP3.2
      obtain ⟨E, hS⟩ : ∃ E, Pl.pw P = E := ⟨_, rfl⟩
      have hE : (2 : Int) ^ P.toNat = E := hS
      rw [hS] at p1 p2
      have kwE : IntKind.i64.wrap (16 * E) = 16 * E := IntWalk.i64_in _ (by omega)
      have kwN : IntKind.i64.wrap (-(16 * E)) = -(16 * E) := IntWalk.i64_in _ (by omega)
      have tP : decide (P < 0) = false := by simp; omega
      have hS := Lib.hid hS
      go_wp2_with fail
      go_loopw [12] (fun i wr => ∃ (j : Nat) (S : Pl.LS), i = .int .i64 j ∧ j ≤ 60 ∧ Hid (Pl.plOf c S = P ∧ Pl.LInv c S ∧ Lo w wr b c S)) (fun i _ => 60 - (RowKit.intOf i).toNat)
      case atStart => exact ⟨0, S, rfl, by omega, hKI⟩
      case round =>
        obtain ⟨i, T, rfl, hi, hK⟩ := hrel
        by_cases h1 : (i : Int) < n
        · by_cases h2 : i < 60
          · have u1 : decide ((i : Int) < n) = true := by simp [h1]
            obtain ⟨hP, hI, K⟩ := hK.out
            have TK := ptick_any b c T wr K.2.2.1 HE.out hI
            have I2 := Pl.linv_tick HE.out hI
            have hp2 : Pl.plOf c (Pl.tkS c T) = P := hP
            obtain ⟨p, hp⟩ : ∃ p, T.p = p := ⟨_, rfl⟩
            obtain ⟨m, hm⟩ : ∃ m, Pl.tk c T = m := ⟨_, rfl⟩
            obtain ⟨T2, hT2⟩ : ∃ T2, Pl.tkS c T = T2 := ⟨_, rfl⟩
            have hq : T2.p = p - m := by rw [← hT2, ← hp, ← hm]; rfl
            have hm' : m = p.tdiv (16 * E) := by
              rw [← hm, ← hp, ← hS.out, ← hP]
              rfl
            rw [hm, hT2] at TK
            rw [hT2] at I2 hp2
            have TK := Lib.hid TK
            have PP := pphase_any b c T
            rw [hp] at PP
            have PQ := pphase_any b c T2
            rw [hq] at PQ
            have PP := Lib.hid PP
            have PQ := Lib.hid PQ
            have I2 := Lib.hid I2
            have hb := hI.2.2.1
            rw [hp] at hb
            have td := Pl.tdiv_le p (16 * E) (by omega)
            rw [← hm'] at td
            have tz := Pl.tdiv_zero p (16 * E) (by omega)
            rw [← hm'] at tz
            have kb := K.2.2.1
            clear hK hT2 hm hp hm' hP hI
            have kw : IntKind.i64.wrap (p - m) = p - m := IntWalk.i64_in _ (by
              rcases Int.le_total 0 p with q | q
              · have := td.1 q; omega
              · have := td.2 q; omega)
            have hsm : ((m == 0) = true ∧ decide (-(16 * E) < p) = true ∧ decide (p < 16 * E) = true) ∨ ((m == 0) = false ∧ decide (-(16 * E) < p) = true ∧ decide (p < 16 * E) = false) ∨ ((m == 0) = false ∧ decide (-(16 * E) < p) = false) := by
              by_cases q : m = 0
              · have := tz.1 q
                exact .inl ⟨by simp [q], by simp; omega, by simp; omega⟩
              · have hn : ¬ (-(16 * E) < p ∧ p < 16 * E) := fun x => q (tz.2 x)
                by_cases q2 : -(16 * E) < p
                · exact .inr (.inl ⟨by simp [q], by simp; omega, by simp; omega⟩)
                · exact .inr (.inr ⟨by simp [q], by simp; omega⟩)
            have hsg : (decide (0 ≤ p) = true ∧ decide (p - m < 0) = false ∧ decide (p < p - m) = false ∧ decide (p ≤ 0) = false ∧ decide (p < m) = false ∧ decide (m < 0) = false) ∨ (decide (0 ≤ p) = false ∧ decide (p ≤ 0) = true ∧ decide (0 < p - m) = false ∧ decide (p - m < p) = false ∧ decide (m < p) = false ∧ decide (0 < m) = false) ∨ (decide (0 ≤ p) = true ∧ decide (p - m < 0) = false ∧ decide (p < p - m) = false ∧ decide (p ≤ 0) = true ∧ decide (0 < p - m) = false ∧ decide (p - m < p) = false ∧ decide (p < m) = false ∧ decide (m < 0) = false ∧ decide (m < p) = false ∧ decide (0 < m) = false) := by
              rcases Int.lt_trichotomy p 0 with q | q | q
              · have := td.2 (by omega)
                refine .inr (.inl ⟨?_, ?_, ?_, ?_, ?_, ?_⟩) <;> simp <;> omega
              · have := td.2 (by omega)
                refine .inr (.inr ⟨?_, ?_, ?_, ?_, ?_, ?_, ?_, ?_, ?_, ?_⟩) <;> simp <;> omega
              · have := td.1 (by omega)
                refine .inl ⟨?_, ?_, ?_, ?_, ?_, ?_⟩ <;> simp <;> omega
            clear td tz hb
            go_wp2_with fail
            refine (PP.out _ kb).mono ?_
            rintro _ w2 ⟨rfl, rfl⟩
            go_wp2_with fail
            refine TK.out.mono ?_
            rintro _ w2 ⟨rfl, l2⟩
            have K := K.turn l2
            clear l2 kb TK
            go_wp2_with fail
            refine (PQ.out _ K.2.2.1).mono ?_
            rintro _ w3 ⟨rfl, rfl⟩
            rcases hsg with ⟨u2, u3, u4, u5, x1, x2⟩ | ⟨u2, u3, u4, u5, x1, x2⟩ | ⟨u2, u3, u4, u5, u6, u7, x1, x2, x3, x4⟩
            all_goals (
              rcases hsm with ⟨v1, v2, v3⟩ | ⟨v1, v2, v3⟩ | ⟨v1, v2⟩
              all_goals (
                go_wp2_with fail
                go_roundw
                case rel => exact ⟨i + 1, T2, by go_num, by omega, Lib.hid ⟨hp2, I2.out, K⟩⟩
                case measure => simp [RowKit.intOf]; omega))
          · obtain rfl : i = 60 := by omega
            have u1 : decide (((60 : Nat) : Int) < n) = true := by simp; omega
            have K := hK.out.2.2
            go_wp2_with fail
            refine (pawake_any _ (HC.out.on K.1)).mono ?_
            rintro _ w9 ⟨rfl, l9⟩
            have K := K.on l9
            go_wp2
            go_ret
            exact ⟨rfl, K.1⟩
        · have u1 : decide ((i : Int) < n) = false := by simp; omega
          have K := hK.out.2.2
          go_wp2_with fail
          refine (pawake_any _ (HC.out.on K.1)).mono ?_
          rintro _ w9 ⟨rfl, l9⟩
          have K := K.on l9
          go_wp2
          go_ret
          exact ⟨rfl, K.1⟩

theorem pllTicks_walk (a b c d e : Int) (x : Option Addr) (len cap : Nat) (z : Nat → Nat → Int) (n : Int) (w : World) (hc : ConfAt w) (_h : ∀ n ∈ [a, b, c, d, e], (Lit.int .i64 n).wf = true) (hz : len ≤ cap ∧ cap ≤ maxLen ∧ Fours w x len z) (_h3 : (Lit.int .i64 n).wf = true) :
    Calls Tryd.prog 6 #[.agg ([a, b, c, d, e].map (Value.int .i64)).toArray, .slice x len cap, .int .i64 n] w fun e w' => e = .returned (.bool true) ∧ Below w.heap.size w w' := by
  have hcap : cap ≤ 9223372036854775807 := by simpa [maxLen] using hz.2.1
  by_cases h : (⟨a, b, c, d, e⟩ : Pl.LC).err = 0
  · by_cases hl : len ≤ 60
    · exact pllTicks_yes ⟨a, b, c, d, e⟩ x len cap n z w hc h hl hz.2.2
    · exact pllTicks_long ⟨a, b, c, d, e⟩ x len cap n w hc h (by omega) (by omega)
  · exact pllTicks_no ⟨a, b, c, d, e⟩ x len cap n w hc h
end Go.Proofs.YtdjfbghdnkjdoaaDoor

/- The walk of PllRuns. -/
import Derived.Test.YtdjfbghdnkjdoaaDoorPllRef3
import Derived.Test.YtdjfbghdnkjdoaaDoorPllLoop
namespace Go.Proofs.YtdjfbghdnkjdoaaDoor
open Go.RowKit Go.Lib
/-- the configuration's box, a loop, and the reference's loop -/
def Lr (w W : World) (b b' : Nat) (c : Pl.LC) (S S' : Pl.LS) (X : Pl.RX) : Prop := Lo w W b c S ∧ Blk W b' 50 (rvA c S' X) ∧ b ≠ b' ∧ w.heap.size + 1 ≤ b'
section
variable {w W W' : World} {b b' : Nat} {c : Pl.LC} {S S' S2 : Pl.LS} {X X2 : Pl.RX}
theorem Lr.on (h : Lr w W b b' c S S' X) (l : Below W.heap.size W W') : Lr w W' b b' c S S' X := ⟨h.1.on l, h.2.1.below_ l, h.2.2⟩
theorem Lr.alloc (h : Lr w W b b' c S S' X) (x : Obj) : Lr w (W.alloc x) b b' c S S' X := h.on (bel_bx W x)
theorem Lr.drew (h : Lr w W b b' c S S' X) : Lr w W.drew b b' c S S' X := ⟨h.1.drew, h.2.1.drew, h.2.2⟩
theorem Lr.turnA (h : Lr w W b b' c S S' X) (l : LeftP b c S2 W W') : Lr w W' b b' c S2 S' X := ⟨h.1.turn l, h.2.1.grown l.2 (fun e => by injection e with e; exact h.2.2.1 e.symm), h.2.2⟩
theorem Lr.turnB (h : Lr w W b b' c S S' X) (l : LeftR b' c S2 X2 W W') : Lr w W' b b' c S S2 X2 := by
  have hb := h.2.2.2
  have hb2 := h.1.2.2.2
  exact ⟨⟨Below.only h.1.1 l.2 (by omega) h.1.1.size, h.1.2.1.grown l.2 (fun e => by injection e with e; omega), h.1.2.2.1.grown l.2 (fun e => by injection e with e; exact h.2.2.1 e), hb2⟩, l.1, h.2.2⟩
theorem Lr.two (h : Lr w W b b' c S S' X) {g : Nat} (h1 : g ≠ b) (h2 : g ≠ b') (h3 : w.heap.size < g) (x y : Value) : Lr w ((W.setCell ⟨g, 0, none⟩ x).setCell ⟨g, 1, none⟩ y) b b' c S S' X := by
  have hb2 := h.1.2.2.2
  exact ⟨⟨Below.setCell (p := ⟨g, 1, none⟩) (Below.setCell (p := ⟨g, 0, none⟩) h.1.1 (by show w.heap.size ≤ g; omega) x) (by show w.heap.size ≤ g; omega) y,
    (h.1.2.1.far (p := ⟨g, 0, none⟩) (by show w.heap.size ≠ g; omega) x).far (p := ⟨g, 1, none⟩) (by show w.heap.size ≠ g; omega) y,
    (h.1.2.2.1.far (p := ⟨g, 0, none⟩) (Ne.symm h1) x).far (p := ⟨g, 1, none⟩) (Ne.symm h1) y, hb2⟩,
    (h.2.1.far (p := ⟨g, 0, none⟩) (Ne.symm h2) x).far (p := ⟨g, 1, none⟩) (Ne.symm h2) y, h.2.2⟩
theorem Lr.lt (h : Lr w W b b' c S S' X) : b < W.heap.size ∧ b' < W.heap.size ∧ w.heap.size < W.heap.size := ⟨h.1.2.2.1.lt, h.2.1.lt, h.1.2.1.lt⟩
theorem blk_two_far {T : TypeId} {cs : Array Value} {g g' : Nat} (h : Blk W g T cs) (hn : g ≠ g') (x y : Value) : Blk ((W.setCell ⟨g', 0, none⟩ x).setCell ⟨g', 1, none⟩ y) g T cs := (h.far (p := ⟨g', 0, none⟩) hn x).far (p := ⟨g', 1, none⟩) hn y
theorem up_twoR {T : TypeId} {cs : Array Value} (l : LeftR b' c S X (W.alloc (.cells cs T)).drew W') (hb : b' < W.heap.size) : Blk W' W.heap.size T cs :=
  (Blk.new W T cs).drew.grown l.2 (fun e => by injection e with e; omega)
end
theorem linv_x {c : Pl.LC} {s : Pl.LS} {X : Pl.RX} (h : Pl.XInv s X) : Pl.XInv (Pl.tkS c s) X := h
set_option maxHeartbeats 2000000 in
theorem pllRuns_no (c : Pl.LC) (a : Option Addr) (len cap : Nat) (w : World) (hc : ConfAt w) (h : c.err ≠ 0) : Calls Tryd.prog 4 #[lcV c, .slice a len cap] w fun e w' => e = .returned (.bool true) ∧ Below w.heap.size w w' := by
  have HC := Lib.hid hc
  have NW := Lib.hid (fun W => pnew_no c h W)
  have NR := Lib.hid (fun W => rnew_no c h W)
  have K0 := one_mk w 23 #[.int .i64 c.lo, .int .i64 c.hi, .int .i64 c.sa, .int .i64 c.so, .int .i64 c.lim]
  obtain ⟨k0, k1, k2, k3, k4⟩ := cf_cells K0
  clear hc h
  go_enter Tryd.func4, Tryd.ntmps4
  go_wp2_with fail
  go_region_held3 (fun w' => w'.cell? ⟨w.heap.size, 0, none⟩ = some (.int .i64 c.lo) ∧ w'.cell? ⟨w.heap.size, 1, none⟩ = some (.int .i64 c.hi) ∧ w'.cell? ⟨w.heap.size, 2, none⟩ = some (.int .i64 c.sa) ∧ w'.cell? ⟨w.heap.size, 3, none⟩ = some (.int .i64 c.so) ∧ w'.cell? ⟨w.heap.size, 4, none⟩ = some (.int .i64 c.lim)) (first | exact cf_cells K0.drew | exact cf_cells K1 | exact cf_cells K2) (first | ((go_at_call 12; refine (NW.out _).mono ?_; rintro _ w1 ⟨rfl, l1⟩; have K1 := K0.drew.on l1; clear l1)) | ((go_at_call 14; refine (NR.out _).mono ?_; rintro _ w2 ⟨rfl, l2⟩; have K2 := K1.on l2; clear l2)))
  go_wp2_with fail
  refine (pawake_any _ (HC.out.on K2.1)).mono ?_
  rintro _ w3 ⟨rfl, l3⟩
  go_wp2
  go_ret
  exact ⟨rfl, bel_on K2.1 l3⟩
/-- both loops, as they are made -/
theorem lr_mk {w w1 w2 : World} {b b' : Nat} {c : Pl.LC} {S S' : Pl.LS} {X : Pl.RX} (K1 : One w w1 23 #[.int .i64 c.lo, .int .i64 c.hi, .int .i64 c.sa, .int .i64 c.so, .int .i64 c.lim]) (hb : w.heap.size + 1 ≤ b) (hk : Blk w1 b 46 (lvA c S)) (hb' : w1.heap.size ≤ b') (hk' : Blk w2 b' 50 (rvA c S' X)) (l2 : Below w1.heap.size w1 w2) : Lr w w2 b b' c S S' X := by
  have h1 := hk.lt
  have h2 := K1.2.lt
  have h3 := K1.1.size
  exact ⟨⟨bel_on K1.1 l2, K1.2.below_ l2, hk.below_ l2, hb⟩, hk', by omega, by omega⟩
set_option maxHeartbeats 2000000 in
theorem pllRuns_long (c : Pl.LC) (a : Option Addr) (len cap : Nat) (w : World) (hc : ConfAt w) (h : c.err = 0) (hl : 60 < len) (hcap : len ≤ 9223372036854775807) : Calls Tryd.prog 4 #[lcV c, .slice a len cap] w fun e w' => e = .returned (.bool true) ∧ Below w.heap.size w w' := by
  have HC := Lib.hid hc
  have NW := Lib.hid (fun W => pnew_yes c h W)
  have NR := Lib.hid (fun W => rnew_yes c h W)
  have FW := Lib.hid (fun W => few_no a len cap hl W)
  have K0 := one_mk w 23 #[.int .i64 c.lo, .int .i64 c.hi, .int .i64 c.sa, .int .i64 c.so, .int .i64 c.lim]
  obtain ⟨k0, k1, k2, k3, k4⟩ := cf_cells K0
  clear hc h
  go_enter Tryd.func4, Tryd.ntmps4
  go_wp2_with fail
  go_region_held3 (fun w' => w'.cell? ⟨w.heap.size, 0, none⟩ = some (.int .i64 c.lo) ∧ w'.cell? ⟨w.heap.size, 1, none⟩ = some (.int .i64 c.hi) ∧ w'.cell? ⟨w.heap.size, 2, none⟩ = some (.int .i64 c.sa) ∧ w'.cell? ⟨w.heap.size, 3, none⟩ = some (.int .i64 c.so) ∧ w'.cell? ⟨w.heap.size, 4, none⟩ = some (.int .i64 c.lim)) (first | exact cf_cells K0.drew | exact cf_cells K1 | exact cf_cells K2) (first | ((go_at_call 12; refine (NW.out _).mono ?_; rintro _ w1 ⟨b, rfl, hb, hk, l1⟩; have K1 := K0.drew.on l1; clear l1)) | ((go_at_call 14; refine (NR.out _).mono ?_; rintro _ w2 ⟨b', rfl, hb', hk', l2⟩; have K2 := K1.on l2; clear l2)))
  go_wp2_with fail
  refine (FW.out _).mono ?_
  rintro _ w3 ⟨rfl, rfl⟩
  go_wp2_with fail
  refine (pawake_any _ (HC.out.on K2.1)).mono ?_
  rintro _ w3 ⟨rfl, l3⟩
  go_wp2
  go_ret
  exact ⟨rfl, bel_on K2.1 l3⟩
set_option maxRecDepth 100000 in
set_option maxHeartbeats 8000000 in
theorem pllRuns_yes (c : Pl.LC) (a : Option Addr) (len cap : Nat) (z : Nat → Nat → Int) (w : World) (hc : ConfAt w) (h : c.err = 0) (hl : len ≤ 60) (hz : Fours w a len z) : Calls Tryd.prog 4 #[lcV c, .slice a len cap] w fun e w' => e = .returned (.bool true) ∧ Below w.heap.size w w' := by
  have HC := Lib.hid hc
  have NW := Lib.hid (fun W => pnew_yes c h W)
  have NR := Lib.hid (fun W => rnew_yes c h W)
  have FW := Lib.hid (fun W => few_yes a len cap hl W)
  have HE := Lib.hid h
  have HZ := Lib.hid hz
  have I0 : Hid (Pl.LInv c ⟨0, 0, 0, false, 0, 0, 0⟩ ∧ Pl.XInv ⟨0, 0, 0, false, 0, 0, 0⟩ ⟨0, 0, 0⟩) := Lib.hid ⟨Pl.linv0 h, by unfold Pl.XInv; simp⟩
  have K0 := one_mk w 23 #[.int .i64 c.lo, .int .i64 c.hi, .int .i64 c.sa, .int .i64 c.so, .int .i64 c.lim]
  obtain ⟨k0, k1, k2, k3, k4⟩ := cf_cells K0
  clear hc h hz
  go_enter Tryd.func4, Tryd.ntmps4
  go_wp2_with fail
  go_region_held3 (fun w' => w'.cell? ⟨w.heap.size, 0, none⟩ = some (.int .i64 c.lo) ∧ w'.cell? ⟨w.heap.size, 1, none⟩ = some (.int .i64 c.hi) ∧ w'.cell? ⟨w.heap.size, 2, none⟩ = some (.int .i64 c.sa) ∧ w'.cell? ⟨w.heap.size, 3, none⟩ = some (.int .i64 c.so) ∧ w'.cell? ⟨w.heap.size, 4, none⟩ = some (.int .i64 c.lim)) (first | exact cf_cells K0.drew | exact cf_cells K1 | exact cf_cells K2.1) (first | ((go_at_call 12; refine (NW.out _).mono ?_; rintro _ w1 ⟨b, rfl, hb, hk, l1⟩; have K1 := K0.drew.on l1; have hb0 : w.heap.size + 1 ≤ b := (by simpa using hb); clear l1)) | ((go_at_call 14; refine (NR.out _).mono ?_; rintro _ w2 ⟨b', rfl, hb', hk', l2⟩; have K2 : One w w2 23 #[.int .i64 c.lo, .int .i64 c.hi, .int .i64 c.sa, .int .i64 c.so, .int .i64 c.lim] ∧ Lr w w2 b b' c ⟨0, 0, 0, false, 0, 0, 0⟩ ⟨0, 0, 0, false, 0, 0, 0⟩ ⟨0, 0, 0⟩ := ⟨K1.on l2, lr_mk K1 hb0 hk hb' hk' l2⟩; clear l2)))
  go_wp2_with fail
  refine (FW.out _).mono ?_
  rintro _ w3 ⟨rfl, rfl⟩
  have HK := Lib.hid K2.2
  clear k0 k1 k2 k3 k4 K0 K1 K2 hk hk' hb hb' hb0
  go_wp2_with fail
  go_loopw [7] (fun i wr => ∃ (j : Nat) (S : Pl.LS) (X : Pl.RX), i = .int .i64 j ∧ j ≤ len ∧ Hid (Pl.LInv c S ∧ Pl.XInv S X) ∧ Hid (Lr w wr b b' c S S X)) (fun i _ => len - (RowKit.intOf i).toNat)
  case atStart => exact ⟨0, _, _, rfl, by omega, I0, HK⟩
  case round =>
    obtain ⟨j, S, X, rfl, hj, hI, hK⟩ := hrel
    by_cases hlt : j < len
    · obtain ⟨n, hn⟩ : ∃ k, z j 0 = k := ⟨_, rfl⟩
      obtain ⟨t, ht⟩ : ∃ r, z j 1 = r := ⟨_, rfl⟩
      obtain ⟨o, ho⟩ : ∃ x, z j 2 = x := ⟨_, rfl⟩
      obtain ⟨po, hpo⟩ : ∃ y, z j 3 = y := ⟨_, rfl⟩
      obtain ⟨bx, ox, rfl, hb1, hb2, d0, d1, d2, d3⟩ := fours_at HZ.out hK.out.1.1 hlt
      clear d0 d1 d2 d3 hb2
      have HR : Hid (∀ W, Below w.heap.size w W → Row4 W bx (ox + j * 4) n t o po) := Lib.hid (fun W l => by
        obtain ⟨bx', ox', he, _, hb2, d0, d1, d2, d3⟩ := fours_at HZ.out l hlt
        injection he with he
        injection he with he1 he2
        subst he1 he2
        rw [hn] at d0
        rw [ht] at d1
        rw [ho] at d2
        rw [hpo] at d3
        exact ⟨hb2, d0, d1, d2, d3⟩)
      have tl : decide ((j : Int) < (len : Int)) = true := by simp [hlt]
      have hji : (0 : Int) ≤ (j : Int) := by omega
      have hjl : (j : Int) < (len : Int) := by omega
      clear hn ht ho hpo
      go_wp2_with fail
      go_loopw [8] (fun i wr => ∃ (k : Nat) (S : Pl.LS), i = .int .i64 k ∧ k ≤ 40 ∧ Hid (Pl.LInv c S ∧ Pl.XInv S X) ∧ Hid (Lr w wr b b' c S S X)) (fun i _ => 40 - (RowKit.intOf i).toNat)
      case atStart => exact ⟨0, S, rfl, by omega, hI, hK⟩
      case round =>
        clear hI hK
        obtain ⟨k, S, rfl, hk, hI, hK⟩ := hrel
        obtain ⟨cb, c0, c1, c2, c3⟩ := HR.out _ hK.out.1.1
        by_cases hg : (k : Int) < n ∧ k < 40
        · have u1 : decide ((k : Int) < n) = true := by simp [hg.1]
          have u2 : decide ((k : Int) < 40) = true := by simp; omega
          have u3 : decide (k < 40) = true := by simp; omega
          have TA := ptick_any b c S _ hK.out.1.2.2.1 HE.out hI.out.1
          have TB := Lib.hid (fun W (h : Blk W b' 50 (rvA c S X)) => rtick_any b' c S X W h HE.out hI.out.1)
          have I2 : Hid (Pl.LInv c (Pl.tkS c S) ∧ Pl.XInv (Pl.tkS c S) X) := Lib.hid ⟨Pl.linv_tick HE.out hI.out.1, hI.out.2⟩
          obtain ⟨m, hm⟩ : ∃ m, Pl.tk c S = m := ⟨_, rfl⟩
          obtain ⟨S2, hS2⟩ : ∃ s, Pl.tkS c S = s := ⟨_, rfl⟩
          rw [hm, hS2] at TA TB
          rw [hS2] at I2
          replace TA := Lib.hid TA
          clear hm hS2
          go_wp2_with fail
          refine TA.out.mono ?_
          rintro _ w2 ⟨rfl, l2⟩
          have K2 := Lib.hid (hK.out.turnA l2)
          clear l2 TA c0 c1 c2 c3 cb
          go_wp2_with fail
          refine (TB.out _ K2.out.2.1).mono ?_
          rintro _ w3 ⟨rfl, l3⟩
          have K3 := Lib.hid (K2.out.turnB l3)
          clear l3 K2
          go_wp2_with fail
          exact ⟨⟨k + 1, S2, by go_num, by omega, I2, K3⟩, by simp [RowKit.intOf]; omega⟩
        · have hg2 : (decide ((k : Int) < n) = false) ∨ (decide ((k : Int) < n) = true ∧ decide ((k : Int) < 40) = false ∧ decide (k < 40) = false) := by
            by_cases q : (k : Int) < n
            · exact .inr ⟨by simp [q], by simp; omega, by simp; omega⟩
            · exact .inl (by simp; omega)
          obtain ⟨k', v', e', hR⟩ : ∃ k v e, Pl.upR c S t o po = ⟨k, v, e⟩ := ⟨_, _, _, rfl⟩
          obtain ⟨S2, hS2⟩ : ∃ S2, Pl.upS c S t o po = S2 := ⟨_, rfl⟩
          have I2 := Pl.linv_up (t := t) (o := o) (po := po) HE.out hI.out.1
          rw [hS2] at I2
          have U2 := Lib.hid (pupdate_at HE.out hI.out.1 hR hS2)
          have V2 : Hid (∀ W, Blk W b' 50 (rvA c S X) → Calls Tryd.prog 19 #[.pointer (some ⟨b', 0, none⟩), .int .i64 t, .int .i64 o, .int .i64 po] W (RUp b' c S2 ⟨k', v', e'⟩ W)) := Lib.hid (fun W h => by have := rupdate_any b' c S X t o po W h HE.out hI.out.1 hI.out.2; rw [hR, hS2] at this; exact this)
          replace I2 := Lib.hid I2
          have hr0 : Row4 _ bx (ox + j * 4) n t o po := ⟨cb, c0, c1, c2, c3⟩
          have hne : bx < b := by have := hK.out.1.2.2.2; omega
          have hne' : bx < b' := by have := hK.out.2.2.2; omega
          have hlt3 := hK.out.lt
          clear hR hS2 hI hg
          rcases hg2 with u1 | ⟨u1, u2, u3⟩
          all_goals
            go_wp2_with fail
            go_cut [9, 10] (fun x y wx => ∃ g, x = .pointer (some ⟨g, 0, none⟩) ∧ y = .int .i64 e' ∧ Hid (Lr w wx b b' c S2 S X ∧ Blk wx g 38 #[.int .i64 k', .int .i64 v'] ∧ g ≠ b ∧ g ≠ b'))
            case first =>
              go_region_held3 (fun w' => w'.cell? ⟨bx, ox + j * 4 + 1, none⟩ = some (.int .i64 t) ∧ w'.cell? ⟨bx, ox + j * 4 + 2, none⟩ = some (.int .i64 o) ∧ w'.cell? ⟨bx, ox + j * 4 + 3, none⟩ = some (.int .i64 po)) (first | exact ⟨c1, c2, c3⟩ | exact hr1.2.2 | exact (hr1.on (bel_bx w2 _)).2.2 | exact (hr0.on (bel_bx wr _)).2.2 | exact (hr1.two hxb _ _).2.2) ((go_at_call 18; refine (U2.out b _ ?_).mono ?_; (first | exact hK.out.1.2.2.1 | exact hK.out.drew.1.2.2.1 | exact (hK.out.alloc _).drew.1.2.2.1); rintro _ w2 ⟨rfl, l2⟩; (first | (have K2 : Lr w w2 b b' c S2 S X := hK.out.turnA l2) | (have K2 : Lr w w2 b b' c S2 S X := hK.out.drew.turnA l2) | (have K2 : Lr w w2 b b' c S2 S X := (hK.out.alloc _).drew.turnA l2; have hX := up_two l2 hK.out.1.2.2.1.lt; have d0 := hX.frozen 0; have d1 := hX.frozen 1; have dz := hX.lt; have e0 := hX.cell 0; have e1 := hX.cell 1)); (first | (have hr1 : Row4 w2 bx (ox + j * 4) n t o po := hr0.grown l2.2 hne) | (have hr1 : Row4 w2 bx (ox + j * 4) n t o po := hr0.drew.grown l2.2 hne) | (have hr1 : Row4 w2 bx (ox + j * 4) n t o po := (hr0.on (bel_bx wr _)).drew.grown l2.2 hne)); have hxb : bx < wr.heap.size := cb))
              all_goals (
                go_wp2_with fail
                go_meet
                first
                  | exact ⟨_, rfl, rfl, Lib.hid ⟨K2.alloc _, Blk.new w2 _ _, by have := K2.lt; omega, by have := K2.lt; omega⟩⟩
                  | exact ⟨_, rfl, rfl, Lib.hid ⟨K2.two (by omega) (by omega) (by omega) _ _, blk_two hX, by omega, by omega⟩⟩)
            obtain ⟨g, rfl, rfl, hW⟩ := hcut
            clear hr0 hK U2 cb c0 c1 c2 c3
            have hr0 := HR.out _ hW.out.1.1.1
            obtain ⟨cb, c0, c1, c2, c3⟩ := hr0
            have hr0 := HR.out _ hW.out.1.1.1
            have hlt4 := hW.out.1.lt
            have hgz := hW.out.2.1.lt
            go_wp2_with fail
            go_cut [11, 12] (fun x y wx => ∃ (g' : Nat) (X2 : Pl.RX), x = .pointer (some ⟨g', 0, none⟩) ∧ y = .int .i64 e' ∧ Hid (Lr w wx b b' c S2 S2 X2 ∧ Pl.XInv S2 X2 ∧ Blk wx g 38 #[.int .i64 k', .int .i64 v'] ∧ Blk wx g' 38 #[.int .i64 k', .int .i64 v']))
            case first =>
              go_region_held3 (fun w' => w'.cell? ⟨bx, ox + j * 4 + 1, none⟩ = some (.int .i64 t) ∧ w'.cell? ⟨bx, ox + j * 4 + 2, none⟩ = some (.int .i64 o) ∧ w'.cell? ⟨bx, ox + j * 4 + 3, none⟩ = some (.int .i64 po)) (first | exact ⟨c1, c2, c3⟩ | exact hr1.2.2 | exact (hr1.on (bel_bx w2 _)).2.2 | exact (hr0.on (bel_bx _ _)).2.2 | exact (hr1.two hxb _ _).2.2) ((go_at_call 19; refine (V2.out _ ?_).mono ?_; (first | exact hW.out.1.2.1 | exact hW.out.1.drew.2.1 | exact (hW.out.1.alloc _).drew.2.1); rintro _ w2 ⟨X2, rfl, l2, hx2⟩; (first | (have K2 : Lr w w2 b b' c S2 S2 X2 := hW.out.1.turnB l2) | (have K2 : Lr w w2 b b' c S2 S2 X2 := hW.out.1.drew.turnB l2) | (have K2 : Lr w w2 b b' c S2 S2 X2 := (hW.out.1.alloc _).drew.turnB l2; have hX := up_twoR l2 hW.out.1.2.1.lt; have d0 := hX.frozen 0; have d1 := hX.frozen 1; have dz := hX.lt; have e0 := hX.cell 0; have e1 := hX.cell 1)); (first | (have hr1 : Row4 w2 bx (ox + j * 4) n t o po := hr0.grown l2.2 hne') | (have hr1 : Row4 w2 bx (ox + j * 4) n t o po := hr0.drew.grown l2.2 hne') | (have hr1 : Row4 w2 bx (ox + j * 4) n t o po := (hr0.on (bel_bx _ _)).drew.grown l2.2 hne')); (first | (have HA2 : Blk w2 g 38 #[.int .i64 k', .int .i64 v'] := hW.out.2.1.grown l2.2 (fun e => by injection e with e; exact hW.out.2.2.2 e)) | (have HA2 : Blk w2 g 38 #[.int .i64 k', .int .i64 v'] := hW.out.2.1.drew.grown l2.2 (fun e => by injection e with e; exact hW.out.2.2.2 e)) | (have HA2 : Blk w2 g 38 #[.int .i64 k', .int .i64 v'] := ((hW.out.2.1.alloc _).drew).grown l2.2 (fun e => by injection e with e; exact hW.out.2.2.2 e))); have hxb := cb))
              all_goals (
                go_wp2_with fail
                go_meet
                first
                  | exact ⟨_, X2, rfl, rfl, Lib.hid ⟨K2.alloc _, hx2, HA2.alloc _, Blk.new w2 _ _⟩⟩
                  | exact ⟨_, X2, rfl, rfl, Lib.hid ⟨K2.two (by omega) (by omega) (by omega) _ _, hx2, blk_two_far HA2 (by omega) _ _, blk_two hX⟩⟩)
            obtain ⟨g', X2, rfl, rfl, hV⟩ := hcut
            have K := hV.out.1
            have a0 := hV.out.2.2.1.cell 0
            have a1 := hV.out.2.2.1.cell 1
            have az := hV.out.2.2.1.lt
            have b0 := hV.out.2.2.2.cell 0
            have b1 := hV.out.2.2.2.cell 1
            have bz := hV.out.2.2.2.lt
            have PA := Lib.hid (pstate_any b c S2 _ K.1.2.2.1)
            have PB := Lib.hid (rstate_any b' c S2 X2 _ K.2.1)
            have QA := Lib.hid (pfreq_any b c S2 _ K.1.2.2.1)
            have QB := Lib.hid (rfreq_any b' c S2 X2 _ K.2.1)
            have RA := Lib.hid (pphase_any b c S2 _ K.1.2.2.1)
            have RB := Lib.hid (rphaseP_any b' c S2 X2 _ K.2.1)
            have KH := Lib.hid K
            have IX := Lib.hid (And.intro I2.out hV.out.2.1)
            clear hW hr0 cb c0 c1 c2 c3 hlt4 hgz hlt3 V2 hV K I2
            go_wp2_with fail
            refine PA.out.mono ?_
            rintro _ w8 ⟨rfl, rfl⟩
            go_wp2_with fail
            refine PB.out.mono ?_
            rintro _ w8 ⟨rfl, rfl⟩
            go_wp2_with fail
            refine QA.out.mono ?_
            rintro _ w8 ⟨rfl, rfl⟩
            go_wp2_with fail
            refine QB.out.mono ?_
            rintro _ w8 ⟨rfl, rfl⟩
            go_wp2_with fail
            refine RA.out.mono ?_
            rintro _ w8 ⟨rfl, rfl⟩
            go_wp2_with fail
            refine RB.out.mono ?_
            rintro _ w8 ⟨rfl, rfl⟩
            go_wp2_with fail
            exact ⟨⟨j + 1, S2, X2, by go_num, by omega, IX, KH⟩, by simp [RowKit.intOf]; omega⟩
    · obtain rfl : j = len := by omega
      have tl : decide ((j : Int) < (j : Int)) = false := by simp
      go_wp2_with fail
      refine (pawake_any _ (HC.out.on hK.out.1.1)).mono ?_
      rintro _ w9 ⟨rfl, l9⟩
      go_wp2
      go_ret
      exact ⟨rfl, bel_on hK.out.1.1 l9⟩
theorem pllRuns_walk (a b c d e : Int) (x : Option Addr) (len cap : Nat) (z : Nat → Nat → Int) (w : World) (hc : ConfAt w) (_h : ∀ n ∈ [a, b, c, d, e], (Lit.int .i64 n).wf = true) (hz : len ≤ cap ∧ cap ≤ maxLen ∧ Fours w x len z) :
    Calls Tryd.prog 4 #[.agg ([a, b, c, d, e].map (Value.int .i64)).toArray, .slice x len cap] w fun e w' => e = .returned (.bool true) ∧ Below w.heap.size w w' := by
  have hcap : cap ≤ 9223372036854775807 := by simpa [maxLen] using hz.2.1
  by_cases h : (⟨a, b, c, d, e⟩ : Pl.LC).err = 0
  · by_cases hl : len ≤ 60
    · exact pllRuns_yes ⟨a, b, c, d, e⟩ x len cap z w hc h hl hz.2.2
    · exact pllRuns_long ⟨a, b, c, d, e⟩ x len cap w hc h (by omega) (by omega)
  · exact pllRuns_no ⟨a, b, c, d, e⟩ x len cap w hc h
end Go.Proofs.YtdjfbghdnkjdoaaDoor

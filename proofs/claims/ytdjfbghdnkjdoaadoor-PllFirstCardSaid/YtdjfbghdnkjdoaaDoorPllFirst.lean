/- The walk of PllFirst. -/
import Derived.Test.YtdjfbghdnkjdoaaDoorPll6
namespace Go.Proofs.YtdjfbghdnkjdoaaDoor
namespace Pl
theorem f_err {c : LC} {t o p : Int} (h : upE c ⟨0, 0, 0, false, 0, 0, 0⟩ t o p ≠ 0) : upR c ⟨0, 0, 0, false, 0, 0, 0⟩ t o p = ⟨0, 0, 3⟩ ∧ upS c ⟨0, 0, 0, false, 0, 0, 0⟩ t o p = ⟨0, 0, 0, false, 0, 0, 0⟩ := by
  have e : upE c ⟨0, 0, 0, false, 0, 0, 0⟩ t o p = 3 := by
    unfold upE at h ⊢
    split at h
    · simp at h
    · rw [if_neg (by assumption)]
  unfold upR upS
  rw [e]
  exact ⟨rfl, rfl⟩
theorem f_big {c : LC} {t o p : Int} (h : upE c ⟨0, 0, 0, false, 0, 0, 0⟩ t o p = 0) (hb : big c o = true) : upR c ⟨0, 0, 0, false, 0, 0, 0⟩ t o p = ⟨2, o, 0⟩ ∧ upS c ⟨0, 0, 0, false, 0, 0, 0⟩ t o p = ⟨1, 0, 0, true, t, p, 0⟩ := by
  unfold upR upS
  rw [if_pos h, if_pos h]
  simp [waits, hb, lgK, lgS, LS.upd]
theorem f_small {c : LC} {t o p : Int} (h : upE c ⟨0, 0, 0, false, 0, 0, 0⟩ t o p = 0) (hb : big c o = false) : upR c ⟨0, 0, 0, false, 0, 0, 0⟩ t o p = ⟨1, 0, 0⟩ ∧ upS c ⟨0, 0, 0, false, 0, 0, 0⟩ t o p = ⟨1, 0, o, true, t, p, 0⟩ := by
  unfold upR upS
  rw [if_pos h, if_pos h]
  simp [waits, hb, smS, LS.upd]
theorem f_second {c : LC} {P t p t2 o2 p2 : Int} : ((upR c ⟨1, 0, P, true, t, p, 0⟩ t2 o2 p2).e = 0 → 0 ≤ t2 ∧ t2 ≤ 1073741824 ∧ t < t2) ∧
    ((upR c ⟨1, 0, P, true, t, p, 0⟩ t2 o2 p2).e = 0 → c.so ≤ t2 - t → (upS c ⟨1, 0, P, true, t, p, 0⟩ t2 o2 p2).st = 3) ∧
    ((upR c ⟨1, 0, P, true, t, p, 0⟩ t2 o2 p2).e = 0 → t2 - t < c.so → (upR c ⟨1, 0, P, true, t, p, 0⟩ t2 o2 p2).k = 0 ∧ (upR c ⟨1, 0, P, true, t, p, 0⟩ t2 o2 p2).v = 0 ∧ (upS c ⟨1, 0, P, true, t, p, 0⟩ t2 o2 p2) = ⟨1, 0, P, true, t, p, 0⟩) := by
  by_cases h : upE c ⟨1, 0, P, true, t, p, 0⟩ t2 o2 p2 = 0
  · obtain ⟨a, b⟩ := upE_zero h
    have ab := (args_iff.1 a).1
    have bb := b rfl
    refine ⟨fun _ => ⟨ab.1, ab.2, bb⟩, fun _ hl => ?_, fun _ hl => ?_⟩
    · unfold upS
      rw [if_pos h]
      have w : waits c ⟨1, 0, P, true, t, p, 0⟩ t2 = false := by simp [waits, mu]; omega
      rw [w]
      simp only [Bool.false_eq_true, if_false]
      split <;> rfl
    · have w : waits c ⟨1, 0, P, true, t, p, 0⟩ t2 = true := by simp [waits, mu]; omega
      unfold upR upS
      rw [if_pos h, if_pos h, if_pos w, if_pos w]
      exact ⟨rfl, rfl, rfl⟩
  · have e : (upR c ⟨1, 0, P, true, t, p, 0⟩ t2 o2 p2).e = upE c ⟨1, 0, P, true, t, p, 0⟩ t2 o2 p2 := by unfold upR; rw [if_neg h]
    rw [e]
    exact ⟨fun q => absurd q h, fun q => absurd q h, fun q => absurd q h⟩
end Pl
open Go.RowKit Go.Lib

/-- the three boxes of the parameters, and a loop -/
def Fi (w W : World) (b : Nat) (c : Pl.LC) (k t o p k2 t2 o2 p2 : Int) (S : Pl.LS) : Prop :=
  Below w.heap.size w W ∧ Blk W w.heap.size 23 #[.int .i64 c.lo, .int .i64 c.hi, .int .i64 c.sa, .int .i64 c.so, .int .i64 c.lim] ∧ Blk W (w.heap.size + 1) 35 #[.int .i64 k, .int .i64 t, .int .i64 o, .int .i64 p] ∧ Blk W (w.heap.size + 2) 35 #[.int .i64 k2, .int .i64 t2, .int .i64 o2, .int .i64 p2] ∧ Blk W b 46 (lvA c S) ∧ w.heap.size + 3 ≤ b
section
variable {w W W' : World} {b : Nat} {c : Pl.LC} {k t o p k2 t2 o2 p2 : Int} {S S' : Pl.LS}
theorem Fi.on (h : Fi w W b c k t o p k2 t2 o2 p2 S) (l : Below W.heap.size W W') : Fi w W' b c k t o p k2 t2 o2 p2 S := ⟨bel_on h.1 l, h.2.1.below_ l, h.2.2.1.below_ l, h.2.2.2.1.below_ l, h.2.2.2.2.1.below_ l, h.2.2.2.2.2⟩
theorem Fi.alloc (h : Fi w W b c k t o p k2 t2 o2 p2 S) (x : Obj) : Fi w (W.alloc x) b c k t o p k2 t2 o2 p2 S := h.on (bel_bx W x)
theorem Fi.drew (h : Fi w W b c k t o p k2 t2 o2 p2 S) : Fi w W.drew b c k t o p k2 t2 o2 p2 S := ⟨h.1.drew, h.2.1.drew, h.2.2.1.drew, h.2.2.2.1.drew, h.2.2.2.2.1.drew, h.2.2.2.2.2⟩
theorem Fi.turn (h : Fi w W b c k t o p k2 t2 o2 p2 S) (l : LeftP b c S' W W') : Fi w W' b c k t o p k2 t2 o2 p2 S' := by
  have hb := h.2.2.2.2.2
  exact ⟨Below.only h.1 l.2 (by omega) h.1.size, h.2.1.grown l.2 (fun e => by injection e with e; omega), h.2.2.1.grown l.2 (fun e => by injection e with e; omega), h.2.2.2.1.grown l.2 (fun e => by injection e with e; omega), l.1, hb⟩
theorem Fi.cf (h : Fi w W b c k t o p k2 t2 o2 p2 S) : W.cell? ⟨w.heap.size, 0, none⟩ = some (.int .i64 c.lo) ∧ W.cell? ⟨w.heap.size, 1, none⟩ = some (.int .i64 c.hi) ∧ W.cell? ⟨w.heap.size, 2, none⟩ = some (.int .i64 c.sa) ∧ W.cell? ⟨w.heap.size, 3, none⟩ = some (.int .i64 c.so) ∧ W.cell? ⟨w.heap.size, 4, none⟩ = some (.int .i64 c.lim) :=
  ⟨h.2.1.cell 0, h.2.1.cell 1, h.2.1.cell 2, h.2.1.cell 3, h.2.1.cell 4⟩
theorem Fi.s1 (h : Fi w W b c k t o p k2 t2 o2 p2 S) : W.cell? ⟨w.heap.size + 1, 0, none⟩ = some (.int .i64 k) ∧ W.cell? ⟨w.heap.size + 1, 1, none⟩ = some (.int .i64 t) ∧ W.cell? ⟨w.heap.size + 1, 2, none⟩ = some (.int .i64 o) ∧ W.cell? ⟨w.heap.size + 1, 3, none⟩ = some (.int .i64 p) :=
  ⟨h.2.2.1.cell 0, h.2.2.1.cell 1, h.2.2.1.cell 2, h.2.2.1.cell 3⟩
theorem Fi.s2 (h : Fi w W b c k t o p k2 t2 o2 p2 S) : W.cell? ⟨w.heap.size + 2, 0, none⟩ = some (.int .i64 k2) ∧ W.cell? ⟨w.heap.size + 2, 1, none⟩ = some (.int .i64 t2) ∧ W.cell? ⟨w.heap.size + 2, 2, none⟩ = some (.int .i64 o2) ∧ W.cell? ⟨w.heap.size + 2, 3, none⟩ = some (.int .i64 p2) :=
  ⟨h.2.2.2.1.cell 0, h.2.2.2.1.cell 1, h.2.2.2.1.cell 2, h.2.2.2.1.cell 3⟩
end
/-- the parameters' boxes as they are laid -/
abbrev W3 (w : World) (c : Pl.LC) (k t o p k2 t2 o2 p2 : Int) : World := ((w.alloc (.cells #[.int .i64 c.lo, .int .i64 c.hi, .int .i64 c.sa, .int .i64 c.so, .int .i64 c.lim] 23)).alloc (.cells #[.int .i64 k, .int .i64 t, .int .i64 o, .int .i64 p] 35)).alloc (.cells #[.int .i64 k2, .int .i64 t2, .int .i64 o2, .int .i64 p2] 35)
theorem w3_bel (w : World) (c : Pl.LC) (k t o p k2 t2 o2 p2 : Int) : Below w.heap.size w (W3 w c k t o p k2 t2 o2 p2) := bel_more (bel_more (bel_bx w _) _) _
theorem w3_fi {w W : World} {b : Nat} {c : Pl.LC} {k t o p k2 t2 o2 p2 : Int} {S : Pl.LS} (l : Below (W3 w c k t o p k2 t2 o2 p2).heap.size (W3 w c k t o p k2 t2 o2 p2) W) (hb : (W3 w c k t o p k2 t2 o2 p2).heap.size ≤ b) (hk : Blk W b 46 (lvA c S)) : Fi w W b c k t o p k2 t2 o2 p2 S := by
  have h1 := (((Blk.new w 23 #[.int .i64 c.lo, .int .i64 c.hi, .int .i64 c.sa, .int .i64 c.so, .int .i64 c.lim]).alloc (.cells #[.int .i64 k, .int .i64 t, .int .i64 o, .int .i64 p] 35)).alloc (.cells #[.int .i64 k2, .int .i64 t2, .int .i64 o2, .int .i64 p2] 35)).below_ l
  have h2 := ((Blk.new (w.alloc (.cells #[.int .i64 c.lo, .int .i64 c.hi, .int .i64 c.sa, .int .i64 c.so, .int .i64 c.lim] 23)) 35 #[.int .i64 k, .int .i64 t, .int .i64 o, .int .i64 p]).alloc (.cells #[.int .i64 k2, .int .i64 t2, .int .i64 o2, .int .i64 p2] 35)).below_ l
  have h3 := (Blk.new ((w.alloc (.cells #[.int .i64 c.lo, .int .i64 c.hi, .int .i64 c.sa, .int .i64 c.so, .int .i64 c.lim] 23)).alloc (.cells #[.int .i64 k, .int .i64 t, .int .i64 o, .int .i64 p] 35)) 35 #[.int .i64 k2, .int .i64 t2, .int .i64 o2, .int .i64 p2]).below_ l
  exact ⟨bel_on (w3_bel w c k t o p k2 t2 o2 p2) l, h1, by simpa using h2, by simpa using h3, hk, by simpa using hb⟩

set_option maxRecDepth 100000 in
set_option maxHeartbeats 8000000 in
theorem pllFirst_no (c : Pl.LC) (k t o p k2 t2 o2 p2 : Int) (w : World) (hc : ConfAt w) (h : c.err ≠ 0) : Calls Tryd.prog 8 #[lcV c, .agg #[.int .i64 k, .int .i64 t, .int .i64 o, .int .i64 p], .agg #[.int .i64 k2, .int .i64 t2, .int .i64 o2, .int .i64 p2]] w fun e w' => e = .returned (.bool true) ∧ Below w.heap.size w w' := by
  have HC := Lib.hid hc
  have NW := Lib.hid (fun W => pnew_no c h W)
  have PC := fun W => pcheck_any c W
  obtain ⟨E, hE⟩ : ∃ E, c.err = E := ⟨_, rfl⟩
  rw [hE] at PC h
  have PC := Lib.hid PC
  have tE : (E == 0) = false := by simp [h]
  have tE' : (E != 0) = true := by simp [h]
  have B0 := Lib.hid (w3_bel w c k t o p k2 t2 o2 p2)
  clear hc h hE
  go_enter Tryd.func8, Tryd.ntmps8
  go_wp2_with fail
  refine (NW.out _).mono ?_
  rintro _ w1 ⟨rfl, l1⟩
  have h1 := (((Blk.new w 23 #[.int .i64 c.lo, .int .i64 c.hi, .int .i64 c.sa, .int .i64 c.so, .int .i64 c.lim]).alloc (.cells #[.int .i64 k, .int .i64 t, .int .i64 o, .int .i64 p] 35)).alloc (.cells #[.int .i64 k2, .int .i64 t2, .int .i64 o2, .int .i64 p2] 35)).below_ l1
  have g0 : w1.cell? ⟨w.heap.size, 0, none⟩ = some (.int .i64 c.lo) := h1.cell 0
  have g1 : w1.cell? ⟨w.heap.size, 1, none⟩ = some (.int .i64 c.hi) := h1.cell 1
  have g2 : w1.cell? ⟨w.heap.size, 2, none⟩ = some (.int .i64 c.sa) := h1.cell 2
  have g3 : w1.cell? ⟨w.heap.size, 3, none⟩ = some (.int .i64 c.so) := h1.cell 3
  have g4 : w1.cell? ⟨w.heap.size, 4, none⟩ = some (.int .i64 c.lim) := h1.cell 4
  have gz := h1.lt
  have B1 := Lib.hid (bel_on B0.out l1)
  clear l1 h1
  go_wp2_with fail
  refine (PC.out _).mono ?_
  rintro _ w2 ⟨rfl, l2⟩
  have B2 := Lib.hid (bel_on B1.out l2)
  clear l2
  go_wp2_with fail
  refine (pawake_any _ (HC.out.on B2.out)).mono ?_
  rintro _ w3 ⟨rfl, l3⟩
  go_wp2
  go_ret
  exact ⟨rfl, bel_on B2.out l3⟩

set_option maxRecDepth 100000 in
set_option maxHeartbeats 8000000 in
theorem pllFirst_yes (c : Pl.LC) (k t o p k2 t2 o2 p2 : Int) (w : World) (hc : ConfAt w) (h : c.err = 0) : Calls Tryd.prog 8 #[lcV c, .agg #[.int .i64 k, .int .i64 t, .int .i64 o, .int .i64 p], .agg #[.int .i64 k2, .int .i64 t2, .int .i64 o2, .int .i64 p2]] w fun e w' => e = .returned (.bool true) ∧ Below w.heap.size w w' := by
  have HC := Lib.hid hc
  have NW := Lib.hid (fun W => pnew_yes c h W)
  have HE := Lib.hid h
  have I0 := Lib.hid (Pl.linv0 h)
  have tk0 : Pl.tk c ⟨0, 0, 0, false, 0, 0, 0⟩ = 0 := by unfold Pl.tk; exact Int.zero_tdiv _
  have tks : Pl.tkS c ⟨0, 0, 0, false, 0, 0, 0⟩ = ⟨0, 0, 0, false, 0, 0, 0⟩ := by unfold Pl.tkS; rw [tk0]; rfl
  have TK := Lib.hid (fun b W k => ptick_any b c ⟨0, 0, 0, false, 0, 0, 0⟩ W k h I0.out)
  rw [tk0, tks] at TK
  obtain ⟨hok1, hok2, hok3, hok4, hok5, hok6⟩ := Pl.LC.ok h
  clear hc h tk0 tks
  go_enter Tryd.func8, Tryd.ntmps8
  go_wp2_with fail
  refine (NW.out _).mono ?_
  rintro _ w1 ⟨b, rfl, hb, hk, l1⟩
  have K : Fi w w1 b c k t o p k2 t2 o2 p2 ⟨0, 0, 0, false, 0, 0, 0⟩ := w3_fi l1 hb hk
  clear hb hk l1
  go_wp2_with fail
  refine (pstate_any b c _ _ K.2.2.2.2.1).mono ?_
  rintro _ w2 ⟨rfl, rfl⟩
  go_wp2_with fail
  refine (pfreq_any b c _ _ K.2.2.2.2.1).mono ?_
  rintro _ w2 ⟨rfl, rfl⟩
  go_wp2_with fail
  refine (pphase_any b c _ _ K.2.2.2.2.1).mono ?_
  rintro _ w2 ⟨rfl, rfl⟩
  go_wp2_with fail
  refine (TK.out b _ K.2.2.2.2.1).mono ?_
  rintro _ w2 ⟨rfl, l2⟩
  have K := K.turn l2
  clear l2
  obtain ⟨g0, g1, g2, g3, g4⟩ := K.cf
  obtain ⟨x0, x1, x2, x3⟩ := K.s1
  obtain ⟨y0, y1, y2, y3⟩ := K.s2
  have kz := K.2.2.2.1.lt
  have kz1 : w.heap.size + 1 < w2.heap.size := by omega
  have kz0 : w.heap.size < w2.heap.size := by omega
  by_cases h0 : Pl.upE c ⟨0, 0, 0, false, 0, 0, 0⟩ t o p = 0
  · have hat := Pl.upE_zero h0
    have hab := Pl.args_iff.1 hat.1
    have kwsa : IntKind.i64.wrap (-c.sa) = -c.sa := IntWalk.i64_in _ (by omega)
    cases hbg : Pl.big c o with
    | true =>
      obtain ⟨hR, hS⟩ := Pl.f_big h0 hbg
      have I1 := Pl.linv_up (t := t) (o := o) (po := p) HE.out I0.out
      rw [hS] at I1
      have I1 := Lib.hid I1
      have U1 := Lib.hid (pupdate_at (c := c) (s := ⟨0, 0, 0, false, 0, 0, 0⟩) HE.out I0.out hR hS)
      have hbb := Pl.big_iff.1 hbg
      have hlg : (c.sa ≤ o ∨ (o < c.sa ∧ o ≤ -c.sa)) := by omega
      clear h0 hat hR hS hbg hbb
      go_wp2_with fail
      refine (U1.out b _ K.2.2.2.2.1).mono ?_
      rintro _ w3 ⟨rfl, l3⟩
      have A8 := Blk.new w3 38 #[.int .i64 2, .int .i64 o]
      have K := (K.turn l3).alloc (.cells #[.int .i64 2, .int .i64 o] 38)
      clear g0 g1 g2 g3 g4 x0 x1 x2 x3 y0 y1 y2 y3 kz kz1 kz0
      clear l3
      obtain ⟨g0, g1, g2, g3, g4⟩ := K.cf
      obtain ⟨x0, x1, x2, x3⟩ := K.s1
      obtain ⟨y0, y1, y2, y3⟩ := K.s2
      have kz := K.2.2.2.1.lt
      have kz1 := kz
      have kz0 := kz
      go_upto_region 9 with fail
      go_cut [10] (fun v wx => v = .bool true ∧ wx = w3.alloc (.cells #[.int .i64 2, .int .i64 o] 38))
      case first =>
        rcases hlg with q | ⟨q, q2⟩
        · have u1 : decide (c.sa ≤ o) = true := by simp [q]
          go_wp2_with fail
          go_meet
          exact ⟨rfl, rfl⟩
        · have u1 : decide (c.sa ≤ o) = false := by simp; omega
          have u2 : decide (o ≤ -c.sa) = true := by simp [q2]
          go_wp2_with fail
          go_meet
          exact ⟨rfl, rfl⟩
      case rest =>
        obtain ⟨rfl, rfl⟩ := hcut
        go_upto_region 10 with fail
        go_cut [111] (fun v wx => v = .bool false ∧ Hid (Fi w wx b c k t o p k2 t2 o2 p2 ⟨1, 0, 0, true, t, p, 0⟩))
        case first =>
          have PS := Lib.hid (fun b W k => pstate_any b c ⟨1, 0, 0, true, t, p, 0⟩ W k)
          have PP := Lib.hid (fun b W k => pphase_any b c ⟨1, 0, 0, true, t, p, 0⟩ W k)
          have a0 := A8.cell 0
          have a1 := A8.cell 1
          have a2 := x2
          have kb := K.drew.2.2.2.2.1
          refine wp_region_held_drew (S := (fun w' => w'.cell? ⟨w3.heap.size, 0, none⟩ = some (.int .i64 2) ∧ w'.cell? ⟨w3.heap.size, 1, none⟩ = some (.int .i64 o) ∧ w'.cell? ⟨w.heap.size + 1, 2, none⟩ = some (.int .i64 o))) (by kernel_rfl) (by exact ⟨a0, a1, a2⟩) (fun hHeld => ?_)
          refine wpAnyH_take (i := 0) (oi := ⟨some 78, _, _, _, _, _⟩) (v := .pointer (some ⟨b, 0, none⟩)) rfl (by kernel_rfl) (by kernel_rfl) (by kernel_rfl) (fun _ _ _ h => h) (Or.inl ⟨rfl, by intro w hSw; (try dsimp only at hSw); go_simp⟩) (by assumption) ?_
          try simp only [Act.put, List.setIfInBounds_toArray, List.set_cons_zero, List.set_cons_succ]
          refine wpAnyH_ready (rs := [1]) (by kernel_rfl) (by simp) ?_
          refine AllReadyH.cons (o := ⟨some 79, _, _, _, _, _⟩) rfl (fun K hK => ?_) AllReadyH.nil
          go_simp
          (go_at_call 20; refine (PS.out b _ kb).mono ?_; rintro _ w8 ⟨rfl, rfl⟩)
          refine hK.out _ _ (⟨a0, a1, a2⟩) (fun hHeld => ?_)
          clear hK K
          try simp only [Act.put, List.setIfInBounds_toArray, List.set_cons_zero, List.set_cons_succ]
          refine wpAnyH_take (i := 2) (oi := ⟨some 80, _, _, _, _, _⟩) (v := .bool false) rfl (by kernel_rfl) (by kernel_rfl) (by kernel_rfl) (fun _ _ _ h => h) (Or.inl ⟨rfl, by intro w hSw; (try dsimp only at hSw); go_simp⟩) (by assumption) ?_
          try simp only [Act.put, List.setIfInBounds_toArray, List.set_cons_zero, List.set_cons_succ]
          refine wpAnyH_take (i := 3) (oi := ⟨some 81, _, _, _, _, _⟩) (v := .bool false) rfl (by kernel_rfl) (by kernel_rfl) (by kernel_rfl) (fun _ _ _ h => h) (Or.inl ⟨rfl, by intro w hSw; (try dsimp only at hSw); go_simp⟩) (by assumption) ?_
          try simp only [Act.put, List.setIfInBounds_toArray, List.set_cons_zero, List.set_cons_succ]
          refine wpAnyH_take (i := 4) (oi := ⟨some 82, _, _, _, _, _⟩) (v := .bool true) rfl (by kernel_rfl) (by kernel_rfl) (by kernel_rfl) (fun _ _ _ h => h) (Or.inl ⟨rfl, by intro w hSw; (try dsimp only at hSw); go_simp⟩) (by assumption) ?_
          try simp only [Act.put, List.setIfInBounds_toArray, List.set_cons_zero, List.set_cons_succ]
          refine wpAnyH_take (i := 5) (oi := ⟨some 83, _, _, _, _, _⟩) (v := .bool true) rfl (by kernel_rfl) (by kernel_rfl) (by kernel_rfl) (fun _ _ _ h => h) (Or.inl ⟨rfl, by intro w hSw; (try dsimp only at hSw); go_simp⟩) (by assumption) ?_
          try simp only [Act.put, List.setIfInBounds_toArray, List.set_cons_zero, List.set_cons_succ]
          refine wpAnyH_take (i := 6) (oi := ⟨some 84, _, _, _, _, _⟩) (v := .agg #[.int .i64 2, .int .i64 o]) rfl (by kernel_rfl) (by kernel_rfl) (by kernel_rfl) (fun _ _ _ h => h) (Or.inl ⟨rfl, by intro w hSw; (try dsimp only at hSw); go_simp⟩) (by assumption) ?_
          try simp only [Act.put, List.setIfInBounds_toArray, List.set_cons_zero, List.set_cons_succ]
          refine wpAnyH_take (i := 7) (oi := ⟨some 85, _, _, _, _, _⟩) (v := .pointer (some ⟨w.heap.size + 1, 2, none⟩)) rfl (by kernel_rfl) (by kernel_rfl) (by kernel_rfl) (fun _ _ _ h => h) (Or.inl ⟨rfl, by intro w hSw; (try dsimp only at hSw); go_simp⟩) (by assumption) ?_
          try simp only [Act.put, List.setIfInBounds_toArray, List.set_cons_zero, List.set_cons_succ]
          refine wpAnyH_take (i := 8) (oi := ⟨some 86, _, _, _, _, _⟩) (v := .int .i64 o) rfl (by kernel_rfl) (by kernel_rfl) (by kernel_rfl) (fun _ _ _ h => h) (Or.inl ⟨rfl, by intro w hSw; (try dsimp only at hSw); go_simp⟩) (by assumption) ?_
          try simp only [Act.put, List.setIfInBounds_toArray, List.set_cons_zero, List.set_cons_succ]
          refine wpAnyH_take (i := 9) (oi := ⟨some 87, _, _, _, _, _⟩) (v := .agg #[.int .i64 2, .int .i64 o]) rfl (by kernel_rfl) (by kernel_rfl) (by kernel_rfl) (fun _ _ _ h => h) (Or.inl ⟨rfl, by intro w hSw; (try dsimp only at hSw); go_simp⟩) (by assumption) ?_
          try simp only [Act.put, List.setIfInBounds_toArray, List.set_cons_zero, List.set_cons_succ]
          refine wpAnyH_take (i := 10) (oi := ⟨some 88, _, _, _, _, _⟩) (v := .bool false) rfl (by kernel_rfl) (by kernel_rfl) (by kernel_rfl) (fun _ _ _ h => h) (Or.inl ⟨rfl, by intro w hSw; (try dsimp only at hSw); go_simp⟩) (by assumption) ?_
          try simp only [Act.put, List.setIfInBounds_toArray, List.set_cons_zero, List.set_cons_succ]
          refine wpAnyH_take (i := 11) (oi := ⟨some 89, _, _, _, _, _⟩) (v := .bool false) rfl (by kernel_rfl) (by kernel_rfl) (by kernel_rfl) (fun _ _ _ h => h) (Or.inl ⟨rfl, by intro w hSw; (try dsimp only at hSw); go_simp⟩) (by assumption) ?_
          try simp only [Act.put, List.setIfInBounds_toArray, List.set_cons_zero, List.set_cons_succ]
          refine wpAnyH_take (i := 12) (oi := ⟨some 90, _, _, _, _, _⟩) (v := .pointer (some ⟨b, 0, none⟩)) rfl (by kernel_rfl) (by kernel_rfl) (by kernel_rfl) (fun _ _ _ h => h) (Or.inl ⟨rfl, by intro w hSw; (try dsimp only at hSw); go_simp⟩) (by assumption) ?_
          try simp only [Act.put, List.setIfInBounds_toArray, List.set_cons_zero, List.set_cons_succ]
          refine wpAnyH_ready (rs := [13]) (by kernel_rfl) (by simp) ?_
          refine AllReadyH.cons (o := ⟨some 91, _, _, _, _, _⟩) rfl (fun K hK => ?_) AllReadyH.nil
          go_simp
          (go_at_call 24; refine (PP.out b _ kb).mono ?_; rintro _ w8 ⟨rfl, rfl⟩)
          refine hK.out _ _ (⟨a0, a1, a2⟩) (fun hHeld => ?_)
          clear hK K
          try simp only [Act.put, List.setIfInBounds_toArray, List.set_cons_zero, List.set_cons_succ]
          refine wpAnyH_take (i := 14) (oi := ⟨some 92, _, _, _, _, _⟩) (v := .bool false) rfl (by kernel_rfl) (by kernel_rfl) (by kernel_rfl) (fun _ _ _ h => h) (Or.inl ⟨rfl, by intro w hSw; (try dsimp only at hSw); go_simp⟩) (by assumption) ?_
          try simp only [Act.put, List.setIfInBounds_toArray, List.set_cons_zero, List.set_cons_succ]
          refine wpAnyH_take (i := 15) (oi := ⟨some 93, _, _, _, _, _⟩) (v := .bool false) rfl (by kernel_rfl) (by kernel_rfl) (by kernel_rfl) (fun _ _ _ h => h) (Or.inl ⟨rfl, by intro w hSw; (try dsimp only at hSw); go_simp⟩) (by assumption) ?_
          try simp only [Act.put, List.setIfInBounds_toArray, List.set_cons_zero, List.set_cons_succ]
          refine wpAnyH_take (i := 16) (oi := ⟨some 94, _, _, _, _, _⟩) (v := .bool false) rfl (by kernel_rfl) (by kernel_rfl) (by kernel_rfl) (fun _ _ _ h => h) (Or.inl ⟨rfl, by intro w hSw; (try dsimp only at hSw); go_simp⟩) (by assumption) ?_
          try simp only [Act.put, List.setIfInBounds_toArray, List.set_cons_zero, List.set_cons_succ]
          refine wpAnyH_take (i := 17) (oi := ⟨some 95, _, _, _, _, _⟩) (v := .bool false) rfl (by kernel_rfl) (by kernel_rfl) (by kernel_rfl) (fun _ _ _ h => h) (Or.inl ⟨rfl, by intro w hSw; (try dsimp only at hSw); go_simp⟩) (by assumption) ?_
          try simp only [Act.put, List.setIfInBounds_toArray, List.set_cons_zero, List.set_cons_succ]
          refine wpAnyH_take (i := 18) (oi := ⟨some 96, _, _, _, _, _⟩) (v := .bool false) rfl (by kernel_rfl) (by kernel_rfl) (by kernel_rfl) (fun _ _ _ h => h) (Or.inl ⟨rfl, by intro w hSw; (try dsimp only at hSw); go_simp⟩) (by assumption) ?_
          try simp only [Act.put, List.setIfInBounds_toArray, List.set_cons_zero, List.set_cons_succ]
          refine wpAnyH_take (i := 19) (oi := ⟨some 97, _, _, _, _, _⟩) (v := .bool true) rfl (by kernel_rfl) (by kernel_rfl) (by kernel_rfl) (fun _ _ _ h => h) (Or.inl ⟨rfl, by intro w hSw; (try dsimp only at hSw); go_simp⟩) (by assumption) ?_
          try simp only [Act.put, List.setIfInBounds_toArray, List.set_cons_zero, List.set_cons_succ]
          refine wpAnyH_take (i := 20) (oi := ⟨some 98, _, _, _, _, _⟩) (v := .bool false) rfl (by kernel_rfl) (by kernel_rfl) (by kernel_rfl) (fun _ _ _ h => h) (Or.inl ⟨rfl, by intro w hSw; (try dsimp only at hSw); go_simp⟩) (by assumption) ?_
          try simp only [Act.put, List.setIfInBounds_toArray, List.set_cons_zero, List.set_cons_succ]
          refine wpAnyH_take (i := 21) (oi := ⟨some 99, _, _, _, _, _⟩) (v := .bool false) rfl (by kernel_rfl) (by kernel_rfl) (by kernel_rfl) (fun _ _ _ h => h) (Or.inl ⟨rfl, by intro w hSw; (try dsimp only at hSw); go_simp⟩) (by assumption) ?_
          try simp only [Act.put, List.setIfInBounds_toArray, List.set_cons_zero, List.set_cons_succ]
          refine wpAnyH_take (i := 22) (oi := ⟨some 100, _, _, _, _, _⟩) (v := undef) rfl (by kernel_rfl) (by kernel_rfl) (by kernel_rfl) (fun _ _ _ h => h) (Or.inr ⟨rfl, rfl⟩) (by assumption) ?_
          try simp only [Act.put, List.setIfInBounds_toArray, List.set_cons_zero, List.set_cons_succ]
          refine wpAnyH_take (i := 23) (oi := ⟨some 101, _, _, _, _, _⟩) (v := undef) rfl (by kernel_rfl) (by kernel_rfl) (by kernel_rfl) (fun _ _ _ h => h) (Or.inr ⟨rfl, rfl⟩) (by assumption) ?_
          try simp only [Act.put, List.setIfInBounds_toArray, List.set_cons_zero, List.set_cons_succ]
          refine wpAnyH_take (i := 24) (oi := ⟨some 102, _, _, _, _, _⟩) (v := undef) rfl (by kernel_rfl) (by kernel_rfl) (by kernel_rfl) (fun _ _ _ h => h) (Or.inr ⟨rfl, rfl⟩) (by assumption) ?_
          try simp only [Act.put, List.setIfInBounds_toArray, List.set_cons_zero, List.set_cons_succ]
          refine wpAnyH_take (i := 25) (oi := ⟨some 103, _, _, _, _, _⟩) (v := undef) rfl (by kernel_rfl) (by kernel_rfl) (by kernel_rfl) (fun _ _ _ h => h) (Or.inr ⟨rfl, rfl⟩) (by assumption) ?_
          try simp only [Act.put, List.setIfInBounds_toArray, List.set_cons_zero, List.set_cons_succ]
          refine wpAnyH_take (i := 26) (oi := ⟨some 104, _, _, _, _, _⟩) (v := undef) rfl (by kernel_rfl) (by kernel_rfl) (by kernel_rfl) (fun _ _ _ h => h) (Or.inr ⟨rfl, rfl⟩) (by assumption) ?_
          try simp only [Act.put, List.setIfInBounds_toArray, List.set_cons_zero, List.set_cons_succ]
          refine wpAnyH_take (i := 27) (oi := ⟨some 105, _, _, _, _, _⟩) (v := undef) rfl (by kernel_rfl) (by kernel_rfl) (by kernel_rfl) (fun _ _ _ h => h) (Or.inr ⟨rfl, rfl⟩) (by assumption) ?_
          try simp only [Act.put, List.setIfInBounds_toArray, List.set_cons_zero, List.set_cons_succ]
          refine wpAnyH_take (i := 28) (oi := ⟨some 106, _, _, _, _, _⟩) (v := undef) rfl (by kernel_rfl) (by kernel_rfl) (by kernel_rfl) (fun _ _ _ h => h) (Or.inr ⟨rfl, rfl⟩) (by assumption) ?_
          try simp only [Act.put, List.setIfInBounds_toArray, List.set_cons_zero, List.set_cons_succ]
          refine wpAnyH_take (i := 29) (oi := ⟨some 107, _, _, _, _, _⟩) (v := undef) rfl (by kernel_rfl) (by kernel_rfl) (by kernel_rfl) (fun _ _ _ h => h) (Or.inr ⟨rfl, rfl⟩) (by assumption) ?_
          try simp only [Act.put, List.setIfInBounds_toArray, List.set_cons_zero, List.set_cons_succ]
          refine wpAnyH_take (i := 30) (oi := ⟨some 108, _, _, _, _, _⟩) (v := undef) rfl (by kernel_rfl) (by kernel_rfl) (by kernel_rfl) (fun _ _ _ h => h) (Or.inr ⟨rfl, rfl⟩) (by assumption) ?_
          try simp only [Act.put, List.setIfInBounds_toArray, List.set_cons_zero, List.set_cons_succ]
          refine wpAnyH_take (i := 31) (oi := ⟨some 109, _, _, _, _, _⟩) (v := undef) rfl (by kernel_rfl) (by kernel_rfl) (by kernel_rfl) (fun _ _ _ h => h) (Or.inr ⟨rfl, rfl⟩) (by assumption) ?_
          try simp only [Act.put, List.setIfInBounds_toArray, List.set_cons_zero, List.set_cons_succ]
          refine wpAnyH_take (i := 32) (oi := ⟨some 110, _, _, _, _, _⟩) (v := .bool false) rfl (by kernel_rfl) (by kernel_rfl) (by kernel_rfl) (fun _ _ _ h => h) (Or.inl ⟨rfl, by intro w hSw; (try dsimp only at hSw); go_simp⟩) (by assumption) ?_
          try simp only [Act.put, List.setIfInBounds_toArray, List.set_cons_zero, List.set_cons_succ]
          refine wpAnyH_take (i := 33) (oi := ⟨some 111, _, _, _, _, _⟩) (v := .bool false) rfl (by kernel_rfl) (by kernel_rfl) (by kernel_rfl) (fun _ _ _ h => h) (Or.inl ⟨rfl, by intro w hSw; (try dsimp only at hSw); go_simp⟩) (by assumption) ?_
          try simp only [Act.put, List.setIfInBounds_toArray, List.set_cons_zero, List.set_cons_succ]
          refine wpAnyH_done (by kernel_rfl) ?_ _
          go_wp2_with fail
          go_meet
          exact ⟨rfl, Lib.hid K.drew⟩
        case rest =>
          obtain ⟨rfl, HK⟩ := hcut
          clear K A8
          have K := HK.out
          clear g0 g1 g2 g3 g4 x0 x1 x2 x3 y0 y1 y2 y3 kz kz1 kz0
          go_wp2_with fail
          refine (pphase_any b c ⟨1, 0, 0, true, t, p, 0⟩ _ K.2.2.2.2.1).mono ?_
          rintro _ w6 ⟨rfl, rfl⟩
          obtain ⟨g0, g1, g2, g3, g4⟩ := K.cf
          obtain ⟨x0, x1, x2, x3⟩ := K.s1
          obtain ⟨y0, y1, y2, y3⟩ := K.s2
          have kz := K.2.2.2.1.lt
          have kz1 : w.heap.size + 1 < wc.heap.size := by omega
          have kz0 : w.heap.size < wc.heap.size := by omega
          obtain ⟨rk, rv, re, hR2⟩ : ∃ rk rv re, Pl.upR c ⟨1, 0, 0, true, t, p, 0⟩ t2 o2 p2 = ⟨rk, rv, re⟩ := ⟨_, _, _, rfl⟩
          obtain ⟨S2, hS2⟩ : ∃ S2, Pl.upS c ⟨1, 0, 0, true, t, p, 0⟩ t2 o2 p2 = S2 := ⟨_, rfl⟩
          have F2 := Pl.f_second (c := c) (P := 0) (t := t) (p := p) (t2 := t2) (o2 := o2) (p2 := p2)
          rw [hR2, hS2] at F2
          have U2 := Lib.hid (pupdate_at (c := c) (s := ⟨1, 0, 0, true, t, p, 0⟩) HE.out I1.out hR2 hS2)
          clear hR2 hS2
          go_wp2_with fail
          refine (U2.out b _ K.2.2.2.2.1).mono ?_
          rintro _ w7 ⟨rfl, l7⟩
          have K := (K.turn l7).alloc (.cells #[.int .i64 rk, .int .i64 rv] 38)
          clear g0 g1 g2 g3 g4 x0 x1 x2 x3 y0 y1 y2 y3 kz kz1 kz0
          clear l7
          obtain ⟨g0, g1, g2, g3, g4⟩ := K.cf
          obtain ⟨x0, x1, x2, x3⟩ := K.s1
          obtain ⟨y0, y1, y2, y3⟩ := K.s2
          have kz := K.2.2.2.1.lt
          have kb := K.2.2.2.2.1
          have kw2 : re = 0 → IntKind.i64.wrap (t2 - t) = t2 - t := fun q => IntWalk.i64_in _ (by have := F2.1 q; omega)
          by_cases r0 : re = 0
          · subst r0
            have kw := kw2 rfl
            by_cases late : c.so ≤ t2 - t
            · have hst := F2.2.1 rfl late
              have PS2 := Lib.hid (fun W k => pstate_any b c S2 W k)
              rw [hst] at PS2
              have tl : decide (c.so ≤ t2 - t) = true := by simp [late]
              clear F2 kw2 late
              go_wp2_with fail
              refine (PS2.out _ kb).mono ?_
              rintro _ w8 ⟨rfl, rfl⟩
              go_wp2_with fail
              refine (pawake_any _ (HC.out.on K.1)).mono ?_
              rintro _ w9 ⟨rfl, l9⟩
              have K := K.on l9
              go_wp2
              go_ret
              exact ⟨rfl, K.1⟩
            · obtain ⟨rfl, rfl, hs⟩ := F2.2.2 rfl (by omega)
              subst hs
              have tl : decide (c.so ≤ t2 - t) = false := by simp; omega
              clear F2 kw2 late
              go_wp2_with fail
              refine (pstate_any b c _ _ kb).mono ?_
              rintro _ w8 ⟨rfl, rfl⟩
              go_wp2_with fail
              refine (pphase_any b c _ _ kb).mono ?_
              rintro _ w8 ⟨rfl, rfl⟩
              go_wp2_with fail
              refine (pfreq_any b c _ _ kb).mono ?_
              rintro _ w8 ⟨rfl, rfl⟩
              go_wp2_with fail
              refine (pawake_any _ (HC.out.on K.1)).mono ?_
              rintro _ w9 ⟨rfl, l9⟩
              have K := K.on l9
              go_wp2
              go_ret
              exact ⟨rfl, K.1⟩
          · have tr : (re == 0) = false := by simp [r0]
            have tr' : (re != 0) = true := by simp [r0]
            clear F2 kw2 r0
            go_wp2_with fail
            all_goals (
              refine (pawake_any _ (HC.out.on K.1)).mono ?_
              rintro _ w9 ⟨rfl, l9⟩
              have K := K.on l9
              go_wp2
              go_ret
              exact ⟨rfl, K.1⟩)
    | false =>
      obtain ⟨hR, hS⟩ := Pl.f_small h0 hbg
      have I1 := Pl.linv_up (t := t) (o := o) (po := p) HE.out I0.out
      rw [hS] at I1
      have I1 := Lib.hid I1
      have U1 := Lib.hid (pupdate_at (c := c) (s := ⟨0, 0, 0, false, 0, 0, 0⟩) HE.out I0.out hR hS)
      have hbb := Pl.big_no.1 hbg
      skip
      clear h0 hat hR hS hbg 
      go_wp2_with fail
      refine (U1.out b _ K.2.2.2.2.1).mono ?_
      rintro _ w3 ⟨rfl, l3⟩
      have A8 := Blk.new w3 38 #[.int .i64 1, .int .i64 0]
      have K := (K.turn l3).alloc (.cells #[.int .i64 1, .int .i64 0] 38)
      clear g0 g1 g2 g3 g4 x0 x1 x2 x3 y0 y1 y2 y3 kz kz1 kz0
      clear l3
      obtain ⟨g0, g1, g2, g3, g4⟩ := K.cf
      obtain ⟨x0, x1, x2, x3⟩ := K.s1
      obtain ⟨y0, y1, y2, y3⟩ := K.s2
      have kz := K.2.2.2.1.lt
      have kz1 := kz
      have kz0 := kz
      go_upto_region 9 with fail
      go_cut [10] (fun v wx => v = .bool false ∧ wx = w3.alloc (.cells #[.int .i64 1, .int .i64 0] 38))
      case first =>
        have u1 : decide (c.sa ≤ o) = false := by simp; omega
        have u2 : decide (o ≤ -c.sa) = false := by simp; omega
        go_wp2_with fail
        go_meet
        exact ⟨rfl, rfl⟩
      case rest =>
        obtain ⟨rfl, rfl⟩ := hcut
        go_upto_region 10 with fail
        go_cut [111] (fun v wx => v = .bool false ∧ Hid (Fi w wx b c k t o p k2 t2 o2 p2 ⟨1, 0, o, true, t, p, 0⟩))
        case first =>
          have PS := Lib.hid (fun b W k => pstate_any b c ⟨1, 0, o, true, t, p, 0⟩ W k)
          have PP := Lib.hid (fun b W k => pphase_any b c ⟨1, 0, o, true, t, p, 0⟩ W k)
          have a0 := A8.cell 0
          have a1 := A8.cell 1
          have a2 := x2
          have kb := K.drew.2.2.2.2.1
          refine wp_region_held_drew (S := (fun w' => w'.cell? ⟨w3.heap.size, 0, none⟩ = some (.int .i64 1) ∧ w'.cell? ⟨w3.heap.size, 1, none⟩ = some (.int .i64 0) ∧ w'.cell? ⟨w.heap.size + 1, 2, none⟩ = some (.int .i64 o))) (by kernel_rfl) (by exact ⟨a0, a1, a2⟩) (fun hHeld => ?_)
          refine wpAnyH_take (i := 0) (oi := ⟨some 78, _, _, _, _, _⟩) (v := .pointer (some ⟨b, 0, none⟩)) rfl (by kernel_rfl) (by kernel_rfl) (by kernel_rfl) (fun _ _ _ h => h) (Or.inl ⟨rfl, by intro w hSw; (try dsimp only at hSw); go_simp⟩) (by assumption) ?_
          try simp only [Act.put, List.setIfInBounds_toArray, List.set_cons_zero, List.set_cons_succ]
          refine wpAnyH_ready (rs := [1]) (by kernel_rfl) (by simp) ?_
          refine AllReadyH.cons (o := ⟨some 79, _, _, _, _, _⟩) rfl (fun K hK => ?_) AllReadyH.nil
          go_simp
          (go_at_call 20; refine (PS.out b _ kb).mono ?_; rintro _ w8 ⟨rfl, rfl⟩)
          refine hK.out _ _ (⟨a0, a1, a2⟩) (fun hHeld => ?_)
          clear hK K
          try simp only [Act.put, List.setIfInBounds_toArray, List.set_cons_zero, List.set_cons_succ]
          refine wpAnyH_take (i := 2) (oi := ⟨some 80, _, _, _, _, _⟩) (v := .bool false) rfl (by kernel_rfl) (by kernel_rfl) (by kernel_rfl) (fun _ _ _ h => h) (Or.inl ⟨rfl, by intro w hSw; (try dsimp only at hSw); go_simp⟩) (by assumption) ?_
          try simp only [Act.put, List.setIfInBounds_toArray, List.set_cons_zero, List.set_cons_succ]
          refine wpAnyH_take (i := 3) (oi := ⟨some 81, _, _, _, _, _⟩) (v := .bool false) rfl (by kernel_rfl) (by kernel_rfl) (by kernel_rfl) (fun _ _ _ h => h) (Or.inl ⟨rfl, by intro w hSw; (try dsimp only at hSw); go_simp⟩) (by assumption) ?_
          try simp only [Act.put, List.setIfInBounds_toArray, List.set_cons_zero, List.set_cons_succ]
          refine wpAnyH_take (i := 4) (oi := ⟨some 82, _, _, _, _, _⟩) (v := .bool false) rfl (by kernel_rfl) (by kernel_rfl) (by kernel_rfl) (fun _ _ _ h => h) (Or.inl ⟨rfl, by intro w hSw; (try dsimp only at hSw); go_simp⟩) (by assumption) ?_
          try simp only [Act.put, List.setIfInBounds_toArray, List.set_cons_zero, List.set_cons_succ]
          refine wpAnyH_take (i := 5) (oi := ⟨some 83, _, _, _, _, _⟩) (v := .bool false) rfl (by kernel_rfl) (by kernel_rfl) (by kernel_rfl) (fun _ _ _ h => h) (Or.inl ⟨rfl, by intro w hSw; (try dsimp only at hSw); go_simp⟩) (by assumption) ?_
          try simp only [Act.put, List.setIfInBounds_toArray, List.set_cons_zero, List.set_cons_succ]
          refine wpAnyH_take (i := 6) (oi := ⟨some 84, _, _, _, _, _⟩) (v := undef) rfl (by kernel_rfl) (by kernel_rfl) (by kernel_rfl) (fun _ _ _ h => h) (Or.inr ⟨rfl, rfl⟩) (by assumption) ?_
          try simp only [Act.put, List.setIfInBounds_toArray, List.set_cons_zero, List.set_cons_succ]
          refine wpAnyH_take (i := 7) (oi := ⟨some 85, _, _, _, _, _⟩) (v := undef) rfl (by kernel_rfl) (by kernel_rfl) (by kernel_rfl) (fun _ _ _ h => h) (Or.inr ⟨rfl, rfl⟩) (by assumption) ?_
          try simp only [Act.put, List.setIfInBounds_toArray, List.set_cons_zero, List.set_cons_succ]
          refine wpAnyH_take (i := 8) (oi := ⟨some 86, _, _, _, _, _⟩) (v := undef) rfl (by kernel_rfl) (by kernel_rfl) (by kernel_rfl) (fun _ _ _ h => h) (Or.inr ⟨rfl, rfl⟩) (by assumption) ?_
          try simp only [Act.put, List.setIfInBounds_toArray, List.set_cons_zero, List.set_cons_succ]
          refine wpAnyH_take (i := 9) (oi := ⟨some 87, _, _, _, _, _⟩) (v := undef) rfl (by kernel_rfl) (by kernel_rfl) (by kernel_rfl) (fun _ _ _ h => h) (Or.inr ⟨rfl, rfl⟩) (by assumption) ?_
          try simp only [Act.put, List.setIfInBounds_toArray, List.set_cons_zero, List.set_cons_succ]
          refine wpAnyH_take (i := 10) (oi := ⟨some 88, _, _, _, _, _⟩) (v := undef) rfl (by kernel_rfl) (by kernel_rfl) (by kernel_rfl) (fun _ _ _ h => h) (Or.inr ⟨rfl, rfl⟩) (by assumption) ?_
          try simp only [Act.put, List.setIfInBounds_toArray, List.set_cons_zero, List.set_cons_succ]
          refine wpAnyH_take (i := 11) (oi := ⟨some 89, _, _, _, _, _⟩) (v := undef) rfl (by kernel_rfl) (by kernel_rfl) (by kernel_rfl) (fun _ _ _ h => h) (Or.inr ⟨rfl, rfl⟩) (by assumption) ?_
          try simp only [Act.put, List.setIfInBounds_toArray, List.set_cons_zero, List.set_cons_succ]
          refine wpAnyH_take (i := 12) (oi := ⟨some 90, _, _, _, _, _⟩) (v := undef) rfl (by kernel_rfl) (by kernel_rfl) (by kernel_rfl) (fun _ _ _ h => h) (Or.inr ⟨rfl, rfl⟩) (by assumption) ?_
          try simp only [Act.put, List.setIfInBounds_toArray, List.set_cons_zero, List.set_cons_succ]
          refine wpAnyH_take (i := 13) (oi := ⟨some 91, _, _, _, _, _⟩) (v := undef) rfl (by kernel_rfl) (by kernel_rfl) (by kernel_rfl) (fun _ _ _ h => h) (Or.inr ⟨rfl, rfl⟩) (by assumption) ?_
          try simp only [Act.put, List.setIfInBounds_toArray, List.set_cons_zero, List.set_cons_succ]
          refine wpAnyH_take (i := 14) (oi := ⟨some 92, _, _, _, _, _⟩) (v := undef) rfl (by kernel_rfl) (by kernel_rfl) (by kernel_rfl) (fun _ _ _ h => h) (Or.inr ⟨rfl, rfl⟩) (by assumption) ?_
          try simp only [Act.put, List.setIfInBounds_toArray, List.set_cons_zero, List.set_cons_succ]
          refine wpAnyH_take (i := 15) (oi := ⟨some 93, _, _, _, _, _⟩) (v := undef) rfl (by kernel_rfl) (by kernel_rfl) (by kernel_rfl) (fun _ _ _ h => h) (Or.inr ⟨rfl, rfl⟩) (by assumption) ?_
          try simp only [Act.put, List.setIfInBounds_toArray, List.set_cons_zero, List.set_cons_succ]
          refine wpAnyH_take (i := 16) (oi := ⟨some 94, _, _, _, _, _⟩) (v := .bool false) rfl (by kernel_rfl) (by kernel_rfl) (by kernel_rfl) (fun _ _ _ h => h) (Or.inl ⟨rfl, by intro w hSw; (try dsimp only at hSw); go_simp⟩) (by assumption) ?_
          try simp only [Act.put, List.setIfInBounds_toArray, List.set_cons_zero, List.set_cons_succ]
          refine wpAnyH_take (i := 17) (oi := ⟨some 95, _, _, _, _, _⟩) (v := .bool false) rfl (by kernel_rfl) (by kernel_rfl) (by kernel_rfl) (fun _ _ _ h => h) (Or.inl ⟨rfl, by intro w hSw; (try dsimp only at hSw); go_simp⟩) (by assumption) ?_
          try simp only [Act.put, List.setIfInBounds_toArray, List.set_cons_zero, List.set_cons_succ]
          refine wpAnyH_take (i := 18) (oi := ⟨some 96, _, _, _, _, _⟩) (v := .bool false) rfl (by kernel_rfl) (by kernel_rfl) (by kernel_rfl) (fun _ _ _ h => h) (Or.inl ⟨rfl, by intro w hSw; (try dsimp only at hSw); go_simp⟩) (by assumption) ?_
          try simp only [Act.put, List.setIfInBounds_toArray, List.set_cons_zero, List.set_cons_succ]
          refine wpAnyH_take (i := 19) (oi := ⟨some 97, _, _, _, _, _⟩) (v := .bool false) rfl (by kernel_rfl) (by kernel_rfl) (by kernel_rfl) (fun _ _ _ h => h) (Or.inl ⟨rfl, by intro w hSw; (try dsimp only at hSw); go_simp⟩) (by assumption) ?_
          try simp only [Act.put, List.setIfInBounds_toArray, List.set_cons_zero, List.set_cons_succ]
          refine wpAnyH_take (i := 20) (oi := ⟨some 98, _, _, _, _, _⟩) (v := .bool true) rfl (by kernel_rfl) (by kernel_rfl) (by kernel_rfl) (fun _ _ _ h => h) (Or.inl ⟨rfl, by intro w hSw; (try dsimp only at hSw); go_simp⟩) (by assumption) ?_
          try simp only [Act.put, List.setIfInBounds_toArray, List.set_cons_zero, List.set_cons_succ]
          refine wpAnyH_take (i := 21) (oi := ⟨some 99, _, _, _, _, _⟩) (v := .bool true) rfl (by kernel_rfl) (by kernel_rfl) (by kernel_rfl) (fun _ _ _ h => h) (Or.inl ⟨rfl, by intro w hSw; (try dsimp only at hSw); go_simp⟩) (by assumption) ?_
          try simp only [Act.put, List.setIfInBounds_toArray, List.set_cons_zero, List.set_cons_succ]
          refine wpAnyH_take (i := 22) (oi := ⟨some 100, _, _, _, _, _⟩) (v := .agg #[.int .i64 1, .int .i64 0]) rfl (by kernel_rfl) (by kernel_rfl) (by kernel_rfl) (fun _ _ _ h => h) (Or.inl ⟨rfl, by intro w hSw; (try dsimp only at hSw); go_simp⟩) (by assumption) ?_
          try simp only [Act.put, List.setIfInBounds_toArray, List.set_cons_zero, List.set_cons_succ]
          refine wpAnyH_take (i := 23) (oi := ⟨some 101, _, _, _, _, _⟩) (v := .agg #[.int .i64 1, .int .i64 0]) rfl (by kernel_rfl) (by kernel_rfl) (by kernel_rfl) (fun _ _ _ h => h) (Or.inl ⟨rfl, by intro w hSw; (try dsimp only at hSw); go_simp⟩) (by assumption) ?_
          try simp only [Act.put, List.setIfInBounds_toArray, List.set_cons_zero, List.set_cons_succ]
          refine wpAnyH_take (i := 24) (oi := ⟨some 102, _, _, _, _, _⟩) (v := .bool false) rfl (by kernel_rfl) (by kernel_rfl) (by kernel_rfl) (fun _ _ _ h => h) (Or.inl ⟨rfl, by intro w hSw; (try dsimp only at hSw); go_simp⟩) (by assumption) ?_
          try simp only [Act.put, List.setIfInBounds_toArray, List.set_cons_zero, List.set_cons_succ]
          refine wpAnyH_take (i := 25) (oi := ⟨some 103, _, _, _, _, _⟩) (v := .bool false) rfl (by kernel_rfl) (by kernel_rfl) (by kernel_rfl) (fun _ _ _ h => h) (Or.inl ⟨rfl, by intro w hSw; (try dsimp only at hSw); go_simp⟩) (by assumption) ?_
          try simp only [Act.put, List.setIfInBounds_toArray, List.set_cons_zero, List.set_cons_succ]
          refine wpAnyH_take (i := 26) (oi := ⟨some 104, _, _, _, _, _⟩) (v := .pointer (some ⟨b, 0, none⟩)) rfl (by kernel_rfl) (by kernel_rfl) (by kernel_rfl) (fun _ _ _ h => h) (Or.inl ⟨rfl, by intro w hSw; (try dsimp only at hSw); go_simp⟩) (by assumption) ?_
          try simp only [Act.put, List.setIfInBounds_toArray, List.set_cons_zero, List.set_cons_succ]
          refine wpAnyH_take (i := 28) (oi := ⟨some 106, _, _, _, _, _⟩) (v := .pointer (some ⟨w.heap.size + 1, 2, none⟩)) rfl (by kernel_rfl) (by kernel_rfl) (by kernel_rfl) (fun _ _ _ h => h) (Or.inl ⟨rfl, by intro w hSw; (try dsimp only at hSw); go_simp⟩) (by assumption) ?_
          try simp only [Act.put, List.setIfInBounds_toArray, List.set_cons_zero, List.set_cons_succ]
          refine wpAnyH_take (i := 29) (oi := ⟨some 107, _, _, _, _, _⟩) (v := .int .i64 o) rfl (by kernel_rfl) (by kernel_rfl) (by kernel_rfl) (fun _ _ _ h => h) (Or.inl ⟨rfl, by intro w hSw; (try dsimp only at hSw); go_simp⟩) (by assumption) ?_
          try simp only [Act.put, List.setIfInBounds_toArray, List.set_cons_zero, List.set_cons_succ]
          refine wpAnyH_ready (rs := [27]) (by kernel_rfl) (by simp) ?_
          refine AllReadyH.cons (o := ⟨some 105, _, _, _, _, _⟩) rfl (fun K hK => ?_) AllReadyH.nil
          go_simp
          (go_at_call 24; refine (PP.out b _ kb).mono ?_; rintro _ w8 ⟨rfl, rfl⟩)
          refine hK.out _ _ (⟨a0, a1, a2⟩) (fun hHeld => ?_)
          clear hK K
          try simp only [Act.put, List.setIfInBounds_toArray, List.set_cons_zero, List.set_cons_succ]
          refine wpAnyH_take (i := 30) (oi := ⟨some 108, _, _, _, _, _⟩) (v := .bool false) rfl (by kernel_rfl) (by kernel_rfl) (by kernel_rfl) (fun _ _ _ h => h) (Or.inl ⟨rfl, by intro w hSw; (try dsimp only at hSw); go_simp⟩) (by assumption) ?_
          try simp only [Act.put, List.setIfInBounds_toArray, List.set_cons_zero, List.set_cons_succ]
          refine wpAnyH_take (i := 31) (oi := ⟨some 109, _, _, _, _, _⟩) (v := .bool false) rfl (by kernel_rfl) (by kernel_rfl) (by kernel_rfl) (fun _ _ _ h => h) (Or.inl ⟨rfl, by intro w hSw; (try dsimp only at hSw); go_simp⟩) (by assumption) ?_
          try simp only [Act.put, List.setIfInBounds_toArray, List.set_cons_zero, List.set_cons_succ]
          refine wpAnyH_take (i := 32) (oi := ⟨some 110, _, _, _, _, _⟩) (v := .bool false) rfl (by kernel_rfl) (by kernel_rfl) (by kernel_rfl) (fun _ _ _ h => h) (Or.inl ⟨rfl, by intro w hSw; (try dsimp only at hSw); go_simp⟩) (by assumption) ?_
          try simp only [Act.put, List.setIfInBounds_toArray, List.set_cons_zero, List.set_cons_succ]
          refine wpAnyH_take (i := 33) (oi := ⟨some 111, _, _, _, _, _⟩) (v := .bool false) rfl (by kernel_rfl) (by kernel_rfl) (by kernel_rfl) (fun _ _ _ h => h) (Or.inl ⟨rfl, by intro w hSw; (try dsimp only at hSw); go_simp⟩) (by assumption) ?_
          try simp only [Act.put, List.setIfInBounds_toArray, List.set_cons_zero, List.set_cons_succ]
          refine wpAnyH_done (by kernel_rfl) ?_ _
          go_wp2_with fail
          go_meet
          exact ⟨rfl, Lib.hid K.drew⟩
        case rest =>
          obtain ⟨rfl, HK⟩ := hcut
          clear K A8
          have K := HK.out
          clear g0 g1 g2 g3 g4 x0 x1 x2 x3 y0 y1 y2 y3 kz kz1 kz0
          go_wp2_with fail
          refine (pphase_any b c ⟨1, 0, o, true, t, p, 0⟩ _ K.2.2.2.2.1).mono ?_
          rintro _ w6 ⟨rfl, rfl⟩
          obtain ⟨g0, g1, g2, g3, g4⟩ := K.cf
          obtain ⟨x0, x1, x2, x3⟩ := K.s1
          obtain ⟨y0, y1, y2, y3⟩ := K.s2
          have kz := K.2.2.2.1.lt
          have kz1 : w.heap.size + 1 < wc.heap.size := by omega
          have kz0 : w.heap.size < wc.heap.size := by omega
          obtain ⟨rk, rv, re, hR2⟩ : ∃ rk rv re, Pl.upR c ⟨1, 0, o, true, t, p, 0⟩ t2 o2 p2 = ⟨rk, rv, re⟩ := ⟨_, _, _, rfl⟩
          obtain ⟨S2, hS2⟩ : ∃ S2, Pl.upS c ⟨1, 0, o, true, t, p, 0⟩ t2 o2 p2 = S2 := ⟨_, rfl⟩
          have F2 := Pl.f_second (c := c) (P := o) (t := t) (p := p) (t2 := t2) (o2 := o2) (p2 := p2)
          rw [hR2, hS2] at F2
          have U2 := Lib.hid (pupdate_at (c := c) (s := ⟨1, 0, o, true, t, p, 0⟩) HE.out I1.out hR2 hS2)
          clear hR2 hS2
          go_wp2_with fail
          refine (U2.out b _ K.2.2.2.2.1).mono ?_
          rintro _ w7 ⟨rfl, l7⟩
          have K := (K.turn l7).alloc (.cells #[.int .i64 rk, .int .i64 rv] 38)
          clear g0 g1 g2 g3 g4 x0 x1 x2 x3 y0 y1 y2 y3 kz kz1 kz0
          clear l7
          obtain ⟨g0, g1, g2, g3, g4⟩ := K.cf
          obtain ⟨x0, x1, x2, x3⟩ := K.s1
          obtain ⟨y0, y1, y2, y3⟩ := K.s2
          have kz := K.2.2.2.1.lt
          have kb := K.2.2.2.2.1
          have kw2 : re = 0 → IntKind.i64.wrap (t2 - t) = t2 - t := fun q => IntWalk.i64_in _ (by have := F2.1 q; omega)
          by_cases r0 : re = 0
          · subst r0
            have kw := kw2 rfl
            by_cases late : c.so ≤ t2 - t
            · have hst := F2.2.1 rfl late
              have PS2 := Lib.hid (fun W k => pstate_any b c S2 W k)
              rw [hst] at PS2
              have tl : decide (c.so ≤ t2 - t) = true := by simp [late]
              clear F2 kw2 late
              go_wp2_with fail
              refine (PS2.out _ kb).mono ?_
              rintro _ w8 ⟨rfl, rfl⟩
              go_wp2_with fail
              refine (pawake_any _ (HC.out.on K.1)).mono ?_
              rintro _ w9 ⟨rfl, l9⟩
              have K := K.on l9
              go_wp2
              go_ret
              exact ⟨rfl, K.1⟩
            · obtain ⟨rfl, rfl, hs⟩ := F2.2.2 rfl (by omega)
              subst hs
              have tl : decide (c.so ≤ t2 - t) = false := by simp; omega
              clear F2 kw2 late
              go_wp2_with fail
              refine (pstate_any b c _ _ kb).mono ?_
              rintro _ w8 ⟨rfl, rfl⟩
              go_wp2_with fail
              refine (pphase_any b c _ _ kb).mono ?_
              rintro _ w8 ⟨rfl, rfl⟩
              go_wp2_with fail
              refine (pfreq_any b c _ _ kb).mono ?_
              rintro _ w8 ⟨rfl, rfl⟩
              go_wp2_with fail
              refine (pawake_any _ (HC.out.on K.1)).mono ?_
              rintro _ w9 ⟨rfl, l9⟩
              have K := K.on l9
              go_wp2
              go_ret
              exact ⟨rfl, K.1⟩
          · have tr : (re == 0) = false := by simp [r0]
            have tr' : (re != 0) = true := by simp [r0]
            clear F2 kw2 r0
            go_wp2_with fail
            all_goals (
              refine (pawake_any _ (HC.out.on K.1)).mono ?_
              rintro _ w9 ⟨rfl, l9⟩
              have K := K.on l9
              go_wp2
              go_ret
              exact ⟨rfl, K.1⟩)
  · obtain ⟨hR, hS⟩ := Pl.f_err h0
    have U1 := Lib.hid (pupdate_at (c := c) (s := ⟨0, 0, 0, false, 0, 0, 0⟩) HE.out I0.out hR hS)
    clear h0 hR hS
    go_wp2_with fail
    refine (U1.out b _ K.2.2.2.2.1).mono ?_
    rintro _ w3 ⟨rfl, l3⟩
    have K := (K.turn l3).alloc (.cells #[.int .i64 0, .int .i64 0] 38)
    clear g0 g1 g2 g3 g4 x0 x1 x2 x3 y0 y1 y2 y3 kz kz1 kz0
    clear l3
    go_wp2_with fail
    refine (pstate_any b c _ _ K.2.2.2.2.1).mono ?_
    rintro _ w8 ⟨rfl, rfl⟩
    go_wp2_with fail
    refine (pawake_any _ (HC.out.on K.1)).mono ?_
    rintro _ w9 ⟨rfl, l9⟩
    have K := K.on l9
    go_wp2
    go_ret
    exact ⟨rfl, K.1⟩

theorem pllFirst_walk (a b c d e k t o p k2 t2 o2 p2 : Int) (w : World) (hc : ConfAt w) (_h : ∀ n ∈ [a, b, c, d, e], (Lit.int .i64 n).wf = true) (_h1 : ∀ n ∈ [k, t, o, p], (Lit.int .i64 n).wf = true) (_h2 : ∀ n ∈ [k2, t2, o2, p2], (Lit.int .i64 n).wf = true) :
    Calls Tryd.prog 8 #[.agg ([a, b, c, d, e].map (Value.int .i64)).toArray, .agg ([k, t, o, p].map (Value.int .i64)).toArray, .agg ([k2, t2, o2, p2].map (Value.int .i64)).toArray] w fun e w' => e = .returned (.bool true) ∧ Below w.heap.size w w' := by
  by_cases h : (⟨a, b, c, d, e⟩ : Pl.LC).err = 0
  · exact pllFirst_yes ⟨a, b, c, d, e⟩ k t o p k2 t2 o2 p2 w hc h
  · exact pllFirst_no ⟨a, b, c, d, e⟩ k t o p k2 t2 o2 p2 w hc h
end Go.Proofs.YtdjfbghdnkjdoaaDoor

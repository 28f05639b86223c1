/- The contract of the reference's Response. -/
import Derived.Test.YtmdfbcabpmadgaaP2pR2
namespace Go.Proofs.Ytmdfbcabpmadgaa
namespace Pl
def YS.mid (y : YS) : YS := ⟨y.dom, false, y.seq, y.t1, true, y.rs, y.r1, y.r2, y.r4, y.cnt, y.f1, y.f2, y.l1, y.l2⟩
def YS.got (y : YS) (p : PM) : YS := ⟨y.dom, false, y.seq, y.t1, true, p, y.r1, y.r2, y.r4, y.cnt, y.f1, y.f2, y.l1, y.l2⟩
end Pl
open Go.RowKit Go.Lib Go.Maps
theorem yresp_fin {W : World} {b : Nat} {y : Pl.YS} {sv : Value} {p : Pl.PM} {t4 : Int} (h : Blk W b 74 (yA (y.got p) sv)) : Blk (((W.setCell ⟨b, 26, none⟩ (.int .i64 y.t1)).setCell ⟨b, 27, none⟩ (.int .i64 (Pl.insN p))).setCell ⟨b, 28, none⟩ (.int .i64 t4)) b 74 (yA (y.resp p t4) sv) := by
  have := ((h.set_ 26 (.int .i64 y.t1)).set_ 27 (.int .i64 (Pl.insN p))).set_ 28 (.int .i64 t4)
  refine (congrArg (Blk _ b 74) ?_).mp this
  kernel_rfl
theorem yown3 {w W : World} {b : Nat} (h : w.grownBy W (some b)) (i j k : Nat) (v5 v6 v7 : Value) :
    w.grownBy (((W.setCell ⟨b, i, none⟩ v5).setCell ⟨b, j, none⟩ v6).setCell ⟨b, k, none⟩ v7) (some b) :=
  only_setCell (only_setCell (only_setCell h (p := ⟨b, i, none⟩) (.inl rfl) _) (p := ⟨b, j, none⟩) (.inl rfl) _) (p := ⟨b, k, none⟩) (.inl rfl) _
set_option maxHeartbeats 4000000 in
set_option maxRecDepth 100000 in
theorem yresp_any (b : Nat) (y : Pl.YS) (sv : Value) (p : Pl.PM) (t4 ck po : Int) (w : World) (hy : Blk w b 74 (yA y sv)) : Calls Try.prog 19 #[.pointer (some ⟨b, 0, none⟩), pmV p, .int .i64 t4, .int .u64 ck, .int .i64 po] w fun e w' => e = .returned (.int .i64 (Pl.respEY y p t4 ck po)) ∧ Blk w' b 74 (yA (Pl.respY y p t4 ck po) sv) ∧ w.grownBy w' (some b) := by
  have CM := rsuits_any b y sv p 3 (w.alloc (.cells (pmA p) 38)) (hy.alloc _)
  have IN := fun W => rinstant_any p W
  have RD := fun W => rinside_any t4 W
  have K0 := one_mk w 38 (pmA p)
  have K0b := K0.2
  have Y0 := Lib.hid (hy.alloc (.cells (pmA p) 38))
  have hbz := hy.lt
  unfold Pl.respY
  by_cases hc : Pl.comE p 3 y.dom = 0
  · rw [hc] at CM
    replace CM : Hid (∀ W, W = w.alloc (.cells (pmA p) 38) → Calls Try.prog 34 #[.pointer (some ⟨b, 0, none⟩), pmV p, .int .i64 3] W fun e w' => e = .returned (.int .i64 0) ∧ Below W.heap.size W w') := Lib.hid (by rintro _ rfl; exact CM)
    by_cases hm : Pl.mineRY y p ck po = true
    · have hm' := hm
      unfold Pl.mineRY at hm'
      simp only [Bool.and_eq_true, beq_iff_eq] at hm'
      obtain ⟨⟨⟨m1, m2⟩, m3⟩, m4⟩ := hm'
      have u1 : (!y.pend) = false := by simp [m1]
      have u2 : (p.sq != y.seq) = false := by simp [m2]
      have u3 : (p.rc != ck) = false := by simp [m3]
      have u4 : (p.rp != po) = false := by simp [m4]
      cases hi : Pl.insB p with
      | false =>
        have e : Pl.respEY y p t4 ck po = 3 := by unfold Pl.respEY; rw [if_pos hc, if_pos hm, if_neg (by simp [hi])]
        rw [e, if_neg (by decide)]
        rw [hi] at IN
        obtain ⟨V, hV⟩ : ∃ V, Pl.tmN p.se p.na - 3900000000000000000 = V := ⟨_, rfl⟩
        rw [hV] at IN
        replace IN := Lib.hid IN
        clear e hy RD hi hm hc m1 m2 m3 m4 hV
        go_enter Try.func19, Try.ntmps19
        go_wp2_with (refine wpList_load_blk rfl 38 _ rfl w.heap.size rfl 38 (pmA p) _ K0b Try.underlying38 rfl (by kernel_rfl) ?_)
        refine (CM.out _ rfl).mono ?_
        rintro _ w1 ⟨rfl, l1⟩
        have K1 := K0.on l1
        have Y1 := Y0.out.below_ l1
        clear l1 K0 K0b Y0
        have hbz1 : b < w1.heap.size := Y1.lt
        have p6 : w1.cell? ⟨w.heap.size, 6, none⟩ = some (.int .i64 p.sq) := K1.2.cell 6
        have p8 : w1.cell? ⟨w.heap.size, 8, none⟩ = some (.int .i64 p.se) := K1.2.cell 8
        have p9 : w1.cell? ⟨w.heap.size, 9, none⟩ = some (.int .i64 p.na) := K1.2.cell 9
        have p10 : w1.cell? ⟨w.heap.size, 10, none⟩ = some (.int .u64 p.rc) := K1.2.cell 10
        have p11 : w1.cell? ⟨w.heap.size, 11, none⟩ = some (.int .i64 p.rp) := K1.2.cell 11
        have pz := K1.2.lt
        have y1 : w1.cell? ⟨b, 1, none⟩ = some (.bool y.pend) := Y1.cell 1
        have y2 : w1.cell? ⟨b, 2, none⟩ = some (.int .i64 y.seq) := Y1.cell 2
        have y3 : w1.cell? ⟨b, 3, none⟩ = some (.int .i64 y.t1) := Y1.cell 3
        have yz := Y1.lt
        replace K1 := Lib.hid K1
        replace Y1 := Lib.hid Y1
        go_wp2_with fail
        go_quiet (fail)
        have K2 : One w (w1.drewN nq) 38 (pmA p) := ⟨below_drewN K1.out.1 _, K1.out.2.drewN _⟩
        have Y2 : Blk (w1.drewN nq) b 74 (yA y sv) := Y1.out.drewN _
        clear p6 p8 p9 p10 p11 pz y1 y2 y3 yz K1 Y1
        generalize (w1.drewN nq) = w2 at K2 Y2 ⊢
        have p8 : w2.cell? ⟨w.heap.size, 8, none⟩ = some (.int .i64 p.se) := K2.2.cell 8
        have p9 : w2.cell? ⟨w.heap.size, 9, none⟩ = some (.int .i64 p.na) := K2.2.cell 9
        have pz := K2.2.lt
        have K2h := Lib.hid K2
        have Y2h := Lib.hid Y2
        clear K2 Y2
        go_wp2_with fail
        refine (IN.out _).mono ?_
        rintro _ w3 ⟨rfl, l3⟩
        have K3 := K2h.out.on l3
        have Y3 := Y2h.out.below_ l3
        clear l3 K2h Y2h p8 p9 pz
        go_wp2
        go_ret
        exact ⟨rfl, Y3, only_of_below K3.1 _⟩
      | true =>
        rw [hi, ins_val hi] at IN
        replace IN := Lib.hid IN
        cases hr : Pl.rdg t4 with
        | false =>
          have e : Pl.respEY y p t4 ck po = 3 := by unfold Pl.respEY; rw [if_pos hc, if_pos hm, if_neg (by simp [hr])]
          rw [e, if_neg (by decide)]
          rw [hr] at RD
          replace RD := Lib.hid RD
          clear e hy hr hi hm hc m1 m2 m3 m4
          go_enter Try.func19, Try.ntmps19
          go_wp2_with (refine wpList_load_blk rfl 38 _ rfl w.heap.size rfl 38 (pmA p) _ K0b Try.underlying38 rfl (by kernel_rfl) ?_)
          refine (CM.out _ rfl).mono ?_
          rintro _ w1 ⟨rfl, l1⟩
          have K1 := K0.on l1
          have Y1 := Y0.out.below_ l1
          clear l1 K0 K0b Y0
          have hbz1 : b < w1.heap.size := Y1.lt
          have p6 : w1.cell? ⟨w.heap.size, 6, none⟩ = some (.int .i64 p.sq) := K1.2.cell 6
          have p8 : w1.cell? ⟨w.heap.size, 8, none⟩ = some (.int .i64 p.se) := K1.2.cell 8
          have p9 : w1.cell? ⟨w.heap.size, 9, none⟩ = some (.int .i64 p.na) := K1.2.cell 9
          have p10 : w1.cell? ⟨w.heap.size, 10, none⟩ = some (.int .u64 p.rc) := K1.2.cell 10
          have p11 : w1.cell? ⟨w.heap.size, 11, none⟩ = some (.int .i64 p.rp) := K1.2.cell 11
          have pz := K1.2.lt
          have y1 : w1.cell? ⟨b, 1, none⟩ = some (.bool y.pend) := Y1.cell 1
          have y2 : w1.cell? ⟨b, 2, none⟩ = some (.int .i64 y.seq) := Y1.cell 2
          have y3 : w1.cell? ⟨b, 3, none⟩ = some (.int .i64 y.t1) := Y1.cell 3
          have yz := Y1.lt
          replace K1 := Lib.hid K1
          replace Y1 := Lib.hid Y1
          go_wp2_with fail
          go_quiet (fail)
          have K2 : One w (w1.drewN nq) 38 (pmA p) := ⟨below_drewN K1.out.1 _, K1.out.2.drewN _⟩
          have Y2 : Blk (w1.drewN nq) b 74 (yA y sv) := Y1.out.drewN _
          clear p6 p8 p9 p10 p11 pz y1 y2 y3 yz K1 Y1
          generalize (w1.drewN nq) = w2 at K2 Y2 ⊢
          have p8 : w2.cell? ⟨w.heap.size, 8, none⟩ = some (.int .i64 p.se) := K2.2.cell 8
          have p9 : w2.cell? ⟨w.heap.size, 9, none⟩ = some (.int .i64 p.na) := K2.2.cell 9
          have pz := K2.2.lt
          have K2h := Lib.hid K2
          have Y2h := Lib.hid Y2
          clear K2 Y2
          go_wp2_with fail
          refine (IN.out _).mono ?_
          rintro _ w3 ⟨rfl, l3⟩
          have K3 := K2h.out.on l3
          have Y3 := Y2h.out.below_ l3
          clear l3 K2h Y2h p8 p9 pz
          go_wp2_with fail
          refine (RD.out _).mono ?_
          rintro _ w4 ⟨rfl, rfl⟩
          go_wp2
          go_ret
          exact ⟨rfl, Y3, only_of_below K3.1 _⟩
        | true =>
          have e : Pl.respEY y p t4 ck po = 0 := by unfold Pl.respEY; rw [if_pos hc, if_pos hm, if_pos (by simp [hi, hr])]
          rw [e, if_pos rfl]
          rw [hr] at RD
          replace RD := Lib.hid RD
          clear e hy hr hi hm hc m1 m2 m3 m4
          go_enter Try.func19, Try.ntmps19
          go_wp2_with (refine wpList_load_blk rfl 38 _ rfl w.heap.size rfl 38 (pmA p) _ K0b Try.underlying38 rfl (by kernel_rfl) ?_)
          refine (CM.out _ rfl).mono ?_
          rintro _ w1 ⟨rfl, l1⟩
          have K1 := K0.on l1
          have Y1 := Y0.out.below_ l1
          clear l1 K0 K0b Y0
          have hbz1 : b < w1.heap.size := Y1.lt
          have p6 : w1.cell? ⟨w.heap.size, 6, none⟩ = some (.int .i64 p.sq) := K1.2.cell 6
          have p8 : w1.cell? ⟨w.heap.size, 8, none⟩ = some (.int .i64 p.se) := K1.2.cell 8
          have p9 : w1.cell? ⟨w.heap.size, 9, none⟩ = some (.int .i64 p.na) := K1.2.cell 9
          have p10 : w1.cell? ⟨w.heap.size, 10, none⟩ = some (.int .u64 p.rc) := K1.2.cell 10
          have p11 : w1.cell? ⟨w.heap.size, 11, none⟩ = some (.int .i64 p.rp) := K1.2.cell 11
          have pz := K1.2.lt
          have y1 : w1.cell? ⟨b, 1, none⟩ = some (.bool y.pend) := Y1.cell 1
          have y2 : w1.cell? ⟨b, 2, none⟩ = some (.int .i64 y.seq) := Y1.cell 2
          have y3 : w1.cell? ⟨b, 3, none⟩ = some (.int .i64 y.t1) := Y1.cell 3
          have yz := Y1.lt
          replace K1 := Lib.hid K1
          replace Y1 := Lib.hid Y1
          go_wp2_with fail
          go_quiet (fail)
          have K2 : One w (w1.drewN nq) 38 (pmA p) := ⟨below_drewN K1.out.1 _, K1.out.2.drewN _⟩
          have Y2 : Blk (w1.drewN nq) b 74 (yA y sv) := Y1.out.drewN _
          clear p6 p8 p9 p10 p11 pz y1 y2 y3 yz K1 Y1
          generalize (w1.drewN nq) = w2 at K2 Y2 ⊢
          have p8 : w2.cell? ⟨w.heap.size, 8, none⟩ = some (.int .i64 p.se) := K2.2.cell 8
          have p9 : w2.cell? ⟨w.heap.size, 9, none⟩ = some (.int .i64 p.na) := K2.2.cell 9
          have pz := K2.2.lt
          have K2h := Lib.hid K2
          have Y2h := Lib.hid Y2
          clear K2 Y2
          go_wp2_with fail
          refine (IN.out _).mono ?_
          rintro _ w3 ⟨rfl, l3⟩
          have K3 := K2h.out.on l3
          have Y3 := Y2h.out.below_ l3
          clear l3 K2h Y2h p8 p9 pz
          have y1 : w3.cell? ⟨b, 1, none⟩ = some (.bool y.pend) := Y3.cell 1
          have y3 : w3.cell? ⟨b, 3, none⟩ = some (.int .i64 y.t1) := Y3.cell 3
          have y4 : w3.cell? ⟨b, 4, none⟩ = some (.bool y.wt) := Y3.cell 4
          have g1 := Y3.frozen 1
          have g4 := Y3.frozen 4
          have yz := Y3.lt
          have hne : w.heap.size ≠ b := by omega
          have KF := (K3.2.far (p := ⟨b, 1, none⟩) hne (.bool false)).far (p := ⟨b, 4, none⟩) hne (.bool true)
          have YF : Blk ((w3.setCell ⟨b, 1, none⟩ (.bool false)).setCell ⟨b, 4, none⟩ (.bool true)) b 74 (yA y.mid sv) := (Y3.set_ 1 (.bool false)).set_ 4 (.bool true)
          have GF : Hid (w.grownBy ((w3.setCell ⟨b, 1, none⟩ (.bool false)).setCell ⟨b, 4, none⟩ (.bool true)) (some b)) := Lib.hid (only_setCell (only_setCell (only_of_below K3.1 (some b)) (p := ⟨b, 1, none⟩) (.inl rfl) _) (p := ⟨b, 4, none⟩) (.inl rfl) _)
          replace KF := Lib.hid KF
          replace YF := Lib.hid YF
          clear K3 Y3
          go_wp2_with fail
          refine (RD.out _).mono ?_
          rintro _ w4 ⟨rfl, rfl⟩
          go_wp2_with (first | (refine wpList_load_blk rfl 38 _ rfl w.heap.size rfl 38 (pmA p) _ KF.out Try.underlying38 rfl (by kernel_rfl) ?_) | (refine wpList_store_in rfl 38 _ _ rfl b 5 (pmA p) rfl rfl 74 (yA y.mid sv) (yA (y.got p) sv) YF.out (by show 5 + 21 ≤ 35; omega) (by kernel_rfl) (by kernel_rfl) (by kernel_rfl) ?_; intro W HW HG; have GW := Lib.hid (only_trans GF.out HG); clear HG; have z3 : W.cell? ⟨b, 3, none⟩ = some (.int .i64 y.t1) := HW.cell 3; have z26 : W.cell? ⟨b, 26, none⟩ = some (.int .i64 y.r1) := HW.cell 26; have z27 : W.cell? ⟨b, 27, none⟩ = some (.int .i64 y.r2) := HW.cell 27; have z28 : W.cell? ⟨b, 28, none⟩ = some (.int .i64 y.r4) := HW.cell 28; have e26 := HW.frozen 26; have e27 := HW.frozen 27; have e28 := HW.frozen 28; have ez := HW.lt; replace HW := Lib.hid HW))
          go_ret
          exact ⟨rfl, yresp_fin HW.out, yown3 GW.out _ _ _ _ _ _⟩
    · have e : Pl.respEY y p t4 ck po = 11 := by unfold Pl.respEY; rw [if_pos hc, if_neg hm]
      rw [e, if_neg (by decide)]
      replace IN := Lib.hid IN
      have hcas : (!y.pend) = true ∨ ((!y.pend) = false ∧ (p.sq != y.seq) = true) ∨ ((!y.pend) = false ∧ (p.sq != y.seq) = false ∧ (p.rc != ck) = true) ∨ ((!y.pend) = false ∧ (p.sq != y.seq) = false ∧ (p.rc != ck) = false ∧ (p.rp != po) = true) := by
        unfold Pl.mineRY at hm
        cases a1 : y.pend <;> simp [a1] at hm ⊢
        by_cases a2 : p.sq = y.seq <;> simp [a2] at hm ⊢
        by_cases a3 : p.rc = ck <;> simp [a3] at hm ⊢
        exact hm
      clear e hy RD hm hc
      rcases hcas with u1 | ⟨u1, u2⟩ | ⟨u1, u2, u3⟩ | ⟨u1, u2, u3, u4⟩
      all_goals (
        go_enter Try.func19, Try.ntmps19
        go_wp2_with (refine wpList_load_blk rfl 38 _ rfl w.heap.size rfl 38 (pmA p) _ K0b Try.underlying38 rfl (by kernel_rfl) ?_)
        refine (CM.out _ rfl).mono ?_
        rintro _ w1 ⟨rfl, l1⟩
        have K1 := K0.on l1
        have Y1 := Y0.out.below_ l1
        clear l1 K0 K0b Y0
        have hbz1 : b < w1.heap.size := Y1.lt
        have p6 : w1.cell? ⟨w.heap.size, 6, none⟩ = some (.int .i64 p.sq) := K1.2.cell 6
        have p8 : w1.cell? ⟨w.heap.size, 8, none⟩ = some (.int .i64 p.se) := K1.2.cell 8
        have p9 : w1.cell? ⟨w.heap.size, 9, none⟩ = some (.int .i64 p.na) := K1.2.cell 9
        have p10 : w1.cell? ⟨w.heap.size, 10, none⟩ = some (.int .u64 p.rc) := K1.2.cell 10
        have p11 : w1.cell? ⟨w.heap.size, 11, none⟩ = some (.int .i64 p.rp) := K1.2.cell 11
        have pz := K1.2.lt
        have y1 : w1.cell? ⟨b, 1, none⟩ = some (.bool y.pend) := Y1.cell 1
        have y2 : w1.cell? ⟨b, 2, none⟩ = some (.int .i64 y.seq) := Y1.cell 2
        have y3 : w1.cell? ⟨b, 3, none⟩ = some (.int .i64 y.t1) := Y1.cell 3
        have yz := Y1.lt
        replace K1 := Lib.hid K1
        replace Y1 := Lib.hid Y1
        go_wp2_with fail
        go_quiet (fail)
        go_wp2
        go_ret
        exact ⟨rfl, Y1.out.drewN _, only_of_below (below_drewN K1.out.1 _) _⟩)
  · have e : Pl.respEY y p t4 ck po = Pl.comE p 3 y.dom := by unfold Pl.respEY; rw [if_neg hc]
    rw [e, if_neg hc]
    obtain ⟨C, hC⟩ : ∃ C, Pl.comE p 3 y.dom = C := ⟨_, rfl⟩
    rw [hC] at CM hc ⊢
    have t0 : (C != 0) = true := by simp [hc]
    replace CM : Hid (∀ W, W = w.alloc (.cells (pmA p) 38) → Calls Try.prog 34 #[.pointer (some ⟨b, 0, none⟩), pmV p, .int .i64 3] W fun e w' => e = .returned (.int .i64 C) ∧ Below W.heap.size W w') := Lib.hid (by rintro _ rfl; exact CM)
    clear hc hC hy e IN RD
    go_enter Try.func19, Try.ntmps19
    go_wp2_with (refine wpList_load_blk rfl 38 _ rfl w.heap.size rfl 38 (pmA p) _ K0b Try.underlying38 rfl (by kernel_rfl) ?_)
    refine (CM.out _ rfl).mono ?_
    rintro _ w1 ⟨rfl, l1⟩
    have K1 := K0.on l1
    have Y1 := Y0.out.below_ l1
    clear l1 K0 K0b Y0
    go_wp2
    go_ret
    exact ⟨rfl, Y1, only_of_below K1.1 _⟩
end Go.Proofs.Ytmdfbcabpmadgaa

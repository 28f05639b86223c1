/- The contract of Response. -/
import Derived.Test.YtmdfbcabpmadgaaP2p2
namespace Go.Proofs.Ytmdfbcabpmadgaa
open Go.RowKit Go.Lib Go.Maps
theorem resp_set {w : World} {b : Nat} {x : Pl.XS} (hx : Blk w b 65 (xA x)) (p : Pl.PM) (t4 : Int) (h1 : x.pend = false) (h2 : x.wt = true) :
    Blk (((((((w.setCell ⟨b, 5, none⟩ (.int .u64 p.ck)).setCell ⟨b, 6, none⟩ (.int .i64 p.po)).setCell ⟨b, 7, none⟩ (.int .i64 p.sq)).setCell ⟨b, 8, none⟩ (.int .i64 p.co)).setCell ⟨b, 9, none⟩ (.int .i64 x.t1)).setCell ⟨b, 10, none⟩ (.int .i64 (Pl.insN p))).setCell ⟨b, 11, none⟩ (.int .i64 t4)) b 65 (xA (x.resp p t4)) := by
  have := ((((((hx.set_ 5 (.int .u64 p.ck)).set_ 6 (.int .i64 p.po)).set_ 7 (.int .i64 p.sq)).set_ 8 (.int .i64 p.co)).set_ 9 (.int .i64 x.t1)).set_ 10 (.int .i64 (Pl.insN p))).set_ 11 (.int .i64 t4)
  rcases x with ⟨x1, x2, x3, x4, x5, x6, x7, x8, x9, x10, x11, x12, x13, x14, x15, x16, x17, x18⟩
  subst h1 h2
  refine (congrArg (Blk _ b 65) ?_).mp this
  kernel_rfl
theorem resp_far {w : World} {b g : Nat} {t : TypeId} {cs : Array Value} (h : Blk w g t cs) (hn : g ≠ b) (v5 v6 v7 v8 v9 v10 v11 : Value) :
    Blk (((((((w.setCell ⟨b, 5, none⟩ v5).setCell ⟨b, 6, none⟩ v6).setCell ⟨b, 7, none⟩ v7).setCell ⟨b, 8, none⟩ v8).setCell ⟨b, 9, none⟩ v9).setCell ⟨b, 10, none⟩ v10).setCell ⟨b, 11, none⟩ v11).drew g t cs :=
  (((((((h.far (p := ⟨b, 5, none⟩) hn _).far (p := ⟨b, 6, none⟩) hn _).far (p := ⟨b, 7, none⟩) hn _).far (p := ⟨b, 8, none⟩) hn _).far (p := ⟨b, 9, none⟩) hn _).far (p := ⟨b, 10, none⟩) hn _).far (p := ⟨b, 11, none⟩) hn _).drew
theorem resp_own {w W : World} {b : Nat} (h : w.grownBy W (some b)) (v5 v6 v7 v8 v9 v10 v11 : Value) :
    w.grownBy (((((((W.setCell ⟨b, 5, none⟩ v5).setCell ⟨b, 6, none⟩ v6).setCell ⟨b, 7, none⟩ v7).setCell ⟨b, 8, none⟩ v8).setCell ⟨b, 9, none⟩ v9).setCell ⟨b, 10, none⟩ v10).setCell ⟨b, 11, none⟩ v11) (some b) :=
  only_setCell (only_setCell (only_setCell (only_setCell (only_setCell (only_setCell (only_setCell h (p := ⟨b, 5, none⟩) (.inl rfl) _) (p := ⟨b, 6, none⟩) (.inl rfl) _) (p := ⟨b, 7, none⟩) (.inl rfl) _) (p := ⟨b, 8, none⟩) (.inl rfl) _) (p := ⟨b, 9, none⟩) (.inl rfl) _) (p := ⟨b, 10, none⟩) (.inl rfl) _) (p := ⟨b, 11, none⟩) (.inl rfl) _
def Pl.XS.mid (x : Pl.XS) : Pl.XS := ⟨x.dom, false, x.seq, x.t1, true, x.ac, x.ap, x.asq, x.aco, x.a1, x.a2, x.a4, x.cnt, x.dl, x.f1, x.f2, x.l1, x.l2⟩
theorem resp_mid {w W : World} {b : Nat} {x : Pl.XS} {cs : Array Value} {t : TypeId} {n : Nat} (hx : Blk W b 65 (xA x)) (hp : One w W t cs) (hb : b < w.heap.size) :
    (Blk (((W.drewN n).setCell ⟨b, 1, none⟩ (.bool false)).setCell ⟨b, 4, none⟩ (.bool true)) b 65 (xA x.mid)) ∧ Blk (((W.drewN n).setCell ⟨b, 1, none⟩ (.bool false)).setCell ⟨b, 4, none⟩ (.bool true)) w.heap.size t cs ∧ w.grownBy (((W.drewN n).setCell ⟨b, 1, none⟩ (.bool false)).setCell ⟨b, 4, none⟩ (.bool true)) (some b) :=
  ⟨(((hx.drewN n).set_ 1 (.bool false)).set_ 4 (.bool true)), ((hp.2.drewN n).far (p := ⟨b, 1, none⟩) (by show w.heap.size ≠ b; omega) _).far (p := ⟨b, 4, none⟩) (by show w.heap.size ≠ b; omega) _, only_setCell (only_setCell (only_drewN (only_of_below hp.1 (some b)) n) (p := ⟨b, 1, none⟩) (.inl rfl) _) (p := ⟨b, 4, none⟩) (.inl rfl) _⟩

set_option maxHeartbeats 4000000 in
set_option maxRecDepth 100000 in
theorem presp_any (b : Nat) (x : Pl.XS) (p : Pl.PM) (t4 ck po : Int) (w : World) (hx : Blk w b 65 (xA x)) (hw : (Lit.int .i64 p.k).wf = true) : Calls Try.prog 12 #[.pointer (some ⟨b, 0, none⟩), pmV p, .int .i64 t4, .int .u64 ck, .int .i64 po] w fun e w' => e = .returned (.int .i64 (Pl.respE x p t4 ck po)) ∧ Blk w' b 65 (xA (Pl.respX x p t4 ck po)) ∧ w.grownBy w' (some b) := by
  have CM := common_any b x p 3 (w.alloc (.cells (pmA p) 38)) (hx.alloc _) hw
  have IN := fun W => instant_any p W
  have RD := fun W => reading_any t4 W
  have K0 := one_mk w 38 (pmA p)
  have K0b := K0.2
  have X0 := Lib.hid (hx.alloc (.cells (pmA p) 38))
  have hbz := hx.lt
  unfold Pl.respX
  by_cases hc : Pl.comE p 3 x.dom = 0
  · rw [hc] at CM
    replace CM : Hid (∀ W, W = w.alloc (.cells (pmA p) 38) → Calls Try.prog 27 #[.pointer (some ⟨b, 0, none⟩), pmV p, .int .i64 3] W fun e w' => e = .returned (.int .i64 0) ∧ Below W.heap.size W w') := Lib.hid (by rintro _ rfl; exact CM)
    by_cases hm : Pl.mineR x p ck po = true
    · have hm' := hm
      unfold Pl.mineR at hm'
      simp only [Bool.and_eq_true, beq_iff_eq] at hm'
      obtain ⟨⟨⟨m1, m2⟩, m3⟩, m4⟩ := hm'
      have u1 : (!x.pend) = false := by simp [m1]
      have u2 : (p.sq != x.seq) = false := by simp [m2]
      have u3 : (p.rc != ck) = false := by simp [m3]
      have u4 : (p.rp != po) = false := by simp [m4]
      cases hi : Pl.insB p with
      | false =>
        have e : Pl.respE x p t4 ck po = 3 := by unfold Pl.respE; rw [if_pos hc, if_pos hm, if_neg (by simp [hi])]
        rw [e, if_neg (by decide)]
        rw [hi] at IN
        replace IN := Lib.hid IN
        clear e hx RD hi hm hc hw m2 m3 m4
        go_enter Try.func12, Try.ntmps12
        go_wp2_with (refine wpList_load_blk rfl 38 _ rfl w.heap.size rfl 38 (pmA p) _ K0b Try.underlying38 rfl (by kernel_rfl) ?_)
        refine (CM.out _ rfl).mono ?_
        rintro _ w1 ⟨rfl, l1⟩
        have K1 := K0.on l1
        have K1b := K1.2
        have X1 := Lib.hid (X0.out.below_ l1)
        clear l1 K0 K0b X0
        go_wp2_with (refine wpList_load_blk rfl 38 _ rfl w.heap.size rfl 38 (pmA p) _ K1b Try.underlying38 rfl (by kernel_rfl) ?_)
        refine (IN.out _).mono ?_
        rintro _ w2 ⟨rfl, l2⟩
        have K2 := K1.on l2
        have X2 := X1.out.below_ l2
        have p3 : w2.cell? ⟨w.heap.size, 3, none⟩ = some (.int .i64 p.co) := K2.2.cell 3
        have p4 : w2.cell? ⟨w.heap.size, 4, none⟩ = some (.int .u64 p.ck) := K2.2.cell 4
        have p5 : w2.cell? ⟨w.heap.size, 5, none⟩ = some (.int .i64 p.po) := K2.2.cell 5
        have p6 : w2.cell? ⟨w.heap.size, 6, none⟩ = some (.int .i64 p.sq) := K2.2.cell 6
        have p10 : w2.cell? ⟨w.heap.size, 10, none⟩ = some (.int .u64 p.rc) := K2.2.cell 10
        have p11 : w2.cell? ⟨w.heap.size, 11, none⟩ = some (.int .i64 p.rp) := K2.2.cell 11
        have pz := K2.2.lt
        have x1 : w2.cell? ⟨b, 1, none⟩ = some (.bool x.pend) := X2.cell 1
        have x2 : w2.cell? ⟨b, 2, none⟩ = some (.int .i64 x.seq) := X2.cell 2
        have xz := X2.lt
        clear l2 K1 K1b X1
        replace K2 := Lib.hid K2
        replace X2 := Lib.hid X2
        go_wp2_with fail
        go_quiet (fail)
        go_wp2
        go_ret
        exact ⟨rfl, X2.out, only_of_below (below_drewN K2.out.1 _) _⟩
      | true =>
        rw [hi] at IN
        replace IN := Lib.hid IN
        cases hr : Pl.rdg t4 with
        | false =>
          have e : Pl.respE x p t4 ck po = 3 := by unfold Pl.respE; rw [if_pos hc, if_pos hm, if_neg (by simp [hr])]
          rw [e, if_neg (by decide)]
          rw [hr] at RD
          replace RD := Lib.hid RD
          clear e hx hr hi hm hc hw m2 m3 m4
          go_enter Try.func12, Try.ntmps12
          go_wp2_with (refine wpList_load_blk rfl 38 _ rfl w.heap.size rfl 38 (pmA p) _ K0b Try.underlying38 rfl (by kernel_rfl) ?_)
          refine (CM.out _ rfl).mono ?_
          rintro _ w1 ⟨rfl, l1⟩
          have K1 := K0.on l1
          have K1b := K1.2
          have X1 := Lib.hid (X0.out.below_ l1)
          clear l1 K0 K0b X0
          go_wp2_with (refine wpList_load_blk rfl 38 _ rfl w.heap.size rfl 38 (pmA p) _ K1b Try.underlying38 rfl (by kernel_rfl) ?_)
          refine (IN.out _).mono ?_
          rintro _ w2 ⟨rfl, l2⟩
          have K2 := K1.on l2
          have X2 := X1.out.below_ l2
          have p3 : w2.cell? ⟨w.heap.size, 3, none⟩ = some (.int .i64 p.co) := K2.2.cell 3
          have p4 : w2.cell? ⟨w.heap.size, 4, none⟩ = some (.int .u64 p.ck) := K2.2.cell 4
          have p5 : w2.cell? ⟨w.heap.size, 5, none⟩ = some (.int .i64 p.po) := K2.2.cell 5
          have p6 : w2.cell? ⟨w.heap.size, 6, none⟩ = some (.int .i64 p.sq) := K2.2.cell 6
          have p10 : w2.cell? ⟨w.heap.size, 10, none⟩ = some (.int .u64 p.rc) := K2.2.cell 10
          have p11 : w2.cell? ⟨w.heap.size, 11, none⟩ = some (.int .i64 p.rp) := K2.2.cell 11
          have pz := K2.2.lt
          have x1 : w2.cell? ⟨b, 1, none⟩ = some (.bool x.pend) := X2.cell 1
          have x2 : w2.cell? ⟨b, 2, none⟩ = some (.int .i64 x.seq) := X2.cell 2
          have xz := X2.lt
          clear l2 K1 K1b X1
          replace K2 := Lib.hid K2
          replace X2 := Lib.hid X2
          go_wp2_with fail
          go_quiet (fail)
          go_wp2_with fail
          refine (RD.out _).mono ?_
          rintro _ w3 ⟨rfl, rfl⟩
          go_wp2
          go_ret
          exact ⟨rfl, X2.out, only_of_below (below_drewN K2.out.1 _) _⟩
        | true =>
          have e : Pl.respE x p t4 ck po = 0 := by unfold Pl.respE; rw [if_pos hc, if_pos hm, if_pos (by simp [hi, hr])]
          rw [e, if_pos rfl]
          rw [hr] at RD
          replace RD := Lib.hid RD
          clear e hx hr hi hm hc hw m2 m3 m4
          go_enter Try.func12, Try.ntmps12
          go_wp2_with (refine wpList_load_blk rfl 38 _ rfl w.heap.size rfl 38 (pmA p) _ K0b Try.underlying38 rfl (by kernel_rfl) ?_)
          refine (CM.out _ rfl).mono ?_
          rintro _ w1 ⟨rfl, l1⟩
          have K1 := K0.on l1
          have K1b := K1.2
          have X1 := Lib.hid (X0.out.below_ l1)
          clear l1 K0 K0b X0
          go_wp2_with (refine wpList_load_blk rfl 38 _ rfl w.heap.size rfl 38 (pmA p) _ K1b Try.underlying38 rfl (by kernel_rfl) ?_)
          refine (IN.out _).mono ?_
          rintro _ w2 ⟨rfl, l2⟩
          have K2 := K1.on l2
          have X2 := X1.out.below_ l2
          have p3 : w2.cell? ⟨w.heap.size, 3, none⟩ = some (.int .i64 p.co) := K2.2.cell 3
          have p4 : w2.cell? ⟨w.heap.size, 4, none⟩ = some (.int .u64 p.ck) := K2.2.cell 4
          have p5 : w2.cell? ⟨w.heap.size, 5, none⟩ = some (.int .i64 p.po) := K2.2.cell 5
          have p6 : w2.cell? ⟨w.heap.size, 6, none⟩ = some (.int .i64 p.sq) := K2.2.cell 6
          have p10 : w2.cell? ⟨w.heap.size, 10, none⟩ = some (.int .u64 p.rc) := K2.2.cell 10
          have p11 : w2.cell? ⟨w.heap.size, 11, none⟩ = some (.int .i64 p.rp) := K2.2.cell 11
          have pz := K2.2.lt
          have x1 : w2.cell? ⟨b, 1, none⟩ = some (.bool x.pend) := X2.cell 1
          have x2 : w2.cell? ⟨b, 2, none⟩ = some (.int .i64 x.seq) := X2.cell 2
          have xz := X2.lt
          clear l2 K1 K1b X1
          replace K2 := Lib.hid K2
          replace X2 := Lib.hid X2
          have xf1 := X2.out.frozen 1
          have xf4 := X2.out.frozen 4
          have x4 : w2.cell? ⟨b, 4, none⟩ = some (.bool x.wt) := X2.out.cell 4
          go_wp2_with fail
          go_quiet (fail)
          go_wp2_with fail
          refine (RD.out _).mono ?_
          rintro _ w3 ⟨rfl, rfl⟩
          go_wp2_with fail
          have Z := resp_mid (n := nq) X2.out K2.out hbz
          clear p3 p4 p5 p6 p10 p11 pz x1 x2 xz xf1 xf4 x4 X2 K2
          generalize ((w2.drewN nq).setCell ⟨b, 1, none⟩ (.bool false)).setCell ⟨b, 4, none⟩ (.bool true) = W5 at Z ⊢
          obtain ⟨Z1, Z2, Z3⟩ := Z
          have p3 : W5.cell? ⟨w.heap.size, 3, none⟩ = some (.int .i64 p.co) := Z2.cell 3
          have p4 : W5.cell? ⟨w.heap.size, 4, none⟩ = some (.int .u64 p.ck) := Z2.cell 4
          have p5 : W5.cell? ⟨w.heap.size, 5, none⟩ = some (.int .i64 p.po) := Z2.cell 5
          have p6 : W5.cell? ⟨w.heap.size, 6, none⟩ = some (.int .i64 p.sq) := Z2.cell 6
          have pz := Z2.lt
          have x3 : W5.cell? ⟨b, 3, none⟩ = some (.int .i64 x.t1) := Z1.cell 3
          have xz := Z1.lt
          have x5 : W5.cell? ⟨b, 5, none⟩ = some (.int .u64 x.ac) := Z1.cell 5
          have x6 : W5.cell? ⟨b, 6, none⟩ = some (.int .i64 x.ap) := Z1.cell 6
          have x7 : W5.cell? ⟨b, 7, none⟩ = some (.int .i64 x.asq) := Z1.cell 7
          have x8 : W5.cell? ⟨b, 8, none⟩ = some (.int .i64 x.aco) := Z1.cell 8
          have x9 : W5.cell? ⟨b, 9, none⟩ = some (.int .i64 x.a1) := Z1.cell 9
          have x10 : W5.cell? ⟨b, 10, none⟩ = some (.int .i64 x.a2) := Z1.cell 10
          have x11 : W5.cell? ⟨b, 11, none⟩ = some (.int .i64 x.a4) := Z1.cell 11
          have g5 := Z1.frozen 5
          have g6 := Z1.frozen 6
          have g7 := Z1.frozen 7
          have g8 := Z1.frozen 8
          have g9 := Z1.frozen 9
          have g10 := Z1.frozen 10
          have g11 := Z1.frozen 11
          have hne : w.heap.size ≠ b := by omega
          have hne' : b ≠ w.heap.size := by omega
          have Q7 := resp_far Z2 hne (.int .u64 p.ck) (.int .i64 p.po) (.int .i64 p.sq) (.int .i64 p.co) (.int .i64 x.t1) (.int .i64 (Pl.insN p)) (.int .i64 t4)
          have T5 : Hid ((((((((W5.setCell ⟨b, 5, none⟩ (.int .u64 p.ck)).setCell ⟨b, 6, none⟩ (.int .i64 p.po)).setCell ⟨b, 7, none⟩ (.int .i64 p.sq)).setCell ⟨b, 8, none⟩ (.int .i64 p.co)).setCell ⟨b, 9, none⟩ (.int .i64 x.t1)).setCell ⟨b, 10, none⟩ (.int .i64 (Pl.insN p))).setCell ⟨b, 11, none⟩ (.int .i64 t4)).drew.cell? ⟨w.heap.size, 4, none⟩ = some (.int .u64 p.ck) ∧ (((((((W5.setCell ⟨b, 5, none⟩ (.int .u64 p.ck)).setCell ⟨b, 6, none⟩ (.int .i64 p.po)).setCell ⟨b, 7, none⟩ (.int .i64 p.sq)).setCell ⟨b, 8, none⟩ (.int .i64 p.co)).setCell ⟨b, 9, none⟩ (.int .i64 x.t1)).setCell ⟨b, 10, none⟩ (.int .i64 (Pl.insN p))).setCell ⟨b, 11, none⟩ (.int .i64 t4)).drew.cell? ⟨w.heap.size, 5, none⟩ = some (.int .i64 p.po) ∧ (((((((W5.setCell ⟨b, 5, none⟩ (.int .u64 p.ck)).setCell ⟨b, 6, none⟩ (.int .i64 p.po)).setCell ⟨b, 7, none⟩ (.int .i64 p.sq)).setCell ⟨b, 8, none⟩ (.int .i64 p.co)).setCell ⟨b, 9, none⟩ (.int .i64 x.t1)).setCell ⟨b, 10, none⟩ (.int .i64 (Pl.insN p))).setCell ⟨b, 11, none⟩ (.int .i64 t4)).drew.cell? ⟨w.heap.size, 6, none⟩ = some (.int .i64 p.sq) ∧ (((((((W5.setCell ⟨b, 5, none⟩ (.int .u64 p.ck)).setCell ⟨b, 6, none⟩ (.int .i64 p.po)).setCell ⟨b, 7, none⟩ (.int .i64 p.sq)).setCell ⟨b, 8, none⟩ (.int .i64 p.co)).setCell ⟨b, 9, none⟩ (.int .i64 x.t1)).setCell ⟨b, 10, none⟩ (.int .i64 (Pl.insN p))).setCell ⟨b, 11, none⟩ (.int .i64 t4)).drew.cell? ⟨w.heap.size, 3, none⟩ = some (.int .i64 p.co) ∧ (((((((W5.setCell ⟨b, 5, none⟩ (.int .u64 p.ck)).setCell ⟨b, 6, none⟩ (.int .i64 p.po)).setCell ⟨b, 7, none⟩ (.int .i64 p.sq)).setCell ⟨b, 8, none⟩ (.int .i64 p.co)).setCell ⟨b, 9, none⟩ (.int .i64 x.t1)).setCell ⟨b, 10, none⟩ (.int .i64 (Pl.insN p))).setCell ⟨b, 11, none⟩ (.int .i64 t4)).drew.cell? ⟨b, 3, none⟩ = some (.int .i64 x.t1)) := Lib.hid ⟨Q7.cell 4, Q7.cell 5, Q7.cell 6, Q7.cell 3, (resp_set Z1 p t4 rfl rfl).drew.cell 3⟩
          clear Q7
          replace Z1 := Lib.hid Z1
          replace Z2 := Lib.hid Z2
          replace Z3 := Lib.hid Z3
          go_region_held3 (fun w' => w'.cell? ⟨w.heap.size, 4, none⟩ = some (.int .u64 p.ck) ∧ w'.cell? ⟨w.heap.size, 5, none⟩ = some (.int .i64 p.po) ∧ w'.cell? ⟨w.heap.size, 6, none⟩ = some (.int .i64 p.sq) ∧ w'.cell? ⟨w.heap.size, 3, none⟩ = some (.int .i64 p.co) ∧ w'.cell? ⟨b, 3, none⟩ = some (.int .i64 x.t1)) (first | with_reducible exact T5.out | with_reducible exact ⟨p4, p5, p6, p3, x3⟩ | go_keep) ((fail))
          all_goals go_wp2
          all_goals go_ret
          exact ⟨rfl, (resp_set Z1.out p t4 rfl rfl).drew, only_drew (resp_own Z3.out _ _ _ _ _ _ _)⟩
    · have e : Pl.respE x p t4 ck po = 11 := by unfold Pl.respE; rw [if_pos hc, if_neg hm]
      rw [e, if_neg (by decide)]
      replace IN := Lib.hid IN
      have hcas : (!x.pend) = true ∨ ((!x.pend) = false ∧ (p.sq != x.seq) = true) ∨ ((!x.pend) = false ∧ (p.sq != x.seq) = false ∧ (p.rc != ck) = true) ∨ ((!x.pend) = false ∧ (p.sq != x.seq) = false ∧ (p.rc != ck) = false ∧ (p.rp != po) = true) := by
        unfold Pl.mineR at hm
        cases a1 : x.pend <;> simp [a1] at hm ⊢
        by_cases a2 : p.sq = x.seq <;> simp [a2] at hm ⊢
        by_cases a3 : p.rc = ck <;> simp [a3] at hm ⊢
        exact hm
      clear e hx RD hm hc hw
      rcases hcas with u1 | ⟨u1, u2⟩ | ⟨u1, u2, u3⟩ | ⟨u1, u2, u3, u4⟩
      all_goals (
        go_enter Try.func12, Try.ntmps12
        go_wp2_with (refine wpList_load_blk rfl 38 _ rfl w.heap.size rfl 38 (pmA p) _ K0b Try.underlying38 rfl (by kernel_rfl) ?_)
        refine (CM.out _ rfl).mono ?_
        rintro _ w1 ⟨rfl, l1⟩
        have K1 := K0.on l1
        have K1b := K1.2
        have X1 := Lib.hid (X0.out.below_ l1)
        clear l1 K0 K0b X0
        go_wp2_with (refine wpList_load_blk rfl 38 _ rfl w.heap.size rfl 38 (pmA p) _ K1b Try.underlying38 rfl (by kernel_rfl) ?_)
        refine (IN.out _).mono ?_
        rintro _ w2 ⟨rfl, l2⟩
        have K2 := K1.on l2
        have X2 := X1.out.below_ l2
        have p3 : w2.cell? ⟨w.heap.size, 3, none⟩ = some (.int .i64 p.co) := K2.2.cell 3
        have p4 : w2.cell? ⟨w.heap.size, 4, none⟩ = some (.int .u64 p.ck) := K2.2.cell 4
        have p5 : w2.cell? ⟨w.heap.size, 5, none⟩ = some (.int .i64 p.po) := K2.2.cell 5
        have p6 : w2.cell? ⟨w.heap.size, 6, none⟩ = some (.int .i64 p.sq) := K2.2.cell 6
        have p10 : w2.cell? ⟨w.heap.size, 10, none⟩ = some (.int .u64 p.rc) := K2.2.cell 10
        have p11 : w2.cell? ⟨w.heap.size, 11, none⟩ = some (.int .i64 p.rp) := K2.2.cell 11
        have pz := K2.2.lt
        have x1 : w2.cell? ⟨b, 1, none⟩ = some (.bool x.pend) := X2.cell 1
        have x2 : w2.cell? ⟨b, 2, none⟩ = some (.int .i64 x.seq) := X2.cell 2
        have xz := X2.lt
        clear l2 K1 K1b X1
        replace K2 := Lib.hid K2
        replace X2 := Lib.hid X2
        go_wp2_with fail
        go_quiet (fail)
        go_wp2
        go_ret
        exact ⟨rfl, X2.out, only_of_below (below_drewN K2.out.1 _) _⟩)
  · have e : Pl.respE x p t4 ck po = Pl.comE p 3 x.dom := by unfold Pl.respE; rw [if_neg hc]
    rw [e, if_neg hc]
    obtain ⟨C, hC⟩ : ∃ C, Pl.comE p 3 x.dom = C := ⟨_, rfl⟩
    rw [hC] at CM hc ⊢
    have t0 : (C != 0) = true := by simp [hc]
    replace CM : Hid (∀ W, W = w.alloc (.cells (pmA p) 38) → Calls Try.prog 27 #[.pointer (some ⟨b, 0, none⟩), pmV p, .int .i64 3] W fun e w' => e = .returned (.int .i64 C) ∧ Below W.heap.size W w') := Lib.hid (by rintro _ rfl; exact CM)
    clear hc hC hw hx e IN RD
    go_enter Try.func12, Try.ntmps12
    go_wp2_with (refine wpList_load_blk rfl 38 _ rfl w.heap.size rfl 38 (pmA p) _ K0b Try.underlying38 rfl (by kernel_rfl) ?_)
    refine (CM.out _ rfl).mono ?_
    rintro _ w1 ⟨rfl, l1⟩
    have K1 := K0.on l1
    have K1b := K1.2
    have X1 := Lib.hid (X0.out.below_ l1)
    clear l1 K0 K0b X0
    go_wp2
    go_ret
    exact ⟨rfl, X1.out, only_of_below K1.1 _⟩
theorem presp_nil (p : Pl.PM) (t4 ck po : Int) (w : World) : Calls Try.prog 12 #[.pointer none, pmV p, .int .i64 t4, .int .u64 ck, .int .i64 po] w fun e w' => e = .returned (.int .i64 1) ∧ Below w.heap.size w w' := by
  have CM := fun W => common_nil p 3 W
  have K0 := one_mk w 38 (pmA p)
  have K0b := K0.2
  go_enter Try.func12, Try.ntmps12
  go_wp2_with (refine wpList_load_blk rfl 38 _ rfl w.heap.size rfl 38 (pmA p) _ K0b Try.underlying38 rfl (by kernel_rfl) ?_)
  refine (CM _).mono ?_
  rintro _ w1 ⟨rfl, l1⟩
  have K1 := K0.on l1
  clear l1
  go_wp2
  go_ret
  exact ⟨rfl, K1.1⟩
end Go.Proofs.Ytmdfbcabpmadgaa

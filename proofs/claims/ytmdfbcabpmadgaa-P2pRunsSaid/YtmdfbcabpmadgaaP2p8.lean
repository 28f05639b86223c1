/- awake of layer 39's statements. -/
import Derived.Test.YtmdfbcabpmadgaaP2p7
namespace Go.Proofs.Ytmdfbcabpmadgaa
namespace Pl
def awX : XS := (xs0 0).one 1 100 1000 1500 700 0
def awY : XS := (xs0 0).one 1 100 1000 1500 700 1310720
def awZ : XS := awX.one 2 1100 2001 2501 1700 0
theorem awX_ok : XOk awX := one_ok (xs0_ok 0) (by decide) rfl rfl (by omega)
theorem awY_ok : XOk awY := one_ok (xs0_ok 0) (by decide) rfl rfl (by omega)
theorem awZ_ok : XOk awZ := one_ok awX_ok (by decide) rfl rfl (by omega)
theorem awX_del : delN awX = 50 ∧ delB awX = true := by
  refine ⟨?_, by decide⟩
  have h : awX.dl 0 = 50 := (one_dl (x := xs0 0) rfl rfl (by omega) 0).trans (by decide)
  have hc : awX.cnt = 1 := rfl
  unfold delN
  rw [hc, if_neg (by omega)]
  have hn : nD awX = 1 := by unfold nD; rw [hc]; rfl
  rw [hn]
  show (0 + awX.dl 0) / ((1 : Nat) : Int) = 50
  rw [h]
  rfl
theorem awY_del : delN awY = 40 ∧ delB awY = true := by
  refine ⟨?_, by decide⟩
  have h : awY.dl 0 = 40 := (one_dl (x := xs0 0) rfl rfl (by omega) 0).trans (by decide)
  have hc : awY.cnt = 1 := rfl
  unfold delN
  rw [hc, if_neg (by omega)]
  have hn : nD awY = 1 := by unfold nD; rw [hc]; rfl
  rw [hn]
  show (0 + awY.dl 0) / ((1 : Nat) : Int) = 40
  rw [h]
  rfl
theorem awX_rat : ratB awX = false := by decide
theorem awZ_rat : ratN awZ = 500000 ∧ ratB awZ = true := by
  have l1 : awZ.l1 = 2501 := one_l1 rfl
  have f1 : awZ.f1 = 1500 := (one_f1 (x := awX) rfl).trans ((if_neg (by decide)).trans ((one_f1 (x := xs0 0) rfl).trans (if_pos rfl)))
  have hb : ratB awZ = true := by decide
  refine ⟨?_, hb⟩
  unfold ratN ratM
  rw [if_pos hb, l1, f1]
  show max (-500000) (min (md (2501 - 1500 - (1700 - 700)) 1000000000 (1700 - 700)) 500000) = 500000
  decide
end Pl
open Go.RowKit Go.Lib Go.Maps
set_option maxHeartbeats 4000000 in
set_option maxRecDepth 100000 in
theorem pawake_any (w : World) : Calls Try.prog 16 #[] w fun e w' => e = .returned (.bool true) ∧ Below w.heap.size w w' := by
  have NW := Lib.hid (fun W => pnew_yes 0 (by omega) (by omega) W)
  have O1 : Hid (∀ b W, Blk W b 65 (xA (Pl.xs0 0)) → Calls Try.prog 24 #[.pointer (some ⟨b, 0, none⟩), .int .i64 1, .int .i64 100, .int .i64 1000, .int .i64 1500, .int .i64 700, .int .i64 0] W fun e w' => e = .returned (.bool true) ∧ Blk w' b 65 (xA Pl.awX) ∧ W.grownBy w' (some b)) := Lib.hid (fun b W h => one_any b (Pl.xs0 0) 1 100 1000 1500 700 0 W h (Pl.xs0_ok 0) rfl (by omega) rfl rfl rfl rfl (by omega))
  have O2 : Hid (∀ b W, Blk W b 65 (xA (Pl.xs0 0)) → Calls Try.prog 24 #[.pointer (some ⟨b, 0, none⟩), .int .i64 1, .int .i64 100, .int .i64 1000, .int .i64 1500, .int .i64 700, .int .i64 1310720] W fun e w' => e = .returned (.bool true) ∧ Blk w' b 65 (xA Pl.awY) ∧ W.grownBy w' (some b)) := Lib.hid (fun b W h => one_any b (Pl.xs0 0) 1 100 1000 1500 700 1310720 W h (Pl.xs0_ok 0) rfl (by omega) rfl rfl rfl rfl (by omega))
  have O3 : Hid (∀ b W, Blk W b 65 (xA Pl.awX) → Calls Try.prog 24 #[.pointer (some ⟨b, 0, none⟩), .int .i64 2, .int .i64 1100, .int .i64 2001, .int .i64 2501, .int .i64 1700, .int .i64 0] W fun e w' => e = .returned (.bool true) ∧ Blk w' b 65 (xA Pl.awZ) ∧ W.grownBy w' (some b)) := Lib.hid (fun b W h => one_any b Pl.awX 2 1100 2001 2501 1700 0 W h Pl.awX_ok rfl (by omega) rfl rfl rfl rfl (by omega))
  have D1 := fun b W h => pdel_any b Pl.awX W h Pl.awX_ok
  rw [Pl.awX_del.1, Pl.awX_del.2] at D1
  have D2 := fun b W h => pdel_any b Pl.awY W h Pl.awY_ok
  rw [Pl.awY_del.1, Pl.awY_del.2] at D2
  have R1 := fun b W h => prat_any b Pl.awX W h Pl.awX_ok
  rw [Pl.awX_rat] at R1
  have R3 := fun b W h => prat_any b Pl.awZ W h Pl.awZ_ok
  rw [Pl.awZ_rat.1, Pl.awZ_rat.2] at R3
  generalize Pl.ratN Pl.awX = RX at R1
  generalize Pl.awX = sX at O1 O3 D1 R1
  generalize Pl.awY = sY at O2 D2
  generalize Pl.awZ = sZ at O3 R3
  generalize Pl.xs0 0 = s0 at NW O1 O2
  replace D1 := Lib.hid D1
  replace D2 := Lib.hid D2
  replace R1 := Lib.hid R1
  replace R3 := Lib.hid R3
  go_enter Try.func16, Try.ntmps16
  go_wp2_with fail
  refine (NW.out _).mono ?_
  rintro _ w1 ⟨rfl, X1, l1⟩
  have hz : w.heap.size < w1.heap.size := X1.lt
  have B1 := Lib.hid l1
  have X1' := Lib.hid X1
  clear l1 X1
  go_wp2_with fail
  refine (NW.out _).mono ?_
  rintro _ w2 ⟨rfl, Y2, l2⟩
  have B2 := Lib.hid (bel_on B1.out l2)
  have X2 := Lib.hid (X1'.out.below_ l2)
  have Y2' := Lib.hid Y2
  have n1 : w.heap.size ≠ w1.heap.size := by omega
  have n2 : w1.heap.size ≠ w.heap.size := by omega
  clear l2 B1 X1' Y2
  go_wp2_with fail
  refine (O1.out _ _ X2.out).mono ?_
  rintro _ w3 ⟨rfl, X3, l3⟩
  have B3 := Lib.hid (Below.only B2.out l3 (Nat.le_refl _) B2.out.size)
  have Y3 := Lib.hid (Y2'.out.grown l3 (fun e => by injection e with e; exact n2 e))
  have X3' := Lib.hid X3
  clear l3 B2 X2 Y2' X3
  go_wp2_with fail
  refine (O2.out _ _ Y3.out).mono ?_
  rintro _ w4 ⟨rfl, Y4, l4⟩
  have B4 := Lib.hid (Below.only B3.out l4 (Nat.le_of_lt hz) B3.out.size)
  have X4 := Lib.hid (X3'.out.grown l4 (fun e => by injection e with e; exact n1 e))
  have Y4' := Lib.hid Y4
  clear l4 B3 Y3 X3' Y4
  go_wp2_with fail
  refine (D1.out _ _ X4.out).mono ?_
  rintro _ w5 ⟨rfl, m5, rfl⟩
  go_wp2_with fail
  refine (D2.out _ _ (Y4'.out.drewN m5)).mono ?_
  rintro _ w6 ⟨rfl, m6, rfl⟩
  go_wp2_with fail
  refine (R1.out _ _ (X4.out.drewN (m5 + m6))).mono ?_
  rintro _ w7 ⟨rfl, m7, rfl⟩
  have X7 := Lib.hid (X4.out.drewN (m5 + m6 + m7))
  have B7 := Lib.hid (below_drewN B4.out (m5 + m6 + m7))
  clear X4 B4 Y4'
  go_wp2_with fail
  refine (O3.out _ _ X7.out).mono ?_
  rintro _ w8 ⟨rfl, X8, l8⟩
  have B8 := Lib.hid (Below.only B7.out l8 (Nat.le_refl _) B7.out.size)
  have X8' := Lib.hid X8
  clear l8 B7 X7 X8
  go_wp2_with fail
  refine (R3.out _ _ X8'.out).mono ?_
  rintro _ w9 ⟨rfl, m9, rfl⟩
  go_wp2
  go_ret
  exact ⟨rfl, below_drewN B8.out _⟩
end Go.Proofs.Ytmdfbcabpmadgaa

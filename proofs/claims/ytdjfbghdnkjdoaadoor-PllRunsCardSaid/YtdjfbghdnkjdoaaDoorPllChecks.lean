/- The walk of PllChecks. -/
import Derived.Test.YtdjfbghdnkjdoaaDoorPll6
namespace Go.Proofs.YtdjfbghdnkjdoaaDoor
open Go.RowKit Go.Lib

theorem rlcheck_any (c : Pl.LC) (w : World) : Calls Tryd.prog 11 #[lcV c] w fun e w' => e = .returned (.int .i64 c.err) ∧ Below w.heap.size w w' := by
  go_enter Tryd.func11, Tryd.ntmps11
  go_wp2
  all_goals (go_ret; exact ⟨congrArg Ending.returned (congrArg (Value.int .i64) (by first | (simp_all [Pl.LC.err, Pl.LC.rng, Pl.inr]; done) | (simp_all [Pl.LC.err, Pl.LC.rng, Pl.inr]; omega) | (unfold Pl.LC.err; split <;> (try (rename_i q; have q := Pl.LC.rng_iff.1 q)) <;> (try split) <;> omega))), by first | exact bel_bx w _ | exact Below.refl _ _⟩)
theorem cf_cells {w W : World} {c : Pl.LC} (h : One w W 23 #[.int .i64 c.lo, .int .i64 c.hi, .int .i64 c.sa, .int .i64 c.so, .int .i64 c.lim]) : W.cell? ⟨w.heap.size, 0, none⟩ = some (.int .i64 c.lo) ∧ W.cell? ⟨w.heap.size, 1, none⟩ = some (.int .i64 c.hi) ∧ W.cell? ⟨w.heap.size, 2, none⟩ = some (.int .i64 c.sa) ∧ W.cell? ⟨w.heap.size, 3, none⟩ = some (.int .i64 c.so) ∧ W.cell? ⟨w.heap.size, 4, none⟩ = some (.int .i64 c.lim) :=
  ⟨h.2.cell 0, h.2.cell 1, h.2.cell 2, h.2.cell 3, h.2.cell 4⟩

set_option maxRecDepth 100000 in
theorem pllChecks_go (c : Pl.LC) (w : World) (hc : ConfAt w) : Calls Tryd.prog 3 #[lcV c] w fun e w' => e = .returned (.bool true) ∧ Below w.heap.size w w' := by
  have PC := fun W => pcheck_any c W
  have RC := fun W => rlcheck_any c W
  have HC := Lib.hid hc
  have K := one_mk w 23 #[.int .i64 c.lo, .int .i64 c.hi, .int .i64 c.sa, .int .i64 c.so, .int .i64 c.lim]
  obtain ⟨k0, k1, k2, k3, k4⟩ := cf_cells K
  have kz := K.2.lt
  clear hc
  by_cases h : c.err = 0
  · have NW := Lib.hid (fun W => pnew_yes c h W)
    rw [h] at PC RC
    have PC := Lib.hid PC
    have RC := Lib.hid RC
    clear h
    go_enter Tryd.func3, Tryd.ntmps3
    go_wp2_with fail
    refine (PC.out _).mono ?_
    rintro _ w1 ⟨rfl, l1⟩
    have K := K.on l1
    clear l1 k0 k1 k2 k3 k4 kz
    obtain ⟨k0, k1, k2, k3, k4⟩ := cf_cells K
    have kz := K.2.lt
    go_wp2_with fail
    refine (RC.out _).mono ?_
    rintro _ w2 ⟨rfl, l2⟩
    have K := K.on l2
    clear l2 k0 k1 k2 k3 k4 kz
    obtain ⟨k0, k1, k2, k3, k4⟩ := cf_cells K
    have kz := K.2.lt
    go_wp2_with fail
    refine (NW.out _).mono ?_
    rintro _ w3 ⟨g, rfl, _, _, l3⟩
    have K := K.on l3
    go_wp2_with fail
    refine (pawake_any _ (HC.out.on K.1)).mono ?_
    rintro _ w4 ⟨rfl, l4⟩
    have K := K.on l4
    go_wp2
    go_ret
    exact ⟨rfl, K.1⟩
  · have NW := Lib.hid (fun W => pnew_no c h W)
    obtain ⟨E, hE⟩ : ∃ E, c.err = E := ⟨_, rfl⟩
    rw [hE] at PC RC h
    have PC := Lib.hid PC
    have RC := Lib.hid RC
    have t : (E == 0) = false := by simp [h]
    clear h hE
    go_enter Tryd.func3, Tryd.ntmps3
    go_wp2_with fail
    refine (PC.out _).mono ?_
    rintro _ w1 ⟨rfl, l1⟩
    have K := K.on l1
    clear l1 k0 k1 k2 k3 k4 kz
    obtain ⟨k0, k1, k2, k3, k4⟩ := cf_cells K
    have kz := K.2.lt
    go_wp2_with fail
    refine (RC.out _).mono ?_
    rintro _ w2 ⟨rfl, l2⟩
    have K := K.on l2
    clear l2 k0 k1 k2 k3 k4 kz
    obtain ⟨k0, k1, k2, k3, k4⟩ := cf_cells K
    have kz := K.2.lt
    go_wp2_with fail
    refine (NW.out _).mono ?_
    rintro _ w3 ⟨rfl, l3⟩
    have K := K.on l3
    go_wp2_with fail
    refine (pawake_any _ (HC.out.on K.1)).mono ?_
    rintro _ w4 ⟨rfl, l4⟩
    have K := K.on l4
    go_wp2
    go_ret
    exact ⟨rfl, K.1⟩

theorem pllChecks_walk (a b c d e : Int) (w : World) (hc : ConfAt w) (_h : ∀ n ∈ [a, b, c, d, e], (Lit.int .i64 n).wf = true) :
    Calls Tryd.prog 3 #[.agg ([a, b, c, d, e].map (Value.int .i64)).toArray] w fun e w' => e = .returned (.bool true) ∧ Below w.heap.size w w' := pllChecks_go ⟨a, b, c, d, e⟩ w hc
end Go.Proofs.YtdjfbghdnkjdoaaDoor

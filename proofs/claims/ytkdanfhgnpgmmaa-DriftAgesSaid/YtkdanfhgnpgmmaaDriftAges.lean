/- The walk of DriftAges. -/
import Derived.Test.YtkdanfhgnpgmmaaDriftAwake
import Derived.Test.YtkdanfhgnpgmmaaOpen
import Derived.Test.YtkdanfhgnpgmmaaLaw
namespace Go.Proofs.Ytkdanfhgnpgmmaa
open Go.RowKit Go.Lib

theorem driftAges_walk (a b raw tol : Int) (w : World) (_h : ∀ n ∈ [a, b], (Lit.int .i64 n).wf = true) (h1 : (Lit.int .i64 raw).wf = true) (h2 : (Lit.int .i64 tol).wf = true) :
    Calls Try.prog 4 #[.agg ([a, b].map (Value.int .i64)).toArray, .int .i64 raw, .int .i64 tol] w fun e w' => e = .returned (.bool true) ∧ Below w.heap.size w w' := by
  obtain ⟨r1, r2⟩ := int_bd h1
  obtain ⟨t1, t2⟩ := int_bd h2
  clear _h h1 h2
  show Calls Try.prog 4 #[.agg #[.int .i64 a, .int .i64 b], .int .i64 raw, .int .i64 tol] w _
  have E1 := dage_any a b raw tol r1 r2 t1 t2
  have E2 := rage_any a b raw tol r1 r2 t1 t2
  obtain ⟨X, hX⟩ : ∃ X, Pl.age a b raw tol = X := ⟨_, rfl⟩
  simp only [hX] at E1 E2
  obtain ⟨x, y, z⟩ := X
  have E1 := Lib.hid E1
  have E2 := Lib.hid E2
  clear hX r1 r2 t1 t2
  go_enter Try.func4, Try.ntmps4
  go_wp2_with fail
  refine (E1.out _).mono ?_
  rintro e w1 ⟨rfl, b1⟩
  have T1 := (one_mk w _ _).on b1
  obtain ⟨c0, c1, z0⟩ := T1.cells
  clear b1
  go_wp2_with fail
  refine (E2.out _).mono ?_
  rintro e w2 ⟨rfl, b2⟩
  have T := bel_then T1.1 b2
  have k1 := blk_new b2
  have p0 : w2.cell? ⟨w1.heap.size, 0, none⟩ = some (.int .i64 x) := k1.cell 0
  have p1 : w2.cell? ⟨w1.heap.size, 1, none⟩ = some (.int .i64 y) := k1.cell 1
  have p2 := k1.lt
  clear c0 c1 z0 T1 b2 k1
  have T := Lib.hid T
  go_wp2_with (go_at_call 15; refine (dawake_any _).mono ?_; rintro e w3 ⟨rfl, b3⟩)
  go_ret
  exact ⟨rfl, bel_then T.out b3⟩
end Go.Proofs.Ytkdanfhgnpgmmaa

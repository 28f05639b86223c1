/- The walk of DriftBounds. -/
import Derived.Test.YtkdanfhgnpgmmaaDriftAwake
import Derived.Test.YtkdanfhgnpgmmaaOpen
namespace Go.Proofs.Ytkdanfhgnpgmmaa
open Go.RowKit Go.Lib

theorem driftBounds_walk (a b raw tol : Int) (w : World) (_h : ∀ n ∈ [a, b], (Lit.int .i64 n).wf = true) (h1 : (Lit.int .i64 raw).wf = true) (h2 : (Lit.int .i64 tol).wf = true) :
    Calls Try.prog 3 #[.agg ([a, b].map (Value.int .i64)).toArray, .int .i64 raw, .int .i64 tol] w fun e w' => e = .returned (.bool true) ∧ Below w.heap.size w w' := by
  obtain ⟨r1, r2⟩ := int_bd h1
  obtain ⟨t1, t2⟩ := int_bd h2
  clear _h h1 h2
  show Calls Try.prog 3 #[.agg #[.int .i64 a, .int .i64 b], .int .i64 raw, .int .i64 tol] w _
  have E1 := delapsed_any raw tol r1 r2 t1 t2
  have E2 := relapsed_any raw tol r1 r2 t1 t2
  obtain ⟨X, hX⟩ : ∃ X, Pl.ela raw tol = X := ⟨_, rfl⟩
  simp only [hX] at E1 E2
  have E1 := Lib.hid E1
  have E2 := Lib.hid E2
  have C1 := dcheck_any a b
  have C2 := rcheck_any a b
  obtain ⟨Y, hY⟩ : ∃ Y, Pl.dchk a b = Y := ⟨_, rfl⟩
  simp only [hY] at C1 C2
  have C1 := Lib.hid C1
  have C2 := Lib.hid C2
  clear hX hY r1 r2 t1 t2
  go_enter Try.func3, Try.ntmps3
  go_wp2_with fail
  refine (E1.out _).mono ?_
  rintro e w1 ⟨rfl, b1⟩
  have T1 := (one_mk w _ _).on b1
  go_wp2_with fail
  refine (E2.out _).mono ?_
  rintro e w2 ⟨rfl, b2⟩
  have T := T1.on b2
  clear b1 b2 T1
  obtain ⟨c0, c1, z0⟩ := T.cells
  clear c0 c1 z0
  go_wp2_with fail
  go_region_held3 (fun w' => w'.cell? ⟨w.heap.size, 0, none⟩ = some (.int .i64 a) ∧ w'.cell? ⟨w.heap.size, 1, none⟩ = some (.int .i64 b)) (first | exact T.two | exact T.drew.two) ((first
    | (go_at_call 13; refine (C1.out _).mono ?_; rintro e w3 ⟨rfl, hb⟩; have T : One w w3 _ #[.int .i64 a, .int .i64 b] := (by first | exact T.on hb | exact T.drew.on hb))
    | (go_at_call 14; refine (C2.out _).mono ?_; rintro e w3 ⟨rfl, hb⟩; have T : One w w3 _ #[.int .i64 a, .int .i64 b] := (by first | exact T.on hb | exact T.drew.on hb))
    | (go_at_call 15; refine (dawake_any _).mono ?_; rintro e w3 ⟨rfl, hb⟩; have T : One w w3 _ #[.int .i64 a, .int .i64 b] := (by first | exact T.on hb | exact T.drew.on hb))))
  all_goals (go_wp2; go_ret; exact ⟨rfl, T.1⟩)
end Go.Proofs.Ytkdanfhgnpgmmaa

/- The walk of ResidenceStays. -/
import Derived.Test.YtnlfkafebbfenaaRes7
namespace Go.Proofs.Ytnlfkafebbfenaa
open Go.RowKit Go.Lib

theorem residenceStays_walk (i o p : Int) (w : World) (_h1 : (Lit.int .i64 i).wf = true) (_h2 : (Lit.int .i64 o).wf = true) (_h3 : (Lit.int .i64 p).wf = true) :
    Calls Try.prog 3 #[.int .i64 i, .int .i64 o, .int .i64 p] w fun e w' => e = .returned (.bool true) ∧ Below w.heap.size w w' := by
  have S1 := fun W => stay_any i o p W
  have S2 := fun W => rstay_any i o p W
  obtain ⟨N, hN⟩ : ∃ N, Pl.stayN i o p = N := ⟨_, rfl⟩
  obtain ⟨E, hE⟩ : ∃ N, Pl.stayE i o p = N := ⟨_, rfl⟩
  rw [hN, hE] at S1 S2
  replace S1 := Lib.hid S1
  replace S2 := Lib.hid S2
  clear hN hE
  go_enter Try.func3, Try.ntmps3
  go_wp2_with fail
  refine (S1.out _).mono ?_
  rintro _ w1 ⟨rfl, l1⟩
  go_wp2_with fail
  refine (S2.out _).mono ?_
  rintro _ w2 ⟨rfl, l2⟩
  have B := bel_on l1 l2
  clear l1 l2
  go_wp2_with fail
  refine (rawake_any _).mono ?_
  rintro _ w3 ⟨rfl, l3⟩
  go_wp2
  go_ret
  exact ⟨rfl, bel_on B l3⟩
end Go.Proofs.Ytnlfkafebbfenaa

/- The walk of SysclockNobody. -/
import Derived.Test.YtcdholgafojjoaaClockLaw
import Derived.Test.YtcdholgafojjoaaOpen
namespace Go.Proofs.Ytcdholgafojjoaa
open Go.RowKit Go.Lib

set_option maxRecDepth 100000 in
theorem sysclockNobody_walk (k r x y : Int) (w : World) (_h : ∀ n ∈ [k, r, x, y], (Lit.int .i64 n).wf = true) :
    Calls Try.prog 10 #[.agg ([k, r, x, y].map (Value.int .i64)).toArray] w fun e w' => e = .returned (.bool true) ∧ Below w.heap.size w w' := by
  show Calls Try.prog 10 #[.agg #[.int .i64 k, .int .i64 r, .int .i64 x, .int .i64 y]] w _
  have K := opB_mk w k r x y
  obtain ⟨c0, c1, c2, c3⟩ := K.cells
  have cz := K.2.lt
  go_enter Try.func10, Try.ntmps10
  go_wp2_with fail
  refine (cnil_now r _).mono ?_
  rintro _ w1 ⟨rfl, rfl⟩
  go_wp2_with fail
  refine (cnil_freq r x _).mono ?_
  rintro _ w1 ⟨rfl, l1⟩
  clear c0 c1 c2 c3 cz
  have K := K.on l1
  obtain ⟨c0, c1, c2, c3⟩ := K.cells
  have cz := K.2.lt
  clear l1
  go_wp2_with fail
  refine (cnil_slew r x y _).mono ?_
  rintro _ w2 ⟨rfl, l1⟩
  clear c0 c1 c2 c3 cz
  have K := K.on l1
  obtain ⟨c0, c1, c2, c3⟩ := K.cells
  have cz := K.2.lt
  clear l1
  go_wp2_with fail
  refine (cnil_step r x _).mono ?_
  rintro _ w3 ⟨rfl, l1⟩
  clear c0 c1 c2 c3 cz
  have K := K.on l1
  obtain ⟨c0, c1, c2, c3⟩ := K.cells
  have cz := K.2.lt
  clear l1
  go_wp2_with fail
  refine (cnil_pend r _).mono ?_
  rintro _ w4 ⟨rfl, rfl⟩
  go_wp2_with fail
  refine (cnil_state _).mono ?_
  rintro _ w5 ⟨rfl, l1⟩
  have K := K.on l1
  clear l1
  go_wp2_with fail
  refine (cawake_any _).mono ?_
  rintro _ w6 ⟨rfl, l1⟩
  have K := K.on l1
  clear l1
  go_wp2
  go_ret
  exact ⟨rfl, K.1⟩
end Go.Proofs.Ytcdholgafojjoaa

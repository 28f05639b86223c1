/- The walk of PllNobody. -/
import Derived.Test.YtdjfbghdnkjdoaaDoorPll6
namespace Go.Proofs.YtdjfbghdnkjdoaaDoor
open Go.RowKit Go.Lib

theorem pllNobody_walk (t o po : Int) (w : World) (hc : ConfAt w) (_h1 : (Lit.int .i64 t).wf = true) (_h2 : (Lit.int .i64 o).wf = true) (_h3 : (Lit.int .i64 po).wf = true) :
    Calls Tryd.prog 9 #[.int .i64 t, .int .i64 o, .int .i64 po] w fun e w' => e = .returned (.bool true) ∧ Below w.heap.size w w' := by
  have HC := Lib.hid hc
  clear hc
  go_enter Tryd.func9, Tryd.ntmps9
  go_wp2_with fail
  refine (pnil_update t o po _).mono ?_
  rintro _ w1 ⟨rfl, l1⟩
  have L := Lib.hid (bel_more l1 (.cells #[.int .i64 0, .int .i64 0] 38))
  clear l1
  go_wp2_with fail
  refine (pnil_tick _).mono ?_
  rintro _ w2 ⟨rfl, rfl⟩
  go_wp2_with fail
  refine (pnil_freq _).mono ?_
  rintro _ w2 ⟨rfl, rfl⟩
  go_wp2_with fail
  refine (pnil_phase _).mono ?_
  rintro _ w2 ⟨rfl, rfl⟩
  go_wp2_with fail
  refine (pnil_state _).mono ?_
  rintro _ w2 ⟨rfl, rfl⟩
  go_wp2_with fail
  refine (pawake_any _ (HC.out.on L.out)).mono ?_
  rintro _ w3 ⟨rfl, l3⟩
  go_wp2
  go_ret
  exact ⟨rfl, bel_on L.out l3⟩
end Go.Proofs.YtdjfbghdnkjdoaaDoor

/- The walk of ServoNobody. -/
import Derived.Test.YtaaocdgbflifhaaServoAwake
namespace Go.Proofs.Ytaaocdgbflifhaa
open Go.RowKit Go.Lib

set_option maxHeartbeats 400000 in
theorem servoNobody_walk (o p : Int) (w : World) (_h1 : (Lit.int .i64 o).wf = true) (_h2 : (Lit.int .i64 p).wf = true) :
    Calls Try.prog 10 #[.int .i64 o, .int .i64 p] w fun e w' => e = .returned (.bool true) ∧ Below w.heap.size w w' := by
  go_enter Try.func10, Try.ntmps10
  go_wp2_with fail
  refine (snil_reset _).mono ?_
  rintro e w' ⟨rfl, rfl⟩
  go_wp2_with fail
  refine (snil_sample _ _ _).mono ?_
  rintro e w1 ⟨rfl, hb⟩
  have hs := hb.size
  go_wp2_with fail
  refine (snil_freq _).mono ?_
  rintro e w' ⟨rfl, rfl⟩
  go_wp2_with fail
  refine (snil_samples _).mono ?_
  rintro e w' ⟨rfl, rfl⟩
  go_wp2_with fail
  refine (awake_any _).mono ?_
  rintro e w2 ⟨rfl, hb2⟩
  go_wp2
  go_ret
  have h1 := hb.alloc hs (.cells #[.int .i64 0, .int .i64 0] 31)
  exact ⟨rfl, h1.trans (hb2.mono h1.size)⟩
end Go.Proofs.Ytaaocdgbflifhaa

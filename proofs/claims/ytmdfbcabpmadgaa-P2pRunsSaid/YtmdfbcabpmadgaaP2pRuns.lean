/- The walk of P2pRuns. -/
import Derived.Test.YtmdfbcabpmadgaaP2pRunsA
import Derived.Test.YtmdfbcabpmadgaaP2pRunsB
namespace Go.Proofs.Ytmdfbcabpmadgaa
open Go.RowKit Go.Lib Go.Maps
theorem p2pRuns_walk (d : Int) (a0 : Option Addr) (len cap : Nat) (z : Nat → OP) (w : World) (_ : (Lit.int .i64 d).wf = true) (h : len ≤ cap ∧ cap ≤ maxLen ∧ OpsIn w a0 len z) :
    Calls Try.prog 4 #[.int .i64 d, .slice a0 len cap] w fun e w' => e = .returned (.bool true) ∧ Below w.heap.size w w' := by
  by_cases hl : len ≤ 60
  · by_cases hd : d < 0 ∨ 255 < d
    · exact p2pRuns_no d hd a0 len cap z w hl h.2.2
    · exact p2pRuns_yes d (by omega) (by omega) a0 len cap z w hl h.2.2
  · have tl : decide (60 < (len : Int)) = true := by simp; omega
    clear h
    go_enter Try.func4, Try.ntmps4
    go_wp2_with fail
    refine (pawake_any _).mono ?_
    rintro _ w9 ⟨rfl, l9⟩
    go_wp2
    go_ret
    exact ⟨rfl, l9⟩
end Go.Proofs.Ytmdfbcabpmadgaa

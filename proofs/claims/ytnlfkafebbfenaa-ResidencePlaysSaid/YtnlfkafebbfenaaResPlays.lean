/- The walk of ResidencePlays. -/
import Derived.Test.YtnlfkafebbfenaaResPlaysA
import Derived.Test.YtnlfkafebbfenaaResPlaysB
namespace Go.Proofs.Ytnlfkafebbfenaa
open Go.RowKit Go.Lib Go.Maps
theorem residencePlays_walk (lim : Int) (a0 : Option Addr) (len cap : Nat) (z : Nat → DP) (w : World) (_ : (Lit.int .i64 lim).wf = true) (h : len ≤ cap ∧ cap ≤ maxLen ∧ DeedsIn w a0 len z) :
    Calls Try.prog 5 #[.int .i64 lim, .slice a0 len cap] w fun e w' => e = .returned (.bool true) ∧ Below w.heap.size w w' := by
  by_cases hd : lim < 1 ∨ 64 < lim
  · exact plays_no lim hd a0 len cap z w h.1 h.2.1 h.2.2
  · exact plays_yes lim (by omega) (by omega) a0 len cap z w h.1 h.2.1 h.2.2
end Go.Proofs.Ytnlfkafebbfenaa

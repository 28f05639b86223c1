/- Two new servos: what a region with two calls of New leaves. -/
import Derived.Test.YtaaocdgbflifhaaServoPair
import Derived.Test.YtaaocdgbflifhaaServoChecks
import Derived.Test.YtaaocdgbflifhaaLaw
namespace Go.Proofs.Ytaaocdgbflifhaa
open Go.RowKit Go.Lib
/-- one new servo -/
def Onn (w W : World) (b : Nat) (c : Pl.Conf) : Prop := Blk W b 56 (sv c ⟨0, 0, 0⟩) ∧ Below w.heap.size w W ∧ w.heap.size ≤ b
theorem onn_mk {w W W' : World} {b : Nat} {c : Pl.Conf} (HB : Below w.heap.size w W) (l : Below W.heap.size W W') (hb : W.heap.size ≤ b) (hk : Blk W' b 56 (sv c ⟨0, 0, 0⟩)) : Onn w W' b c := ⟨hk, bel_on HB l, Nat.le_trans HB.size hb⟩
theorem onn_pair {w W W' : World} {b b' : Nat} {c : Pl.Conf} (h : Onn w W b c) (l : Below W.heap.size W W') (hb : W.heap.size ≤ b') (hk : Blk W' b' 56 (sv c ⟨0, 0, 0⟩)) :
    Pair w W' 56 56 b b' c ⟨0, 0, 0⟩ ⟨0, 0, 0⟩ :=
  ⟨h.1.below_ l, hk, bel_on h.2.1 l, by have := h.1.lt; omega, h.2.2, by have := h.1.lt; have := h.2.2; omega⟩
theorem Onn.drew {w W : World} {b : Nat} {c : Pl.Conf} (h : Onn w W b c) : Onn w W.drew b c := ⟨h.1.drew, h.2.1.drew, h.2.2⟩
theorem Pair.swap {w W : World} {T : TypeId} {b b' : Nat} {c : Pl.Conf} {s s' : Pl.St} (h : Pair w W T T b b' c s s') : Pair w W T T b' b c s' s :=
  ⟨h.2.1, h.1, h.2.2.1, fun e => h.2.2.2.1 e.symm, h.2.2.2.2.2, h.2.2.2.2.1⟩
theorem confBel (w : World) (c : Pl.Conf) : Below w.heap.size w (w.alloc (.cells #[.int .i64 c.kp, .int .i64 c.ki, .int .i64 c.lim, .int .i64 c.sf, .int .i64 c.sl] 23)) := (Below.refl _ _).alloc (Nat.le_refl _) _
theorem confBlk (w : World) (c : Pl.Conf) : Blk (w.alloc (.cells #[.int .i64 c.kp, .int .i64 c.ki, .int .i64 c.lim, .int .i64 c.sf, .int .i64 c.sl] 23)) w.heap.size 23 (cv c) := Blk.new _ _ _
end Go.Proofs.Ytaaocdgbflifhaa

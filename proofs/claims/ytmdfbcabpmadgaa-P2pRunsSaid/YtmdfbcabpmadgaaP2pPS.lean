/- Both exchanges of layer 39 in memory, side by side. -/
import Derived.Test.YtmdfbcabpmadgaaP2pSim
import Derived.Test.YtmdfbcabpmadgaaOpenOps
namespace Go.Proofs.Ytmdfbcabpmadgaa
open Go.RowKit Go.Lib Go.Maps
/-- the exchange at b, the reference's one at u: with the delays ds in the row that is no older than B -/
structure PS (w W : World) (b u B : Nat) (x : Pl.XS) (y : Pl.YS) (a : Option Addr) (n c : Nat) (ds : List Int) : Prop where
  bel : Below w.heap.size w W
  xb : Blk W b 65 (xA x)
  yb : Blk W u 74 (yA y (.slice a n c))
  own : W.ownsRow B 3 1 (.slice a n c) n (ds.map (Value.int .i64))
  hB : B ≤ W.heap.size
  hb : w.heap.size ≤ b ∧ b < B
  hu : w.heap.size ≤ u ∧ u < B
  hbu : b ≠ u
section
variable {w W W' : World} {b u B : Nat} {x x' : Pl.XS} {y y' : Pl.YS} {a a' : Option Addr} {n c n' c' : Nat} {ds ds' : List Int}
theorem PS.on (h : PS w W b u B x y a n c ds) (k : Below W.heap.size W W') : PS w W' b u B x y a n c ds :=
  ⟨bel_on h.bel k, h.xb.below_ k, h.yb.below_ k, h.own.kept (only_of_below k none) (by cases a <;> simp [Value.ownBlock]), Nat.le_trans h.hB k.size, h.hb, h.hu, h.hbu⟩
theorem PS.drewN (h : PS w W b u B x y a n c ds) (m : Nat) : PS w (W.drewN m) b u B x y a n c ds := ⟨below_drewN h.bel m, h.xb.drewN m, h.yb.drewN m, h.own, h.hB, h.hb, h.hu, h.hbu⟩
theorem PS.turnX (h : PS w W b u B x y a n c ds) (hb : Blk W' b 65 (xA x')) (k : W.grownBy W' (some b)) : PS w W' b u B x' y a n c ds :=
  ⟨Below.only h.bel k h.hb.1 h.bel.size, hb, h.yb.grown k (fun e => by injection e with e; exact h.hbu e.symm), h.own.kept k (Or.inr (fun e => by have := (h.own.lt b e).1; have := h.hb.2; omega)), Nat.le_trans h.hB k.size, h.hb, h.hu, h.hbu⟩
theorem PS.turnY (h : PS w W b u B x y a n c ds) (hu : Blk W' u 74 (yA y' (.slice a n c))) (k : W.grownBy W' (some u)) : PS w W' b u B x y' a n c ds :=
  ⟨Below.only h.bel k h.hu.1 h.bel.size, h.xb.grown k (fun e => by injection e with e; exact h.hbu e), hu, h.own.kept k (Or.inr (fun e => by have := (h.own.lt u e).1; have := h.hu.2; omega)), Nat.le_trans h.hB k.size, h.hb, h.hu, h.hbu⟩
theorem PS.turnF (h : PS w W b u B x y a n c ds) (hu : Blk W' u 74 (yA y' (.slice a' n' c'))) (ho : W'.ownsRow B 3 1 (.slice a' n' c') n' (ds'.map (Value.int .i64))) (k : Gr2 W W' u (Value.slice a n c).ownBlock) : PS w W' b u B x y' a' n' c' ds' := by
  have hB := h.hb
  have hU := h.hu
  have hlt := h.bel.size
  have key : ∀ i, i < W.heap.size → i ≠ u → i < B → W'.heap[i]? = W.heap[i]? := fun i hi hu hiB => k.block i hi hu (fun e => by have := (h.own.lt i e.symm).1; omega)
  refine ⟨⟨k.os.trans h.bel.os, k.tape.trans h.bel.tape, k.output.trans h.bel.output, Nat.le_trans h.bel.size k.size, fun i hi => ?_⟩, ?_, hu, ho, Nat.le_trans h.hB k.size, h.hb, h.hu, h.hbu⟩
  · exact (key i (by omega) (by omega) (by omega)).trans (h.bel.block i hi)
  · exact (key b h.xb.lt h.hbu hB.2).trans h.xb
end
end Go.Proofs.Ytmdfbcabpmadgaa

/- Small laws on what was there, for the walks of the statements. -/
import Derived.Test.YtnlfkafebbfenaaBoxes
namespace Go.Proofs.Ytnlfkafebbfenaa
open Go.RowKit
theorem bel_then {w W W' : World} {o : Obj} (h : Below w.heap.size w W) (k : Below (W.alloc o).heap.size (W.alloc o) W') : Below w.heap.size w W' :=
  h.trans (((Below.refl _ _).alloc (Nat.le_refl _) o).trans (k.mono (by simp)) |>.mono h.size)
theorem bel_on {w W W' : World} (h : Below w.heap.size w W) (k : Below W.heap.size W W') : Below w.heap.size w W' := h.trans (k.mono h.size)
theorem Blk.then_ {W W' : World} {g : Nat} {t : TypeId} {cs : Array Value} {o : Obj} (h : Blk W g t cs) (k : Below (W.alloc o).heap.size (W.alloc o) W') : Blk W' g t cs := (h.alloc o).below_ k
theorem blk_new {W W' : World} {t : TypeId} {cs : Array Value} (k : Below (W.alloc (.cells cs t)).heap.size (W.alloc (.cells cs t)) W') : Blk W' W.heap.size t cs := (Blk.new W t cs).below_ k
end Go.Proofs.Ytnlfkafebbfenaa

/- Words for the laws of layer 10: the parameters' boxes. -/
import Derived.Test.YtcdholgafojjoaaClockAwake
namespace Go.Proofs.Ytcdholgafojjoaa
open Go.RowKit Go.Lib

/-- the box of a call, first behind what was there -/
def OpB (w W : World) (k r x y : Int) : Prop := Below w.heap.size w W ∧ Blk W w.heap.size 38 #[.int .i64 k, .int .i64 r, .int .i64 x, .int .i64 y]
section
variable {w W W' : World} {k r x y : Int}
theorem opB_mk (w : World) (k r x y : Int) : OpB w (w.alloc (.cells #[.int .i64 k, .int .i64 r, .int .i64 x, .int .i64 y] 38)) k r x y := ⟨bel_bx w _, Blk.new w _ _⟩
theorem OpB.on (h : OpB w W k r x y) (b : Below W.heap.size W W') : OpB w W' k r x y := ⟨bel_on h.1 b, h.2.below_ b⟩
theorem OpB.drew (h : OpB w W k r x y) : OpB w W.drew k r x y := ⟨h.1.drew, h.2.drew⟩
theorem OpB.cells (h : OpB w W k r x y) : W.cell? ⟨w.heap.size, 0, none⟩ = some (.int .i64 k) ∧ W.cell? ⟨w.heap.size, 1, none⟩ = some (.int .i64 r) ∧ W.cell? ⟨w.heap.size, 2, none⟩ = some (.int .i64 x) ∧ W.cell? ⟨w.heap.size, 3, none⟩ = some (.int .i64 y) :=
  ⟨h.2.cell 0, h.2.cell 1, h.2.cell 2, h.2.cell 3⟩
/-- the box of a state, first behind what was there -/
def StB (w W : World) (s : Pl.CS) : Prop := Below w.heap.size w W ∧ Blk W w.heap.size 23 (csA s)
theorem stB_mk (w : World) (s : Pl.CS) : StB w (w.alloc (.cells (csA s) 23)) s := ⟨bel_bx w _, Blk.new w _ _⟩
theorem StB.on {s : Pl.CS} (h : StB w W s) (b : Below W.heap.size W W') : StB w W' s := ⟨bel_on h.1 b, h.2.below_ b⟩
theorem StB.drew {s : Pl.CS} (h : StB w W s) : StB w W.drew s := ⟨h.1.drew, h.2.drew⟩
/-- the boxes of a state and of a call -/
def SoB (w W : World) (s : Pl.CS) (k r x y : Int) : Prop := Below w.heap.size w W ∧ Blk W w.heap.size 23 (csA s) ∧ Blk W (w.heap.size + 1) 38 #[.int .i64 k, .int .i64 r, .int .i64 x, .int .i64 y]
theorem soB_mk (w : World) (s : Pl.CS) (k r x y : Int) : SoB w ((w.alloc (.cells (csA s) 23)).alloc (.cells #[.int .i64 k, .int .i64 r, .int .i64 x, .int .i64 y] 38)) s k r x y :=
  ⟨bel_more (bel_bx w _) _, (Blk.new w _ _).alloc _, by have := Blk.new (w.alloc (.cells (csA s) 23)) 38 #[.int .i64 k, .int .i64 r, .int .i64 x, .int .i64 y]; simpa using this⟩
theorem SoB.on {s : Pl.CS} (h : SoB w W s k r x y) (b : Below W.heap.size W W') : SoB w W' s k r x y := ⟨bel_on h.1 b, h.2.1.below_ b, h.2.2.below_ b⟩
theorem SoB.drew {s : Pl.CS} (h : SoB w W s k r x y) : SoB w W.drew s k r x y := ⟨h.1.drew, h.2.1.drew, h.2.2.drew⟩
theorem SoB.op {s : Pl.CS} (h : SoB w W s k r x y) : W.cell? ⟨w.heap.size + 1, 0, none⟩ = some (.int .i64 k) ∧ W.cell? ⟨w.heap.size + 1, 1, none⟩ = some (.int .i64 r) ∧ W.cell? ⟨w.heap.size + 1, 2, none⟩ = some (.int .i64 x) ∧ W.cell? ⟨w.heap.size + 1, 3, none⟩ = some (.int .i64 y) :=
  ⟨h.2.2.cell 0, h.2.2.cell 1, h.2.2.cell 2, h.2.2.cell 3⟩
/-- a change of a clock that was laid later -/
theorem SoB.turn {s n : Pl.CS} {T : TypeId} {b : Nat} (h : SoB w W s k r x y) (l : LeftT T b n W W') (hb : w.heap.size + 2 ≤ b) : SoB w W' s k r x y :=
  ⟨Below.only h.1 l.2 (by omega) h.1.size, h.2.1.grown l.2 (fun e => by injection e with e; omega), h.2.2.grown l.2 (fun e => by injection e with e; omega)⟩
end
end Go.Proofs.Ytcdholgafojjoaa

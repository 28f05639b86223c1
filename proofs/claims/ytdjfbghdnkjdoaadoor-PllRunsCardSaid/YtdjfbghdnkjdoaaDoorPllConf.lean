/- What the listed variable gives: its five cells; a world that holds it. -/
import Derived.Test.YtdjfbghdnkjdoaaDoorPll6
import Derived.Test.YtdjfbghdnkjdoaaDoorOpenInts
import Derived.Test.YtdjfbghdnkjdoaaDoorCards
import Derived.Test.YtdjfbghdnkjdoaaDoorTie
import Derived.WalkKit
import Derived.ProofKit
import Derived.OpenShut
import Derived.Deep.DeepHandedRow
import Derived.Lib.LaidTab
namespace Go.Proofs.YtdjfbghdnkjdoaaDoor
open Go.ChangeShapes Go.WideShapes Go.ChangeAt Go.RowKit

theorem own : ownKnob Tryd.prog.godebug = none := by kernel_rfl
theorem gConf : Tryd.prog.globalNamed "timesync/timesynclaw13.conf" = some 0 := by kernel_rfl
theorem tConf : (Tryd.prog.globals[0]?).map (·.type) = some 23 := by kernel_rfl
theorem laidOut : laidOutB Tryd.prog = true := by kernel_rfl

theorem confAt_of {W : World} (h : laidMetH Tryd.prog [("timesync/timesynclaw13.conf", Rows.laid_timesync_timesynclaw13_conf)] W) : ConfAt W := by
  obtain ⟨ps, ⟨g', t', cs, fuel, p, q, hg', ht', hvar, hd, _, _⟩, _⟩ := h
  obtain rfl := Option.some.inj (gConf.symm.trans hg')
  obtain rfl := Option.some.inj (tConf.symm.trans ht')
  obtain ⟨l⟩ := cs
  obtain ⟨xs, n, _, hx, hl, hlen, hf⟩ := DataW.trod_struct Tryd.underlying23 hd
  have hc : Tryd.prog.cellsOf 23 = 5 := by kernel_rfl
  rw [hc] at hl
  have cell := fun i => World.var?_cell hg' hvar i
  obtain ⟨a0, a1, a2, a3, a4, rfl⟩ := list5 (show l.length = 5 from hl)
  have c3 : Tryd.prog.cellsOf 3 = 1 := by kernel_rfl
  simp only [Prod.mk.injEq] at hx
  have hx1 := hx.1
  match xs, hlen, hx1, hf with
  | [x0, x1, x2, x3, x4], _, hx1, hf =>
    have h0 := hf 0 _ rfl
    have h1 := hf 1 _ rfl
    have h2 := hf 2 _ rfl
    have h3 := hf 3 _ rfl
    have h4 := hf 4 _ rfl
    simp only [Rows.laid_timesync_timesynclaw13_conf, List.map_cons, List.map_nil, DataW.agg.injEq, List.cons.injEq] at hx1
    obtain ⟨k0, p0, e0, _⟩ := DataW.trod_int Tryd.underlying3 (show DataW.trod _ Tryd.prog W 0 _ false n 3 (([a0, a1, a2, a3, a4].drop 0).take (Tryd.prog.cellsOf 3)) = some x0 from h0)
    obtain ⟨k1, p1, e1, _⟩ := DataW.trod_int Tryd.underlying3 (show DataW.trod _ Tryd.prog W 0 _ false n 3 (([a0, a1, a2, a3, a4].drop 1).take (Tryd.prog.cellsOf 3)) = some x1 from h1)
    obtain ⟨k2, p2, e2, _⟩ := DataW.trod_int Tryd.underlying3 (show DataW.trod _ Tryd.prog W 0 _ false n 3 (([a0, a1, a2, a3, a4].drop 2).take (Tryd.prog.cellsOf 3)) = some x2 from h2)
    obtain ⟨k3, p3, e3, _⟩ := DataW.trod_int Tryd.underlying3 (show DataW.trod _ Tryd.prog W 0 _ false n 3 (([a0, a1, a2, a3, a4].drop 3).take (Tryd.prog.cellsOf 3)) = some x3 from h3)
    obtain ⟨k4, p4, e4, _⟩ := DataW.trod_int Tryd.underlying3 (show DataW.trod _ Tryd.prog W 0 _ false n 3 (([a0, a1, a2, a3, a4].drop 4).take (Tryd.prog.cellsOf 3)) = some x4 from h4)
    rw [e0, e1, e2, e3, e4] at hx1
    simp at hx1
    obtain ⟨rfl, rfl, rfl, rfl, rfl⟩ := hx1
    rw [c3] at p0 p1 p2 p3 p4
    simp at p0 p1 p2 p3 p4
    have q0 := cell 0
    have q1 := cell 1
    have q2 := cell 2
    have q3 := cell 3
    have q4 := cell 4
    simp at q0 q1 q2 q3 q4
    rw [p0] at q0
    rw [p1] at q1
    rw [p2] at q2
    rw [p3] at q3
    rw [p4] at q4
    refine ⟨?_, q0, q1, q2, q3, q4⟩
    have := World.block_lt_of_cell? W ⟨0, 0, none⟩ q0
    exact this

/-- A world for the witness: the settled one, the listed variable holding what its initialiser lays. -/
noncomputable def laidWorld (os : Os) : World :=
  { World.holding Tryd.prog os ⟨#[], #[], []⟩ with heap := (World.holding Tryd.prog os ⟨#[], #[], []⟩).heap.modify 0 fun
      | .cells _ t frozen => .cells #[.int .i64 3, .int .i64 17, .int .i64 128000000, .int .i64 900, .int .i64 500000] t frozen
      | o => o }
end Go.Proofs.YtdjfbghdnkjdoaaDoor

/-
  No cell of these rows narrows 'for every input' (looked for: loops, veiled, ifaces, maps, wideKeys, modest, calm, conditions, laid).
  DERIVED. THE GIVEN ROWS OF THIS SEAT. 8 by the template 'for every input the law returns true; each argument reads behind the call as it read before'; 0 by the template 'total and deterministic' (their statements: YtcdholgafojjoaaTotals.lean).
  GIVEN WITH THE SEED: the statements are not yours to turn. If you find one false, say at which input.
  Laid BY PROGRAM, IN A SANDBOX (cutbox-rows.mjs): the forced cells as the released guide's own fill.sh prints them over the translation d64c38abed8a6ca1… (all of the seat's roots in one cut). By AI agents, Wed Nov 11 2026. No macro, syntax, notation, axiom, sorry.
-/
import Derived.Test.YtcdholgafojjoaaChecked
import GoSem.Claim
import GoSem.ClaimJoined
import GoSem.ClaimMapViews
import Derived.JoinedTies
import Derived.KernelRfl
namespace Go.Proofs.Ytcdholgafojjoaa
/- THE CELL 'sum', in the pinned program and in every row, IS THE sha256 OF THE DUMP (.gsa) THAT YtcdholgafojjoaaProg.lean LOADS. Nothing in Lean hashes anything: it is a label: what it is worth is what the hold of that sum in a sandbox is worth. -/
noncomputable def Try.pinned : Pinned := { name := "ytcdholgafojjoaa", sum := "d64c38abed8a6ca12b63f4cdba520e6ae01c872fbbd80a7ed2d23c80da5c04b1", checked := Try.checked }
namespace Rows
def none {H : Type} : Left H := { results := [], args := [] }

/-- 'timesynclaw10.SysclockStates': WHATEVER THE INPUT: true; the input reads as it did. -/
def sysclockStatesSpec : ChangeSpec := { name := "sysclockStates", fn := fun _ => fun
  | [d] => { results := [.lit (.bool true)], args := [d] }
  | _ => none }
def sysclockStatesRow : OpenClaim := { program := "ytcdholgafojjoaa", sum := "d64c38abed8a6ca12b63f4cdba520e6ae01c872fbbd80a7ed2d23c80da5c04b1", func := "timesync/timesynclaw10.SysclockStates", spec := "sysclockStates", unfollowed := true, recurses := true, named := ["math/bits.divideError", "math/bits.overflowError"], apart := false }
def SysclockStatesSaid : Prop := sysclockStatesRow.holds Try.pinned (OpenSpec.ofChange sysclockStatesSpec)

/-- ITS FALSE NEIGHBOUR: 'it returns false'. Refute it at one input. -/
def sysclockStatesWrong : ChangeSpec := { name := "sysclockStates", fn := fun _ => fun
  | [d] => { results := [.lit (.bool false)], args := [d] }
  | _ => none }
def SysclockStatesWrongFalsely : Prop := sysclockStatesRow.holds Try.pinned (OpenSpec.ofChange sysclockStatesWrong)

/-- 'timesynclaw10.SysclockRuns': WHATEVER THE INPUT: true; the input reads as it did. -/
def sysclockRunsSpec : ChangeSpec := { name := "sysclockRuns", fn := fun _ => fun
  | [d1, d2] => { results := [.lit (.bool true)], args := [d1, d2] }
  | _ => none }
def sysclockRunsRow : OpenClaim := { program := "ytcdholgafojjoaa", sum := "d64c38abed8a6ca12b63f4cdba520e6ae01c872fbbd80a7ed2d23c80da5c04b1", func := "timesync/timesynclaw10.SysclockRuns", spec := "sysclockRuns", unfollowed := true, recurses := true, named := ["math/bits.divideError", "math/bits.overflowError"], apart := false }
def SysclockRunsSaid : Prop := sysclockRunsRow.holds Try.pinned (OpenSpec.ofChange sysclockRunsSpec)

/-- ITS FALSE NEIGHBOUR: 'it returns false'. Refute it at one input. -/
def sysclockRunsWrong : ChangeSpec := { name := "sysclockRuns", fn := fun _ => fun
  | [d1, d2] => { results := [.lit (.bool false)], args := [d1, d2] }
  | _ => none }
def SysclockRunsWrongFalsely : Prop := sysclockRunsRow.holds Try.pinned (OpenSpec.ofChange sysclockRunsWrong)

/-- 'timesynclaw10.SysclockMonotone': WHATEVER THE INPUT: true; the input reads as it did. -/
def sysclockMonotoneSpec : ChangeSpec := { name := "sysclockMonotone", fn := fun _ => fun
  | [d1, d2] => { results := [.lit (.bool true)], args := [d1, d2] }
  | _ => none }
def sysclockMonotoneRow : OpenClaim := { program := "ytcdholgafojjoaa", sum := "d64c38abed8a6ca12b63f4cdba520e6ae01c872fbbd80a7ed2d23c80da5c04b1", func := "timesync/timesynclaw10.SysclockMonotone", spec := "sysclockMonotone", unfollowed := true, recurses := true, named := ["math/bits.divideError", "math/bits.overflowError"], apart := false }
def SysclockMonotoneSaid : Prop := sysclockMonotoneRow.holds Try.pinned (OpenSpec.ofChange sysclockMonotoneSpec)

/-- ITS FALSE NEIGHBOUR: 'it returns false'. Refute it at one input. -/
def sysclockMonotoneWrong : ChangeSpec := { name := "sysclockMonotone", fn := fun _ => fun
  | [d1, d2] => { results := [.lit (.bool false)], args := [d1, d2] }
  | _ => none }
def SysclockMonotoneWrongFalsely : Prop := sysclockMonotoneRow.holds Try.pinned (OpenSpec.ofChange sysclockMonotoneWrong)

/-- 'timesynclaw10.SysclockContinuous': WHATEVER THE INPUT: true; the input reads as it did. -/
def sysclockContinuousSpec : ChangeSpec := { name := "sysclockContinuous", fn := fun _ => fun
  | [d1, d2] => { results := [.lit (.bool true)], args := [d1, d2] }
  | _ => none }
def sysclockContinuousRow : OpenClaim := { program := "ytcdholgafojjoaa", sum := "d64c38abed8a6ca12b63f4cdba520e6ae01c872fbbd80a7ed2d23c80da5c04b1", func := "timesync/timesynclaw10.SysclockContinuous", spec := "sysclockContinuous", unfollowed := true, recurses := true, named := ["math/bits.divideError", "math/bits.overflowError"], apart := false }
def SysclockContinuousSaid : Prop := sysclockContinuousRow.holds Try.pinned (OpenSpec.ofChange sysclockContinuousSpec)

/-- ITS FALSE NEIGHBOUR: 'it returns false'. Refute it at one input. -/
def sysclockContinuousWrong : ChangeSpec := { name := "sysclockContinuous", fn := fun _ => fun
  | [d1, d2] => { results := [.lit (.bool false)], args := [d1, d2] }
  | _ => none }
def SysclockContinuousWrongFalsely : Prop := sysclockContinuousRow.holds Try.pinned (OpenSpec.ofChange sysclockContinuousWrong)

/-- 'timesynclaw10.SysclockSlews': WHATEVER THE INPUT: true; the input reads as it did. -/
def sysclockSlewsSpec : ChangeSpec := { name := "sysclockSlews", fn := fun _ => fun
  | [d1, d2, d3] => { results := [.lit (.bool true)], args := [d1, d2, d3] }
  | _ => none }
def sysclockSlewsRow : OpenClaim := { program := "ytcdholgafojjoaa", sum := "d64c38abed8a6ca12b63f4cdba520e6ae01c872fbbd80a7ed2d23c80da5c04b1", func := "timesync/timesynclaw10.SysclockSlews", spec := "sysclockSlews", unfollowed := true, recurses := true, named := ["math/bits.divideError", "math/bits.overflowError"], apart := false }
def SysclockSlewsSaid : Prop := sysclockSlewsRow.holds Try.pinned (OpenSpec.ofChange sysclockSlewsSpec)

/-- ITS FALSE NEIGHBOUR: 'it returns false'. Refute it at one input. -/
def sysclockSlewsWrong : ChangeSpec := { name := "sysclockSlews", fn := fun _ => fun
  | [d1, d2, d3] => { results := [.lit (.bool false)], args := [d1, d2, d3] }
  | _ => none }
def SysclockSlewsWrongFalsely : Prop := sysclockSlewsRow.holds Try.pinned (OpenSpec.ofChange sysclockSlewsWrong)

/-- 'timesynclaw10.SysclockPending': WHATEVER THE INPUT: true; the input reads as it did. -/
def sysclockPendingSpec : ChangeSpec := { name := "sysclockPending", fn := fun _ => fun
  | [d1, d2] => { results := [.lit (.bool true)], args := [d1, d2] }
  | _ => none }
def sysclockPendingRow : OpenClaim := { program := "ytcdholgafojjoaa", sum := "d64c38abed8a6ca12b63f4cdba520e6ae01c872fbbd80a7ed2d23c80da5c04b1", func := "timesync/timesynclaw10.SysclockPending", spec := "sysclockPending", unfollowed := true, recurses := true, named := ["math/bits.divideError", "math/bits.overflowError"], apart := false }
def SysclockPendingSaid : Prop := sysclockPendingRow.holds Try.pinned (OpenSpec.ofChange sysclockPendingSpec)

/-- ITS FALSE NEIGHBOUR: 'it returns false'. Refute it at one input. -/
def sysclockPendingWrong : ChangeSpec := { name := "sysclockPending", fn := fun _ => fun
  | [d1, d2] => { results := [.lit (.bool false)], args := [d1, d2] }
  | _ => none }
def SysclockPendingWrongFalsely : Prop := sysclockPendingRow.holds Try.pinned (OpenSpec.ofChange sysclockPendingWrong)

/-- 'timesynclaw10.SysclockRefuses': WHATEVER THE INPUT: true; the input reads as it did. -/
def sysclockRefusesSpec : ChangeSpec := { name := "sysclockRefuses", fn := fun _ => fun
  | [d1, d2] => { results := [.lit (.bool true)], args := [d1, d2] }
  | _ => none }
def sysclockRefusesRow : OpenClaim := { program := "ytcdholgafojjoaa", sum := "d64c38abed8a6ca12b63f4cdba520e6ae01c872fbbd80a7ed2d23c80da5c04b1", func := "timesync/timesynclaw10.SysclockRefuses", spec := "sysclockRefuses", unfollowed := true, recurses := true, named := ["math/bits.divideError", "math/bits.overflowError"], apart := false }
def SysclockRefusesSaid : Prop := sysclockRefusesRow.holds Try.pinned (OpenSpec.ofChange sysclockRefusesSpec)

/-- ITS FALSE NEIGHBOUR: 'it returns false'. Refute it at one input. -/
def sysclockRefusesWrong : ChangeSpec := { name := "sysclockRefuses", fn := fun _ => fun
  | [d1, d2] => { results := [.lit (.bool false)], args := [d1, d2] }
  | _ => none }
def SysclockRefusesWrongFalsely : Prop := sysclockRefusesRow.holds Try.pinned (OpenSpec.ofChange sysclockRefusesWrong)

/-- 'timesynclaw10.SysclockNobody': WHATEVER THE INPUT: true; the input reads as it did. -/
def sysclockNobodySpec : ChangeSpec := { name := "sysclockNobody", fn := fun _ => fun
  | [d] => { results := [.lit (.bool true)], args := [d] }
  | _ => none }
def sysclockNobodyRow : OpenClaim := { program := "ytcdholgafojjoaa", sum := "d64c38abed8a6ca12b63f4cdba520e6ae01c872fbbd80a7ed2d23c80da5c04b1", func := "timesync/timesynclaw10.SysclockNobody", spec := "sysclockNobody", unfollowed := true, recurses := true, named := ["math/bits.divideError", "math/bits.overflowError"], apart := false }
def SysclockNobodySaid : Prop := sysclockNobodyRow.holds Try.pinned (OpenSpec.ofChange sysclockNobodySpec)

/-- ITS FALSE NEIGHBOUR: 'it returns false'. Refute it at one input. -/
def sysclockNobodyWrong : ChangeSpec := { name := "sysclockNobody", fn := fun _ => fun
  | [d] => { results := [.lit (.bool false)], args := [d] }
  | _ => none }
def SysclockNobodyWrongFalsely : Prop := sysclockNobodyRow.holds Try.pinned (OpenSpec.ofChange sysclockNobodyWrong)

/- THE SECOND FORM. 'bulk': how many values and letters a reading holds, each counted each time it is reached (what is shared counts as often as it is met; a slice's spare places count too). A statement '..UptoSaid' is the law's where the arguments, and the package variables that the reading takes, are together of bulk at most 1048576: NARROWER than '..Said'. Prove '..Said' where nothing that the law and all that it calls make is longer than what came in: it says more and counts as full. Else prove '..UptoSaid'. A law counts once. -/
mutual
def uptoBulk {H : Type} : DataW H → Nat
  | .lit (.string bytes) => bytes.length + 1
  | .lit _ => 1
  | .nil => 1
  | .ptr d => uptoBulk d + 1
  | .slice elems spare => uptoBulkAll elems + uptoBulkAll spare + 1
  | .agg parts => uptoBulkAll parts + 1
  | .iface _ d => uptoBulk d + 1
  | .map entries => uptoBulkEntries entries + 1
  | .held _ => 1
def uptoBulkAll {H : Type} : List (DataW H) → Nat
  | [] => 0
  | d :: r => uptoBulk d + uptoBulkAll r
def uptoBulkEntries {H : Type} : List (Lit × DataW H) → Nat
  | [] => 0
  | x :: r => uptoBulkEntry x + uptoBulkEntries r
def uptoBulkEntry {H : Type} : Lit × DataW H → Nat
  | (.string bytes, d) => bytes.length + uptoBulk d + 1
  | (_, d) => uptoBulk d + 1
 end
def uptoSmall : (H : Type) → List (DataW H) → Bool := fun _ ds => decide (uptoBulkAll ds ≤ 1048576)
def OpenSpec.upto (s : _root_.Go.ChangeSpec) : _root_.Go.OpenSpec := { _root_.Go.OpenSpec.ofChange s with cond := some uptoSmall }

/-- 'timesynclaw10.SysclockStates', WHERE WHAT IT READS IS OF BULK AT MOST 1048576: true; the input reads as it did. -/
def sysclockStatesUptoRow : OpenClaim := { program := "ytcdholgafojjoaa", sum := "d64c38abed8a6ca12b63f4cdba520e6ae01c872fbbd80a7ed2d23c80da5c04b1", func := "timesync/timesynclaw10.SysclockStates", spec := "sysclockStates", unfollowed := true, recurses := true, named := ["math/bits.divideError", "math/bits.overflowError"], apart := false, narrowed := true }
def SysclockStatesUptoSaid : Prop := sysclockStatesUptoRow.holds Try.pinned (OpenSpec.upto sysclockStatesSpec)

/-- 'timesynclaw10.SysclockRuns', WHERE WHAT IT READS IS OF BULK AT MOST 1048576: true; the input reads as it did. -/
def sysclockRunsUptoRow : OpenClaim := { program := "ytcdholgafojjoaa", sum := "d64c38abed8a6ca12b63f4cdba520e6ae01c872fbbd80a7ed2d23c80da5c04b1", func := "timesync/timesynclaw10.SysclockRuns", spec := "sysclockRuns", unfollowed := true, recurses := true, named := ["math/bits.divideError", "math/bits.overflowError"], apart := false, narrowed := true }
def SysclockRunsUptoSaid : Prop := sysclockRunsUptoRow.holds Try.pinned (OpenSpec.upto sysclockRunsSpec)

/-- 'timesynclaw10.SysclockMonotone', WHERE WHAT IT READS IS OF BULK AT MOST 1048576: true; the input reads as it did. -/
def sysclockMonotoneUptoRow : OpenClaim := { program := "ytcdholgafojjoaa", sum := "d64c38abed8a6ca12b63f4cdba520e6ae01c872fbbd80a7ed2d23c80da5c04b1", func := "timesync/timesynclaw10.SysclockMonotone", spec := "sysclockMonotone", unfollowed := true, recurses := true, named := ["math/bits.divideError", "math/bits.overflowError"], apart := false, narrowed := true }
def SysclockMonotoneUptoSaid : Prop := sysclockMonotoneUptoRow.holds Try.pinned (OpenSpec.upto sysclockMonotoneSpec)

/-- 'timesynclaw10.SysclockContinuous', WHERE WHAT IT READS IS OF BULK AT MOST 1048576: true; the input reads as it did. -/
def sysclockContinuousUptoRow : OpenClaim := { program := "ytcdholgafojjoaa", sum := "d64c38abed8a6ca12b63f4cdba520e6ae01c872fbbd80a7ed2d23c80da5c04b1", func := "timesync/timesynclaw10.SysclockContinuous", spec := "sysclockContinuous", unfollowed := true, recurses := true, named := ["math/bits.divideError", "math/bits.overflowError"], apart := false, narrowed := true }
def SysclockContinuousUptoSaid : Prop := sysclockContinuousUptoRow.holds Try.pinned (OpenSpec.upto sysclockContinuousSpec)

/-- 'timesynclaw10.SysclockSlews', WHERE WHAT IT READS IS OF BULK AT MOST 1048576: true; the input reads as it did. -/
def sysclockSlewsUptoRow : OpenClaim := { program := "ytcdholgafojjoaa", sum := "d64c38abed8a6ca12b63f4cdba520e6ae01c872fbbd80a7ed2d23c80da5c04b1", func := "timesync/timesynclaw10.SysclockSlews", spec := "sysclockSlews", unfollowed := true, recurses := true, named := ["math/bits.divideError", "math/bits.overflowError"], apart := false, narrowed := true }
def SysclockSlewsUptoSaid : Prop := sysclockSlewsUptoRow.holds Try.pinned (OpenSpec.upto sysclockSlewsSpec)

/-- 'timesynclaw10.SysclockPending', WHERE WHAT IT READS IS OF BULK AT MOST 1048576: true; the input reads as it did. -/
def sysclockPendingUptoRow : OpenClaim := { program := "ytcdholgafojjoaa", sum := "d64c38abed8a6ca12b63f4cdba520e6ae01c872fbbd80a7ed2d23c80da5c04b1", func := "timesync/timesynclaw10.SysclockPending", spec := "sysclockPending", unfollowed := true, recurses := true, named := ["math/bits.divideError", "math/bits.overflowError"], apart := false, narrowed := true }
def SysclockPendingUptoSaid : Prop := sysclockPendingUptoRow.holds Try.pinned (OpenSpec.upto sysclockPendingSpec)

/-- 'timesynclaw10.SysclockRefuses', WHERE WHAT IT READS IS OF BULK AT MOST 1048576: true; the input reads as it did. -/
def sysclockRefusesUptoRow : OpenClaim := { program := "ytcdholgafojjoaa", sum := "d64c38abed8a6ca12b63f4cdba520e6ae01c872fbbd80a7ed2d23c80da5c04b1", func := "timesync/timesynclaw10.SysclockRefuses", spec := "sysclockRefuses", unfollowed := true, recurses := true, named := ["math/bits.divideError", "math/bits.overflowError"], apart := false, narrowed := true }
def SysclockRefusesUptoSaid : Prop := sysclockRefusesUptoRow.holds Try.pinned (OpenSpec.upto sysclockRefusesSpec)

/-- 'timesynclaw10.SysclockNobody', WHERE WHAT IT READS IS OF BULK AT MOST 1048576: true; the input reads as it did. -/
def sysclockNobodyUptoRow : OpenClaim := { program := "ytcdholgafojjoaa", sum := "d64c38abed8a6ca12b63f4cdba520e6ae01c872fbbd80a7ed2d23c80da5c04b1", func := "timesync/timesynclaw10.SysclockNobody", spec := "sysclockNobody", unfollowed := true, recurses := true, named := ["math/bits.divideError", "math/bits.overflowError"], apart := false, narrowed := true }
def SysclockNobodyUptoSaid : Prop := sysclockNobodyUptoRow.holds Try.pinned (OpenSpec.upto sysclockNobodySpec)

end Rows
end Go.Proofs.Ytcdholgafojjoaa

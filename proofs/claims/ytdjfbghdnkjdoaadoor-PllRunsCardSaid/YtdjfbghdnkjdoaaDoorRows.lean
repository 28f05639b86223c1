/-
  NARROWER THAN 'FOR EVERY INPUT', by the rows' own cells (each row's printed sentence says how): PllChecks: laid · PllRuns: laid · PllLimits: laid · PllTicks: laid · PllSpikes: laid · PllFirst: laid · PllNobody: laid.
  DERIVED. THE GIVEN ROWS OF THIS SEAT. 7 by the template 'for every input the law returns true; each argument reads behind the call as it read before'; 0 by the template 'total and deterministic' (their statements: YtdjfbghdnkjdoaaDoorTotals.lean).
  GIVEN WITH THE SEED: the statements are not yours to turn. If you find one false, say at which input.
  Laid BY PROGRAM, IN A SANDBOX (cutbox-rows.mjs): the forced cells as the released guide's own fill.sh prints them over the translation 58c0283fea32287b… (all of the seat's roots in one cut). By AI agents, Wed Nov 11 2026. No macro, syntax, notation, axiom, sorry.
-/
import Derived.Test.YtdjfbghdnkjdoaaDoorChecked
import GoSem.Claim
import GoSem.ClaimJoined
import GoSem.ClaimMapViews
import Derived.JoinedTies
import Derived.KernelRfl
namespace Go.Proofs.YtdjfbghdnkjdoaaDoor
/- THE CELL 'sum', in the pinned program and in every row, IS THE sha256 OF THE DUMP (.gsa) THAT YtdjfbghdnkjdoaaDoorProg.lean LOADS. Nothing in Lean hashes anything: it is a label: what it is worth is what the hold of that sum in a sandbox is worth. -/
noncomputable def Tryd.pinned : Pinned := { name := "ytdjfbghdnkjdoaadoor", sum := "58c0283fea32287b758646b0b7732b0578a3d9106aec73ff83505b0668eb1b86", checked := Tryd.checked }
namespace Rows
def none {H : Type} : Left H := { results := [], args := [] }

/- WHAT THE LISTED PACKAGE-LEVEL VARIABLES READ AS WHEN THE CALL BEGINS. Each datum BY PROGRAM (the guide's laid-datum.mjs) off the statement by which the dump's own 'gosem.cut.vars' lays the variable. In a bare row this is a premise. The card (YtdjfbghdnkjdoaaDoorCards.lean) ties it to the program's text. -/
def laid_timesync_timesynclaw13_conf {H : Type} : DataW H := .agg [.lit (.int .i64 3), .lit (.int .i64 17), .lit (.int .i64 128000000), .lit (.int .i64 900), .lit (.int .i64 500000)]

/-- 'timesynclaw13.PllChecks': WHATEVER THE INPUT: true; the input reads as it did. -/
def pllChecksSpec : ChangeSpec := { name := "pllChecks", fn := fun _ => fun
  | [d] => { results := [.lit (.bool true)], args := [d] }
  | _ => none }
def pllChecksRow : OpenClaim := { program := "ytdjfbghdnkjdoaadoor", sum := "58c0283fea32287b758646b0b7732b0578a3d9106aec73ff83505b0668eb1b86", func := "timesync/timesynclaw13.PllChecks", spec := "pllChecks", named := ["timesync/timesynclaw13.conf", "math/bits.divideError", "math/bits.overflowError"], apart := false, laid := [("timesync/timesynclaw13.conf", laid_timesync_timesynclaw13_conf)] }
def PllChecksSaid : Prop := pllChecksRow.holds Tryd.pinned (OpenSpec.ofChange pllChecksSpec)

/-- ITS FALSE NEIGHBOUR: 'it returns false'. Refute it at one input. -/
def pllChecksWrong : ChangeSpec := { name := "pllChecks", fn := fun _ => fun
  | [d] => { results := [.lit (.bool false)], args := [d] }
  | _ => none }
def PllChecksWrongFalsely : Prop := pllChecksRow.holds Tryd.pinned (OpenSpec.ofChange pllChecksWrong)

/-- 'timesynclaw13.PllRuns': WHATEVER THE INPUT: true; the input reads as it did. -/
def pllRunsSpec : ChangeSpec := { name := "pllRuns", fn := fun _ => fun
  | [d1, d2] => { results := [.lit (.bool true)], args := [d1, d2] }
  | _ => none }
def pllRunsRow : OpenClaim := { program := "ytdjfbghdnkjdoaadoor", sum := "58c0283fea32287b758646b0b7732b0578a3d9106aec73ff83505b0668eb1b86", func := "timesync/timesynclaw13.PllRuns", spec := "pllRuns", named := ["timesync/timesynclaw13.conf", "math/bits.divideError", "math/bits.overflowError"], apart := false, laid := [("timesync/timesynclaw13.conf", laid_timesync_timesynclaw13_conf)] }
def PllRunsSaid : Prop := pllRunsRow.holds Tryd.pinned (OpenSpec.ofChange pllRunsSpec)

/-- ITS FALSE NEIGHBOUR: 'it returns false'. Refute it at one input. -/
def pllRunsWrong : ChangeSpec := { name := "pllRuns", fn := fun _ => fun
  | [d1, d2] => { results := [.lit (.bool false)], args := [d1, d2] }
  | _ => none }
def PllRunsWrongFalsely : Prop := pllRunsRow.holds Tryd.pinned (OpenSpec.ofChange pllRunsWrong)

/-- 'timesynclaw13.PllLimits': WHATEVER THE INPUT: true; the input reads as it did. -/
def pllLimitsSpec : ChangeSpec := { name := "pllLimits", fn := fun _ => fun
  | [d1, d2] => { results := [.lit (.bool true)], args := [d1, d2] }
  | _ => none }
def pllLimitsRow : OpenClaim := { program := "ytdjfbghdnkjdoaadoor", sum := "58c0283fea32287b758646b0b7732b0578a3d9106aec73ff83505b0668eb1b86", func := "timesync/timesynclaw13.PllLimits", spec := "pllLimits", named := ["timesync/timesynclaw13.conf", "math/bits.divideError", "math/bits.overflowError"], apart := false, laid := [("timesync/timesynclaw13.conf", laid_timesync_timesynclaw13_conf)] }
def PllLimitsSaid : Prop := pllLimitsRow.holds Tryd.pinned (OpenSpec.ofChange pllLimitsSpec)

/-- ITS FALSE NEIGHBOUR: 'it returns false'. Refute it at one input. -/
def pllLimitsWrong : ChangeSpec := { name := "pllLimits", fn := fun _ => fun
  | [d1, d2] => { results := [.lit (.bool false)], args := [d1, d2] }
  | _ => none }
def PllLimitsWrongFalsely : Prop := pllLimitsRow.holds Tryd.pinned (OpenSpec.ofChange pllLimitsWrong)

/-- 'timesynclaw13.PllTicks': WHATEVER THE INPUT: true; the input reads as it did. -/
def pllTicksSpec : ChangeSpec := { name := "pllTicks", fn := fun _ => fun
  | [d1, d2, d3] => { results := [.lit (.bool true)], args := [d1, d2, d3] }
  | _ => none }
def pllTicksRow : OpenClaim := { program := "ytdjfbghdnkjdoaadoor", sum := "58c0283fea32287b758646b0b7732b0578a3d9106aec73ff83505b0668eb1b86", func := "timesync/timesynclaw13.PllTicks", spec := "pllTicks", named := ["timesync/timesynclaw13.conf", "math/bits.divideError", "math/bits.overflowError"], apart := false, laid := [("timesync/timesynclaw13.conf", laid_timesync_timesynclaw13_conf)] }
def PllTicksSaid : Prop := pllTicksRow.holds Tryd.pinned (OpenSpec.ofChange pllTicksSpec)

/-- ITS FALSE NEIGHBOUR: 'it returns false'. Refute it at one input. -/
def pllTicksWrong : ChangeSpec := { name := "pllTicks", fn := fun _ => fun
  | [d1, d2, d3] => { results := [.lit (.bool false)], args := [d1, d2, d3] }
  | _ => none }
def PllTicksWrongFalsely : Prop := pllTicksRow.holds Tryd.pinned (OpenSpec.ofChange pllTicksWrong)

/-- 'timesynclaw13.PllSpikes': WHATEVER THE INPUT: true; the input reads as it did. -/
def pllSpikesSpec : ChangeSpec := { name := "pllSpikes", fn := fun _ => fun
  | [d1, d2] => { results := [.lit (.bool true)], args := [d1, d2] }
  | _ => none }
def pllSpikesRow : OpenClaim := { program := "ytdjfbghdnkjdoaadoor", sum := "58c0283fea32287b758646b0b7732b0578a3d9106aec73ff83505b0668eb1b86", func := "timesync/timesynclaw13.PllSpikes", spec := "pllSpikes", named := ["timesync/timesynclaw13.conf", "math/bits.divideError", "math/bits.overflowError"], apart := false, laid := [("timesync/timesynclaw13.conf", laid_timesync_timesynclaw13_conf)] }
def PllSpikesSaid : Prop := pllSpikesRow.holds Tryd.pinned (OpenSpec.ofChange pllSpikesSpec)

/-- ITS FALSE NEIGHBOUR: 'it returns false'. Refute it at one input. -/
def pllSpikesWrong : ChangeSpec := { name := "pllSpikes", fn := fun _ => fun
  | [d1, d2] => { results := [.lit (.bool false)], args := [d1, d2] }
  | _ => none }
def PllSpikesWrongFalsely : Prop := pllSpikesRow.holds Tryd.pinned (OpenSpec.ofChange pllSpikesWrong)

/-- 'timesynclaw13.PllFirst': WHATEVER THE INPUT: true; the input reads as it did. -/
def pllFirstSpec : ChangeSpec := { name := "pllFirst", fn := fun _ => fun
  | [d1, d2, d3] => { results := [.lit (.bool true)], args := [d1, d2, d3] }
  | _ => none }
def pllFirstRow : OpenClaim := { program := "ytdjfbghdnkjdoaadoor", sum := "58c0283fea32287b758646b0b7732b0578a3d9106aec73ff83505b0668eb1b86", func := "timesync/timesynclaw13.PllFirst", spec := "pllFirst", named := ["timesync/timesynclaw13.conf", "math/bits.divideError", "math/bits.overflowError"], apart := false, laid := [("timesync/timesynclaw13.conf", laid_timesync_timesynclaw13_conf)] }
def PllFirstSaid : Prop := pllFirstRow.holds Tryd.pinned (OpenSpec.ofChange pllFirstSpec)

/-- ITS FALSE NEIGHBOUR: 'it returns false'. Refute it at one input. -/
def pllFirstWrong : ChangeSpec := { name := "pllFirst", fn := fun _ => fun
  | [d1, d2, d3] => { results := [.lit (.bool false)], args := [d1, d2, d3] }
  | _ => none }
def PllFirstWrongFalsely : Prop := pllFirstRow.holds Tryd.pinned (OpenSpec.ofChange pllFirstWrong)

/-- 'timesynclaw13.PllNobody': WHATEVER THE INPUT: true; the input reads as it did. -/
def pllNobodySpec : ChangeSpec := { name := "pllNobody", fn := fun _ => fun
  | [d1, d2, d3] => { results := [.lit (.bool true)], args := [d1, d2, d3] }
  | _ => none }
def pllNobodyRow : OpenClaim := { program := "ytdjfbghdnkjdoaadoor", sum := "58c0283fea32287b758646b0b7732b0578a3d9106aec73ff83505b0668eb1b86", func := "timesync/timesynclaw13.PllNobody", spec := "pllNobody", named := ["math/bits.divideError", "math/bits.overflowError", "timesync/timesynclaw13.conf"], apart := false, laid := [("timesync/timesynclaw13.conf", laid_timesync_timesynclaw13_conf)] }
def PllNobodySaid : Prop := pllNobodyRow.holds Tryd.pinned (OpenSpec.ofChange pllNobodySpec)

/-- ITS FALSE NEIGHBOUR: 'it returns false'. Refute it at one input. -/
def pllNobodyWrong : ChangeSpec := { name := "pllNobody", fn := fun _ => fun
  | [d1, d2, d3] => { results := [.lit (.bool false)], args := [d1, d2, d3] }
  | _ => none }
def PllNobodyWrongFalsely : Prop := pllNobodyRow.holds Tryd.pinned (OpenSpec.ofChange pllNobodyWrong)

/- THE SECOND FORM. 'bulk': how many values and letters a reading holds, each counted each time it is reached (what is shared counts as often as it is met; a slice's spare places count too). A statement '..UptoSaid' is the law's where the arguments, and the package variables that the reading takes, are together of bulk at most 1048576: NARROWER than '..Said'. Prove '..Said' where nothing that the law and all that it calls make is longer than what came in: it says more and counts as full. Else prove '..UptoSaid'. A law counts once. -/
mutual
def uptoBulk {H : Type} : DataW H → Nat
  | .lit (.string bytes) => bytes.length + 1
  | .lit _ => 1
  | .nil => 1
  | .ptr d => uptoBulk d + 1
  | .slice elems spare => uptoBulkAll elems + uptoBulkAll spare + 1
  | .agg parts => uptoBulkAll parts + 1
  | .iface _ d => uptoBulk d + 1
  | .map entries => uptoBulkEntries entries + 1
  | .held _ => 1
def uptoBulkAll {H : Type} : List (DataW H) → Nat
  | [] => 0
  | d :: r => uptoBulk d + uptoBulkAll r
def uptoBulkEntries {H : Type} : List (Lit × DataW H) → Nat
  | [] => 0
  | x :: r => uptoBulkEntry x + uptoBulkEntries r
def uptoBulkEntry {H : Type} : Lit × DataW H → Nat
  | (.string bytes, d) => bytes.length + uptoBulk d + 1
  | (_, d) => uptoBulk d + 1
 end
def uptoSmall : (H : Type) → List (DataW H) → Bool := fun _ ds => decide (uptoBulkAll ds ≤ 1048576)
def OpenSpec.upto (s : _root_.Go.ChangeSpec) : _root_.Go.OpenSpec := { _root_.Go.OpenSpec.ofChange s with cond := some uptoSmall }

/-- 'timesynclaw13.PllChecks', WHERE WHAT IT READS IS OF BULK AT MOST 1048576: true; the input reads as it did. -/
def pllChecksUptoRow : OpenClaim := { program := "ytdjfbghdnkjdoaadoor", sum := "58c0283fea32287b758646b0b7732b0578a3d9106aec73ff83505b0668eb1b86", func := "timesync/timesynclaw13.PllChecks", spec := "pllChecks", named := ["timesync/timesynclaw13.conf", "math/bits.divideError", "math/bits.overflowError"], apart := false, laid := [("timesync/timesynclaw13.conf", laid_timesync_timesynclaw13_conf)], narrowed := true }
def PllChecksUptoSaid : Prop := pllChecksUptoRow.holds Tryd.pinned (OpenSpec.upto pllChecksSpec)

/-- 'timesynclaw13.PllRuns', WHERE WHAT IT READS IS OF BULK AT MOST 1048576: true; the input reads as it did. -/
def pllRunsUptoRow : OpenClaim := { program := "ytdjfbghdnkjdoaadoor", sum := "58c0283fea32287b758646b0b7732b0578a3d9106aec73ff83505b0668eb1b86", func := "timesync/timesynclaw13.PllRuns", spec := "pllRuns", named := ["timesync/timesynclaw13.conf", "math/bits.divideError", "math/bits.overflowError"], apart := false, laid := [("timesync/timesynclaw13.conf", laid_timesync_timesynclaw13_conf)], narrowed := true }
def PllRunsUptoSaid : Prop := pllRunsUptoRow.holds Tryd.pinned (OpenSpec.upto pllRunsSpec)

/-- 'timesynclaw13.PllLimits', WHERE WHAT IT READS IS OF BULK AT MOST 1048576: true; the input reads as it did. -/
def pllLimitsUptoRow : OpenClaim := { program := "ytdjfbghdnkjdoaadoor", sum := "58c0283fea32287b758646b0b7732b0578a3d9106aec73ff83505b0668eb1b86", func := "timesync/timesynclaw13.PllLimits", spec := "pllLimits", named := ["timesync/timesynclaw13.conf", "math/bits.divideError", "math/bits.overflowError"], apart := false, laid := [("timesync/timesynclaw13.conf", laid_timesync_timesynclaw13_conf)], narrowed := true }
def PllLimitsUptoSaid : Prop := pllLimitsUptoRow.holds Tryd.pinned (OpenSpec.upto pllLimitsSpec)

/-- 'timesynclaw13.PllTicks', WHERE WHAT IT READS IS OF BULK AT MOST 1048576: true; the input reads as it did. -/
def pllTicksUptoRow : OpenClaim := { program := "ytdjfbghdnkjdoaadoor", sum := "58c0283fea32287b758646b0b7732b0578a3d9106aec73ff83505b0668eb1b86", func := "timesync/timesynclaw13.PllTicks", spec := "pllTicks", named := ["timesync/timesynclaw13.conf", "math/bits.divideError", "math/bits.overflowError"], apart := false, laid := [("timesync/timesynclaw13.conf", laid_timesync_timesynclaw13_conf)], narrowed := true }
def PllTicksUptoSaid : Prop := pllTicksUptoRow.holds Tryd.pinned (OpenSpec.upto pllTicksSpec)

/-- 'timesynclaw13.PllSpikes', WHERE WHAT IT READS IS OF BULK AT MOST 1048576: true; the input reads as it did. -/
def pllSpikesUptoRow : OpenClaim := { program := "ytdjfbghdnkjdoaadoor", sum := "58c0283fea32287b758646b0b7732b0578a3d9106aec73ff83505b0668eb1b86", func := "timesync/timesynclaw13.PllSpikes", spec := "pllSpikes", named := ["timesync/timesynclaw13.conf", "math/bits.divideError", "math/bits.overflowError"], apart := false, laid := [("timesync/timesynclaw13.conf", laid_timesync_timesynclaw13_conf)], narrowed := true }
def PllSpikesUptoSaid : Prop := pllSpikesUptoRow.holds Tryd.pinned (OpenSpec.upto pllSpikesSpec)

/-- 'timesynclaw13.PllFirst', WHERE WHAT IT READS IS OF BULK AT MOST 1048576: true; the input reads as it did. -/
def pllFirstUptoRow : OpenClaim := { program := "ytdjfbghdnkjdoaadoor", sum := "58c0283fea32287b758646b0b7732b0578a3d9106aec73ff83505b0668eb1b86", func := "timesync/timesynclaw13.PllFirst", spec := "pllFirst", named := ["timesync/timesynclaw13.conf", "math/bits.divideError", "math/bits.overflowError"], apart := false, laid := [("timesync/timesynclaw13.conf", laid_timesync_timesynclaw13_conf)], narrowed := true }
def PllFirstUptoSaid : Prop := pllFirstUptoRow.holds Tryd.pinned (OpenSpec.upto pllFirstSpec)

/-- 'timesynclaw13.PllNobody', WHERE WHAT IT READS IS OF BULK AT MOST 1048576: true; the input reads as it did. -/
def pllNobodyUptoRow : OpenClaim := { program := "ytdjfbghdnkjdoaadoor", sum := "58c0283fea32287b758646b0b7732b0578a3d9106aec73ff83505b0668eb1b86", func := "timesync/timesynclaw13.PllNobody", spec := "pllNobody", named := ["math/bits.divideError", "math/bits.overflowError", "timesync/timesynclaw13.conf"], apart := false, laid := [("timesync/timesynclaw13.conf", laid_timesync_timesynclaw13_conf)], narrowed := true }
def PllNobodyUptoSaid : Prop := pllNobodyUptoRow.holds Tryd.pinned (OpenSpec.upto pllNobodySpec)

end Rows
end Go.Proofs.YtdjfbghdnkjdoaaDoor

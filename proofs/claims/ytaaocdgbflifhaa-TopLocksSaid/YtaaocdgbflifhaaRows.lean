/-
  No cell of these rows narrows 'for every input' (looked for: loops, veiled, ifaces, maps, wideKeys, modest, calm, conditions, laid).
  DERIVED. THE GIVEN ROWS OF THIS SEAT. 9 by the template 'for every input the law returns true; each argument reads behind the call as it read before'; 0 by the template 'total and deterministic' (their statements: YtaaocdgbflifhaaTotals.lean).
  GIVEN WITH THE SEED: the statements are not yours to turn. If you find one false, say at which input.
  Laid BY PROGRAM, IN A SANDBOX (cutbox-rows.mjs): the forced cells as the released guide's own fill.sh prints them over the translation bd34858cc4ff3ef7… (all of the seat's roots in one cut). By AI agents, Wed Nov 11 2026. No macro, syntax, notation, axiom, sorry.
-/
import Derived.Test.YtaaocdgbflifhaaChecked
import GoSem.Claim
import GoSem.ClaimJoined
import GoSem.ClaimMapViews
import Derived.JoinedTies
import Derived.KernelRfl
namespace Go.Proofs.Ytaaocdgbflifhaa
/- THE CELL 'sum', in the pinned program and in every row, IS THE sha256 OF THE DUMP (.gsa) THAT YtaaocdgbflifhaaProg.lean LOADS. Nothing in Lean hashes anything: it is a label: what it is worth is what the hold of that sum in a sandbox is worth. -/
noncomputable def Try.pinned : Pinned := { name := "ytaaocdgbflifhaa", sum := "bd34858cc4ff3ef762851203cee0d057732a3dcd9159f3e0c42dc1418800955c", checked := Try.checked }
namespace Rows
def none {H : Type} : Left H := { results := [], args := [] }

/-- 'timesynclaw12.ServoChecks': WHATEVER THE INPUT: true; the input reads as it did. -/
def servoChecksSpec : ChangeSpec := { name := "servoChecks", fn := fun _ => fun
  | [d] => { results := [.lit (.bool true)], args := [d] }
  | _ => none }
def servoChecksRow : OpenClaim := { program := "ytaaocdgbflifhaa", sum := "bd34858cc4ff3ef762851203cee0d057732a3dcd9159f3e0c42dc1418800955c", func := "timesync/timesynclaw12.ServoChecks", spec := "servoChecks", unfollowed := true, recurses := true, named := ["math/bits.divideError", "math/bits.overflowError"], apart := false }
def ServoChecksSaid : Prop := servoChecksRow.holds Try.pinned (OpenSpec.ofChange servoChecksSpec)

/-- ITS FALSE NEIGHBOUR: 'it returns false'. Refute it at one input. -/
def servoChecksWrong : ChangeSpec := { name := "servoChecks", fn := fun _ => fun
  | [d] => { results := [.lit (.bool false)], args := [d] }
  | _ => none }
def ServoChecksWrongFalsely : Prop := servoChecksRow.holds Try.pinned (OpenSpec.ofChange servoChecksWrong)

/-- 'timesynclaw12.ServoSettles': WHATEVER THE INPUT: true; the input reads as it did. -/
def servoSettlesSpec : ChangeSpec := { name := "servoSettles", fn := fun _ => fun
  | [d] => { results := [.lit (.bool true)], args := [d] }
  | _ => none }
def servoSettlesRow : OpenClaim := { program := "ytaaocdgbflifhaa", sum := "bd34858cc4ff3ef762851203cee0d057732a3dcd9159f3e0c42dc1418800955c", func := "timesync/timesynclaw12.ServoSettles", spec := "servoSettles", unfollowed := true, recurses := true, named := ["math/bits.divideError", "math/bits.overflowError"], apart := false }
def ServoSettlesSaid : Prop := servoSettlesRow.holds Try.pinned (OpenSpec.ofChange servoSettlesSpec)

/-- ITS FALSE NEIGHBOUR: 'it returns false'. Refute it at one input. -/
def servoSettlesWrong : ChangeSpec := { name := "servoSettles", fn := fun _ => fun
  | [d] => { results := [.lit (.bool false)], args := [d] }
  | _ => none }
def ServoSettlesWrongFalsely : Prop := servoSettlesRow.holds Try.pinned (OpenSpec.ofChange servoSettlesWrong)

/-- 'timesynclaw12.ServoRises': WHATEVER THE INPUT: true; the input reads as it did. -/
def servoRisesSpec : ChangeSpec := { name := "servoRises", fn := fun _ => fun
  | [d1, d2, d3, d4, d5] => { results := [.lit (.bool true)], args := [d1, d2, d3, d4, d5] }
  | _ => none }
def servoRisesRow : OpenClaim := { program := "ytaaocdgbflifhaa", sum := "bd34858cc4ff3ef762851203cee0d057732a3dcd9159f3e0c42dc1418800955c", func := "timesync/timesynclaw12.ServoRises", spec := "servoRises", unfollowed := true, recurses := true, named := ["math/bits.divideError", "math/bits.overflowError"], apart := false }
def ServoRisesSaid : Prop := servoRisesRow.holds Try.pinned (OpenSpec.ofChange servoRisesSpec)

/-- ITS FALSE NEIGHBOUR: 'it returns false'. Refute it at one input. -/
def servoRisesWrong : ChangeSpec := { name := "servoRises", fn := fun _ => fun
  | [d1, d2, d3, d4, d5] => { results := [.lit (.bool false)], args := [d1, d2, d3, d4, d5] }
  | _ => none }
def ServoRisesWrongFalsely : Prop := servoRisesRow.holds Try.pinned (OpenSpec.ofChange servoRisesWrong)

/-- 'timesynclaw12.ServoRests': WHATEVER THE INPUT: true; the input reads as it did. -/
def servoRestsSpec : ChangeSpec := { name := "servoRests", fn := fun _ => fun
  | [d1, d2, d3, d4] => { results := [.lit (.bool true)], args := [d1, d2, d3, d4] }
  | _ => none }
def servoRestsRow : OpenClaim := { program := "ytaaocdgbflifhaa", sum := "bd34858cc4ff3ef762851203cee0d057732a3dcd9159f3e0c42dc1418800955c", func := "timesync/timesynclaw12.ServoRests", spec := "servoRests", unfollowed := true, recurses := true, named := ["math/bits.divideError", "math/bits.overflowError"], apart := false }
def ServoRestsSaid : Prop := servoRestsRow.holds Try.pinned (OpenSpec.ofChange servoRestsSpec)

/-- ITS FALSE NEIGHBOUR: 'it returns false'. Refute it at one input. -/
def servoRestsWrong : ChangeSpec := { name := "servoRests", fn := fun _ => fun
  | [d1, d2, d3, d4] => { results := [.lit (.bool false)], args := [d1, d2, d3, d4] }
  | _ => none }
def ServoRestsWrongFalsely : Prop := servoRestsRow.holds Try.pinned (OpenSpec.ofChange servoRestsWrong)

/-- 'timesynclaw12.ServoPlays': WHATEVER THE INPUT: true; the input reads as it did. -/
def servoPlaysSpec : ChangeSpec := { name := "servoPlays", fn := fun _ => fun
  | [d1, d2] => { results := [.lit (.bool true)], args := [d1, d2] }
  | _ => none }
def servoPlaysRow : OpenClaim := { program := "ytaaocdgbflifhaa", sum := "bd34858cc4ff3ef762851203cee0d057732a3dcd9159f3e0c42dc1418800955c", func := "timesync/timesynclaw12.ServoPlays", spec := "servoPlays", unfollowed := true, recurses := true, named := ["math/bits.divideError", "math/bits.overflowError"], apart := false }
def ServoPlaysSaid : Prop := servoPlaysRow.holds Try.pinned (OpenSpec.ofChange servoPlaysSpec)

/-- ITS FALSE NEIGHBOUR: 'it returns false'. Refute it at one input. -/
def servoPlaysWrong : ChangeSpec := { name := "servoPlays", fn := fun _ => fun
  | [d1, d2] => { results := [.lit (.bool false)], args := [d1, d2] }
  | _ => none }
def ServoPlaysWrongFalsely : Prop := servoPlaysRow.holds Try.pinned (OpenSpec.ofChange servoPlaysWrong)

/-- 'timesynclaw12.ServoBounded': WHATEVER THE INPUT: true; the input reads as it did. -/
def servoBoundedSpec : ChangeSpec := { name := "servoBounded", fn := fun _ => fun
  | [d1, d2] => { results := [.lit (.bool true)], args := [d1, d2] }
  | _ => none }
def servoBoundedRow : OpenClaim := { program := "ytaaocdgbflifhaa", sum := "bd34858cc4ff3ef762851203cee0d057732a3dcd9159f3e0c42dc1418800955c", func := "timesync/timesynclaw12.ServoBounded", spec := "servoBounded", unfollowed := true, recurses := true, named := ["math/bits.divideError", "math/bits.overflowError"], apart := false }
def ServoBoundedSaid : Prop := servoBoundedRow.holds Try.pinned (OpenSpec.ofChange servoBoundedSpec)

/-- ITS FALSE NEIGHBOUR: 'it returns false'. Refute it at one input. -/
def servoBoundedWrong : ChangeSpec := { name := "servoBounded", fn := fun _ => fun
  | [d1, d2] => { results := [.lit (.bool false)], args := [d1, d2] }
  | _ => none }
def ServoBoundedWrongFalsely : Prop := servoBoundedRow.holds Try.pinned (OpenSpec.ofChange servoBoundedWrong)

/-- 'timesynclaw12.ServoAgain': WHATEVER THE INPUT: true; the input reads as it did. -/
def servoAgainSpec : ChangeSpec := { name := "servoAgain", fn := fun _ => fun
  | [d1, d2, d3] => { results := [.lit (.bool true)], args := [d1, d2, d3] }
  | _ => none }
def servoAgainRow : OpenClaim := { program := "ytaaocdgbflifhaa", sum := "bd34858cc4ff3ef762851203cee0d057732a3dcd9159f3e0c42dc1418800955c", func := "timesync/timesynclaw12.ServoAgain", spec := "servoAgain", unfollowed := true, recurses := true, named := ["math/bits.divideError", "math/bits.overflowError"], apart := false }
def ServoAgainSaid : Prop := servoAgainRow.holds Try.pinned (OpenSpec.ofChange servoAgainSpec)

/-- ITS FALSE NEIGHBOUR: 'it returns false'. Refute it at one input. -/
def servoAgainWrong : ChangeSpec := { name := "servoAgain", fn := fun _ => fun
  | [d1, d2, d3] => { results := [.lit (.bool false)], args := [d1, d2, d3] }
  | _ => none }
def ServoAgainWrongFalsely : Prop := servoAgainRow.holds Try.pinned (OpenSpec.ofChange servoAgainWrong)

/-- 'timesynclaw12.ServoNobody': WHATEVER THE INPUT: true; the input reads as it did. -/
def servoNobodySpec : ChangeSpec := { name := "servoNobody", fn := fun _ => fun
  | [d1, d2] => { results := [.lit (.bool true)], args := [d1, d2] }
  | _ => none }
def servoNobodyRow : OpenClaim := { program := "ytaaocdgbflifhaa", sum := "bd34858cc4ff3ef762851203cee0d057732a3dcd9159f3e0c42dc1418800955c", func := "timesync/timesynclaw12.ServoNobody", spec := "servoNobody", unfollowed := true, recurses := true, named := ["math/bits.divideError", "math/bits.overflowError"], apart := false }
def ServoNobodySaid : Prop := servoNobodyRow.holds Try.pinned (OpenSpec.ofChange servoNobodySpec)

/-- ITS FALSE NEIGHBOUR: 'it returns false'. Refute it at one input. -/
def servoNobodyWrong : ChangeSpec := { name := "servoNobody", fn := fun _ => fun
  | [d1, d2] => { results := [.lit (.bool false)], args := [d1, d2] }
  | _ => none }
def ServoNobodyWrongFalsely : Prop := servoNobodyRow.holds Try.pinned (OpenSpec.ofChange servoNobodyWrong)

/-- 'timesynctop.TopLocks': WHATEVER THE INPUT: true; the input reads as it did. -/
def topLocksSpec : ChangeSpec := { name := "topLocks", fn := fun _ => fun
  | [d1, d2] => { results := [.lit (.bool true)], args := [d1, d2] }
  | _ => none }
def topLocksRow : OpenClaim := { program := "ytaaocdgbflifhaa", sum := "bd34858cc4ff3ef762851203cee0d057732a3dcd9159f3e0c42dc1418800955c", func := "timesync/timesynctop.TopLocks", spec := "topLocks", unfollowed := true, recurses := true, named := ["math/bits.divideError", "math/bits.overflowError"], apart := false }
def TopLocksSaid : Prop := topLocksRow.holds Try.pinned (OpenSpec.ofChange topLocksSpec)

/-- ITS FALSE NEIGHBOUR: 'it returns false'. Refute it at one input. -/
def topLocksWrong : ChangeSpec := { name := "topLocks", fn := fun _ => fun
  | [d1, d2] => { results := [.lit (.bool false)], args := [d1, d2] }
  | _ => none }
def TopLocksWrongFalsely : Prop := topLocksRow.holds Try.pinned (OpenSpec.ofChange topLocksWrong)

/- THE SECOND FORM. 'bulk': how many values and letters a reading holds, each counted each time it is reached (what is shared counts as often as it is met; a slice's spare places count too). A statement '..UptoSaid' is the law's where the arguments, and the package variables that the reading takes, are together of bulk at most 1048576: NARROWER than '..Said'. Prove '..Said' where nothing that the law and all that it calls make is longer than what came in: it says more and counts as full. Else prove '..UptoSaid'. A law counts once. -/
mutual
def uptoBulk {H : Type} : DataW H → Nat
  | .lit (.string bytes) => bytes.length + 1
  | .lit _ => 1
  | .nil => 1
  | .ptr d => uptoBulk d + 1
  | .slice elems spare => uptoBulkAll elems + uptoBulkAll spare + 1
  | .agg parts => uptoBulkAll parts + 1
  | .iface _ d => uptoBulk d + 1
  | .map entries => uptoBulkEntries entries + 1
  | .held _ => 1
def uptoBulkAll {H : Type} : List (DataW H) → Nat
  | [] => 0
  | d :: r => uptoBulk d + uptoBulkAll r
def uptoBulkEntries {H : Type} : List (Lit × DataW H) → Nat
  | [] => 0
  | x :: r => uptoBulkEntry x + uptoBulkEntries r
def uptoBulkEntry {H : Type} : Lit × DataW H → Nat
  | (.string bytes, d) => bytes.length + uptoBulk d + 1
  | (_, d) => uptoBulk d + 1
 end
def uptoSmall : (H : Type) → List (DataW H) → Bool := fun _ ds => decide (uptoBulkAll ds ≤ 1048576)
def OpenSpec.upto (s : _root_.Go.ChangeSpec) : _root_.Go.OpenSpec := { _root_.Go.OpenSpec.ofChange s with cond := some uptoSmall }

/-- 'timesynclaw12.ServoChecks', WHERE WHAT IT READS IS OF BULK AT MOST 1048576: true; the input reads as it did. -/
def servoChecksUptoRow : OpenClaim := { program := "ytaaocdgbflifhaa", sum := "bd34858cc4ff3ef762851203cee0d057732a3dcd9159f3e0c42dc1418800955c", func := "timesync/timesynclaw12.ServoChecks", spec := "servoChecks", unfollowed := true, recurses := true, named := ["math/bits.divideError", "math/bits.overflowError"], apart := false, narrowed := true }
def ServoChecksUptoSaid : Prop := servoChecksUptoRow.holds Try.pinned (OpenSpec.upto servoChecksSpec)

/-- 'timesynclaw12.ServoSettles', WHERE WHAT IT READS IS OF BULK AT MOST 1048576: true; the input reads as it did. -/
def servoSettlesUptoRow : OpenClaim := { program := "ytaaocdgbflifhaa", sum := "bd34858cc4ff3ef762851203cee0d057732a3dcd9159f3e0c42dc1418800955c", func := "timesync/timesynclaw12.ServoSettles", spec := "servoSettles", unfollowed := true, recurses := true, named := ["math/bits.divideError", "math/bits.overflowError"], apart := false, narrowed := true }
def ServoSettlesUptoSaid : Prop := servoSettlesUptoRow.holds Try.pinned (OpenSpec.upto servoSettlesSpec)

/-- 'timesynclaw12.ServoRises', WHERE WHAT IT READS IS OF BULK AT MOST 1048576: true; the input reads as it did. -/
def servoRisesUptoRow : OpenClaim := { program := "ytaaocdgbflifhaa", sum := "bd34858cc4ff3ef762851203cee0d057732a3dcd9159f3e0c42dc1418800955c", func := "timesync/timesynclaw12.ServoRises", spec := "servoRises", unfollowed := true, recurses := true, named := ["math/bits.divideError", "math/bits.overflowError"], apart := false, narrowed := true }
def ServoRisesUptoSaid : Prop := servoRisesUptoRow.holds Try.pinned (OpenSpec.upto servoRisesSpec)

/-- 'timesynclaw12.ServoRests', WHERE WHAT IT READS IS OF BULK AT MOST 1048576: true; the input reads as it did. -/
def servoRestsUptoRow : OpenClaim := { program := "ytaaocdgbflifhaa", sum := "bd34858cc4ff3ef762851203cee0d057732a3dcd9159f3e0c42dc1418800955c", func := "timesync/timesynclaw12.ServoRests", spec := "servoRests", unfollowed := true, recurses := true, named := ["math/bits.divideError", "math/bits.overflowError"], apart := false, narrowed := true }
def ServoRestsUptoSaid : Prop := servoRestsUptoRow.holds Try.pinned (OpenSpec.upto servoRestsSpec)

/-- 'timesynclaw12.ServoPlays', WHERE WHAT IT READS IS OF BULK AT MOST 1048576: true; the input reads as it did. -/
def servoPlaysUptoRow : OpenClaim := { program := "ytaaocdgbflifhaa", sum := "bd34858cc4ff3ef762851203cee0d057732a3dcd9159f3e0c42dc1418800955c", func := "timesync/timesynclaw12.ServoPlays", spec := "servoPlays", unfollowed := true, recurses := true, named := ["math/bits.divideError", "math/bits.overflowError"], apart := false, narrowed := true }
def ServoPlaysUptoSaid : Prop := servoPlaysUptoRow.holds Try.pinned (OpenSpec.upto servoPlaysSpec)

/-- 'timesynclaw12.ServoBounded', WHERE WHAT IT READS IS OF BULK AT MOST 1048576: true; the input reads as it did. -/
def servoBoundedUptoRow : OpenClaim := { program := "ytaaocdgbflifhaa", sum := "bd34858cc4ff3ef762851203cee0d057732a3dcd9159f3e0c42dc1418800955c", func := "timesync/timesynclaw12.ServoBounded", spec := "servoBounded", unfollowed := true, recurses := true, named := ["math/bits.divideError", "math/bits.overflowError"], apart := false, narrowed := true }
def ServoBoundedUptoSaid : Prop := servoBoundedUptoRow.holds Try.pinned (OpenSpec.upto servoBoundedSpec)

/-- 'timesynclaw12.ServoAgain', WHERE WHAT IT READS IS OF BULK AT MOST 1048576: true; the input reads as it did. -/
def servoAgainUptoRow : OpenClaim := { program := "ytaaocdgbflifhaa", sum := "bd34858cc4ff3ef762851203cee0d057732a3dcd9159f3e0c42dc1418800955c", func := "timesync/timesynclaw12.ServoAgain", spec := "servoAgain", unfollowed := true, recurses := true, named := ["math/bits.divideError", "math/bits.overflowError"], apart := false, narrowed := true }
def ServoAgainUptoSaid : Prop := servoAgainUptoRow.holds Try.pinned (OpenSpec.upto servoAgainSpec)

/-- 'timesynclaw12.ServoNobody', WHERE WHAT IT READS IS OF BULK AT MOST 1048576: true; the input reads as it did. -/
def servoNobodyUptoRow : OpenClaim := { program := "ytaaocdgbflifhaa", sum := "bd34858cc4ff3ef762851203cee0d057732a3dcd9159f3e0c42dc1418800955c", func := "timesync/timesynclaw12.ServoNobody", spec := "servoNobody", unfollowed := true, recurses := true, named := ["math/bits.divideError", "math/bits.overflowError"], apart := false, narrowed := true }
def ServoNobodyUptoSaid : Prop := servoNobodyUptoRow.holds Try.pinned (OpenSpec.upto servoNobodySpec)

/-- 'timesynctop.TopLocks', WHERE WHAT IT READS IS OF BULK AT MOST 1048576: true; the input reads as it did. -/
def topLocksUptoRow : OpenClaim := { program := "ytaaocdgbflifhaa", sum := "bd34858cc4ff3ef762851203cee0d057732a3dcd9159f3e0c42dc1418800955c", func := "timesync/timesynctop.TopLocks", spec := "topLocks", unfollowed := true, recurses := true, named := ["math/bits.divideError", "math/bits.overflowError"], apart := false, narrowed := true }
def TopLocksUptoSaid : Prop := topLocksUptoRow.holds Try.pinned (OpenSpec.upto topLocksSpec)

end Rows
end Go.Proofs.Ytaaocdgbflifhaa

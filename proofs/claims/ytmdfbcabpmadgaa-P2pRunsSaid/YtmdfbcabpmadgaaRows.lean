/-
  No cell of these rows narrows 'for every input' (looked for: loops, veiled, ifaces, maps, wideKeys, modest, calm, conditions, laid).
  DERIVED. THE GIVEN ROWS OF THIS SEAT. 6 by the template 'for every input the law returns true; each argument reads behind the call as it read before'; 0 by the template 'total and deterministic' (their statements: YtmdfbcabpmadgaaTotals.lean).
  GIVEN WITH THE SEED: the statements are not yours to turn. If you find one false, say at which input.
  Laid BY PROGRAM, IN A SANDBOX (cutbox-rows.mjs): the forced cells as the released guide's own fill.sh prints them over the translation 9c2686f682bc974d… (all of the seat's roots in one cut). By AI agents, Wed Nov 11 2026. No macro, syntax, notation, axiom, sorry.
-/
import Derived.Test.YtmdfbcabpmadgaaChecked
import GoSem.Claim
import GoSem.ClaimJoined
import GoSem.ClaimMapViews
import Derived.JoinedTies
import Derived.KernelRfl
namespace Go.Proofs.Ytmdfbcabpmadgaa
/- THE CELL 'sum', in the pinned program and in every row, IS THE sha256 OF THE DUMP (.gsa) THAT YtmdfbcabpmadgaaProg.lean LOADS. Nothing in Lean hashes anything: it is a label: what it is worth is what the hold of that sum in a sandbox is worth. -/
noncomputable def Try.pinned : Pinned := { name := "ytmdfbcabpmadgaa", sum := "9c2686f682bc974dbfcc36bc007495f8a2e8ad2192a4aa353e9575eff2ad4fe2", checked := Try.checked }
namespace Rows
def none {H : Type} : Left H := { results := [], args := [] }

/-- 'timesynctop.TopPeer': WHATEVER THE INPUT: true; the input reads as it did. -/
def topPeerSpec : ChangeSpec := { name := "topPeer", fn := fun _ => fun
  | [d1, d2] => { results := [.lit (.bool true)], args := [d1, d2] }
  | _ => none }
def topPeerRow : OpenClaim := { program := "ytmdfbcabpmadgaa", sum := "9c2686f682bc974dbfcc36bc007495f8a2e8ad2192a4aa353e9575eff2ad4fe2", func := "timesync/timesynctop.TopPeer", spec := "topPeer", apart := false }
def TopPeerSaid : Prop := topPeerRow.holds Try.pinned (OpenSpec.ofChange topPeerSpec)

/-- ITS FALSE NEIGHBOUR: 'it returns false'. Refute it at one input. -/
def topPeerWrong : ChangeSpec := { name := "topPeer", fn := fun _ => fun
  | [d1, d2] => { results := [.lit (.bool false)], args := [d1, d2] }
  | _ => none }
def TopPeerWrongFalsely : Prop := topPeerRow.holds Try.pinned (OpenSpec.ofChange topPeerWrong)

/-- 'timesynclaw39.P2pRuns': WHATEVER THE INPUT: true; the input reads as it did. -/
def p2pRunsSpec : ChangeSpec := { name := "p2pRuns", fn := fun _ => fun
  | [d1, d2] => { results := [.lit (.bool true)], args := [d1, d2] }
  | _ => none }
def p2pRunsRow : OpenClaim := { program := "ytmdfbcabpmadgaa", sum := "9c2686f682bc974dbfcc36bc007495f8a2e8ad2192a4aa353e9575eff2ad4fe2", func := "timesync/timesynclaw39.P2pRuns", spec := "p2pRuns", named := ["math/bits.divideError", "math/bits.overflowError"], apart := false }
def P2pRunsSaid : Prop := p2pRunsRow.holds Try.pinned (OpenSpec.ofChange p2pRunsSpec)

/-- ITS FALSE NEIGHBOUR: 'it returns false'. Refute it at one input. -/
def p2pRunsWrong : ChangeSpec := { name := "p2pRuns", fn := fun _ => fun
  | [d1, d2] => { results := [.lit (.bool false)], args := [d1, d2] }
  | _ => none }
def P2pRunsWrongFalsely : Prop := p2pRunsRow.holds Try.pinned (OpenSpec.ofChange p2pRunsWrong)

/-- 'timesynclaw39.P2pMeasures': WHATEVER THE INPUT: true; the input reads as it did. -/
def p2pMeasuresSpec : ChangeSpec := { name := "p2pMeasures", fn := fun _ => fun
  | [d1, d2] => { results := [.lit (.bool true)], args := [d1, d2] }
  | _ => none }
def p2pMeasuresRow : OpenClaim := { program := "ytmdfbcabpmadgaa", sum := "9c2686f682bc974dbfcc36bc007495f8a2e8ad2192a4aa353e9575eff2ad4fe2", func := "timesync/timesynclaw39.P2pMeasures", spec := "p2pMeasures", named := ["math/bits.divideError", "math/bits.overflowError"], apart := false }
def P2pMeasuresSaid : Prop := p2pMeasuresRow.holds Try.pinned (OpenSpec.ofChange p2pMeasuresSpec)

/-- ITS FALSE NEIGHBOUR: 'it returns false'. Refute it at one input. -/
def p2pMeasuresWrong : ChangeSpec := { name := "p2pMeasures", fn := fun _ => fun
  | [d1, d2] => { results := [.lit (.bool false)], args := [d1, d2] }
  | _ => none }
def P2pMeasuresWrongFalsely : Prop := p2pMeasuresRow.holds Try.pinned (OpenSpec.ofChange p2pMeasuresWrong)

/-- 'timesynclaw39.P2pOnce': WHATEVER THE INPUT: true; the input reads as it did. -/
def p2pOnceSpec : ChangeSpec := { name := "p2pOnce", fn := fun _ => fun
  | [d1, d2, d3, d4] => { results := [.lit (.bool true)], args := [d1, d2, d3, d4] }
  | _ => none }
def p2pOnceRow : OpenClaim := { program := "ytmdfbcabpmadgaa", sum := "9c2686f682bc974dbfcc36bc007495f8a2e8ad2192a4aa353e9575eff2ad4fe2", func := "timesync/timesynclaw39.P2pOnce", spec := "p2pOnce", named := ["math/bits.divideError", "math/bits.overflowError"], apart := false }
def P2pOnceSaid : Prop := p2pOnceRow.holds Try.pinned (OpenSpec.ofChange p2pOnceSpec)

/-- ITS FALSE NEIGHBOUR: 'it returns false'. Refute it at one input. -/
def p2pOnceWrong : ChangeSpec := { name := "p2pOnce", fn := fun _ => fun
  | [d1, d2, d3, d4] => { results := [.lit (.bool false)], args := [d1, d2, d3, d4] }
  | _ => none }
def P2pOnceWrongFalsely : Prop := p2pOnceRow.holds Try.pinned (OpenSpec.ofChange p2pOnceWrong)

/-- 'timesynclaw39.P2pDomains': WHATEVER THE INPUT: true; the input reads as it did. -/
def p2pDomainsSpec : ChangeSpec := { name := "p2pDomains", fn := fun _ => fun
  | [d1, d2] => { results := [.lit (.bool true)], args := [d1, d2] }
  | _ => none }
def p2pDomainsRow : OpenClaim := { program := "ytmdfbcabpmadgaa", sum := "9c2686f682bc974dbfcc36bc007495f8a2e8ad2192a4aa353e9575eff2ad4fe2", func := "timesync/timesynclaw39.P2pDomains", spec := "p2pDomains", named := ["math/bits.divideError", "math/bits.overflowError"], apart := false }
def P2pDomainsSaid : Prop := p2pDomainsRow.holds Try.pinned (OpenSpec.ofChange p2pDomainsSpec)

/-- ITS FALSE NEIGHBOUR: 'it returns false'. Refute it at one input. -/
def p2pDomainsWrong : ChangeSpec := { name := "p2pDomains", fn := fun _ => fun
  | [d1, d2] => { results := [.lit (.bool false)], args := [d1, d2] }
  | _ => none }
def P2pDomainsWrongFalsely : Prop := p2pDomainsRow.holds Try.pinned (OpenSpec.ofChange p2pDomainsWrong)

/-- 'timesynclaw39.P2pForgets': WHATEVER THE INPUT: true; the input reads as it did. -/
def p2pForgetsSpec : ChangeSpec := { name := "p2pForgets", fn := fun _ => fun
  | [d] => { results := [.lit (.bool true)], args := [d] }
  | _ => none }
def p2pForgetsRow : OpenClaim := { program := "ytmdfbcabpmadgaa", sum := "9c2686f682bc974dbfcc36bc007495f8a2e8ad2192a4aa353e9575eff2ad4fe2", func := "timesync/timesynclaw39.P2pForgets", spec := "p2pForgets", named := ["math/bits.divideError", "math/bits.overflowError"], apart := false }
def P2pForgetsSaid : Prop := p2pForgetsRow.holds Try.pinned (OpenSpec.ofChange p2pForgetsSpec)

/-- ITS FALSE NEIGHBOUR: 'it returns false'. Refute it at one input. -/
def p2pForgetsWrong : ChangeSpec := { name := "p2pForgets", fn := fun _ => fun
  | [d] => { results := [.lit (.bool false)], args := [d] }
  | _ => none }
def P2pForgetsWrongFalsely : Prop := p2pForgetsRow.holds Try.pinned (OpenSpec.ofChange p2pForgetsWrong)

/- THE SECOND FORM. 'bulk': how many values and letters a reading holds, each counted each time it is reached (what is shared counts as often as it is met; a slice's spare places count too). A statement '..UptoSaid' is the law's where the arguments, and the package variables that the reading takes, are together of bulk at most 1048576: NARROWER than '..Said'. Prove '..Said' where nothing that the law and all that it calls make is longer than what came in: it says more and counts as full. Else prove '..UptoSaid'. A law counts once. -/
mutual
def uptoBulk {H : Type} : DataW H → Nat
  | .lit (.string bytes) => bytes.length + 1
  | .lit _ => 1
  | .nil => 1
  | .ptr d => uptoBulk d + 1
  | .slice elems spare => uptoBulkAll elems + uptoBulkAll spare + 1
  | .agg parts => uptoBulkAll parts + 1
  | .iface _ d => uptoBulk d + 1
  | .map entries => uptoBulkEntries entries + 1
  | .held _ => 1
def uptoBulkAll {H : Type} : List (DataW H) → Nat
  | [] => 0
  | d :: r => uptoBulk d + uptoBulkAll r
def uptoBulkEntries {H : Type} : List (Lit × DataW H) → Nat
  | [] => 0
  | x :: r => uptoBulkEntry x + uptoBulkEntries r
def uptoBulkEntry {H : Type} : Lit × DataW H → Nat
  | (.string bytes, d) => bytes.length + uptoBulk d + 1
  | (_, d) => uptoBulk d + 1
 end
def uptoSmall : (H : Type) → List (DataW H) → Bool := fun _ ds => decide (uptoBulkAll ds ≤ 1048576)
def OpenSpec.upto (s : _root_.Go.ChangeSpec) : _root_.Go.OpenSpec := { _root_.Go.OpenSpec.ofChange s with cond := some uptoSmall }

/-- 'timesynctop.TopPeer', WHERE WHAT IT READS IS OF BULK AT MOST 1048576: true; the input reads as it did. -/
def topPeerUptoRow : OpenClaim := { program := "ytmdfbcabpmadgaa", sum := "9c2686f682bc974dbfcc36bc007495f8a2e8ad2192a4aa353e9575eff2ad4fe2", func := "timesync/timesynctop.TopPeer", spec := "topPeer", apart := false, narrowed := true }
def TopPeerUptoSaid : Prop := topPeerUptoRow.holds Try.pinned (OpenSpec.upto topPeerSpec)

/-- 'timesynclaw39.P2pRuns', WHERE WHAT IT READS IS OF BULK AT MOST 1048576: true; the input reads as it did. -/
def p2pRunsUptoRow : OpenClaim := { program := "ytmdfbcabpmadgaa", sum := "9c2686f682bc974dbfcc36bc007495f8a2e8ad2192a4aa353e9575eff2ad4fe2", func := "timesync/timesynclaw39.P2pRuns", spec := "p2pRuns", named := ["math/bits.divideError", "math/bits.overflowError"], apart := false, narrowed := true }
def P2pRunsUptoSaid : Prop := p2pRunsUptoRow.holds Try.pinned (OpenSpec.upto p2pRunsSpec)

/-- 'timesynclaw39.P2pMeasures', WHERE WHAT IT READS IS OF BULK AT MOST 1048576: true; the input reads as it did. -/
def p2pMeasuresUptoRow : OpenClaim := { program := "ytmdfbcabpmadgaa", sum := "9c2686f682bc974dbfcc36bc007495f8a2e8ad2192a4aa353e9575eff2ad4fe2", func := "timesync/timesynclaw39.P2pMeasures", spec := "p2pMeasures", named := ["math/bits.divideError", "math/bits.overflowError"], apart := false, narrowed := true }
def P2pMeasuresUptoSaid : Prop := p2pMeasuresUptoRow.holds Try.pinned (OpenSpec.upto p2pMeasuresSpec)

/-- 'timesynclaw39.P2pOnce', WHERE WHAT IT READS IS OF BULK AT MOST 1048576: true; the input reads as it did. -/
def p2pOnceUptoRow : OpenClaim := { program := "ytmdfbcabpmadgaa", sum := "9c2686f682bc974dbfcc36bc007495f8a2e8ad2192a4aa353e9575eff2ad4fe2", func := "timesync/timesynclaw39.P2pOnce", spec := "p2pOnce", named := ["math/bits.divideError", "math/bits.overflowError"], apart := false, narrowed := true }
def P2pOnceUptoSaid : Prop := p2pOnceUptoRow.holds Try.pinned (OpenSpec.upto p2pOnceSpec)

/-- 'timesynclaw39.P2pDomains', WHERE WHAT IT READS IS OF BULK AT MOST 1048576: true; the input reads as it did. -/
def p2pDomainsUptoRow : OpenClaim := { program := "ytmdfbcabpmadgaa", sum := "9c2686f682bc974dbfcc36bc007495f8a2e8ad2192a4aa353e9575eff2ad4fe2", func := "timesync/timesynclaw39.P2pDomains", spec := "p2pDomains", named := ["math/bits.divideError", "math/bits.overflowError"], apart := false, narrowed := true }
def P2pDomainsUptoSaid : Prop := p2pDomainsUptoRow.holds Try.pinned (OpenSpec.upto p2pDomainsSpec)

/-- 'timesynclaw39.P2pForgets', WHERE WHAT IT READS IS OF BULK AT MOST 1048576: true; the input reads as it did. -/
def p2pForgetsUptoRow : OpenClaim := { program := "ytmdfbcabpmadgaa", sum := "9c2686f682bc974dbfcc36bc007495f8a2e8ad2192a4aa353e9575eff2ad4fe2", func := "timesync/timesynclaw39.P2pForgets", spec := "p2pForgets", named := ["math/bits.divideError", "math/bits.overflowError"], apart := false, narrowed := true }
def P2pForgetsUptoSaid : Prop := p2pForgetsUptoRow.holds Try.pinned (OpenSpec.upto p2pForgetsSpec)

end Rows
end Go.Proofs.Ytmdfbcabpmadgaa

/-
  No cell of these rows narrows 'for every input' (looked for: loops, veiled, ifaces, maps, wideKeys, modest, calm, conditions, laid).
  DERIVED. THE GIVEN ROWS OF THIS SEAT. 8 by the template 'for every input the law returns true; each argument reads behind the call as it read before'; 0 by the template 'total and deterministic' (their statements: YtjdnmgdndfcghaaTotals.lean).
  GIVEN WITH THE SEED: the statements are not yours to turn. If you find one false, say at which input.
  Laid BY PROGRAM, IN A SANDBOX (cutbox-rows.mjs): the forced cells as the released guide's own fill.sh prints them over the translation 79a4162461f35ff3… (all of the seat's roots in one cut). By AI agents, Wed Nov 11 2026. No macro, syntax, notation, axiom, sorry.
-/
import Derived.Test.YtjdnmgdndfcghaaChecked
import GoSem.Claim
import GoSem.ClaimJoined
import GoSem.ClaimMapViews
import Derived.JoinedTies
import Derived.KernelRfl
namespace Go.Proofs.Ytjdnmgdndfcghaa
/- THE CELL 'sum', in the pinned program and in every row, IS THE sha256 OF THE DUMP (.gsa) THAT YtjdnmgdndfcghaaProg.lean LOADS. Nothing in Lean hashes anything: it is a label: what it is worth is what the hold of that sum in a sandbox is worth. -/
noncomputable def Try.pinned : Pinned := { name := "ytjdnmgdndfcghaa", sum := "79a4162461f35ff3d853cc17a1e5a023cef0c57e785a3fbaeb091232f1965a87", checked := Try.checked }
namespace Rows
def none {H : Type} : Left H := { results := [], args := [] }

/-- 'alidadelaw11.FrameScans': WHATEVER THE INPUT: true; the input reads as it did. -/
def frameScansSpec : ChangeSpec := { name := "frameScans", fn := fun _ => fun
  | [d] => { results := [.lit (.bool true)], args := [d] }
  | _ => none }
def frameScansRow : OpenClaim := { program := "ytjdnmgdndfcghaa", sum := "79a4162461f35ff3d853cc17a1e5a023cef0c57e785a3fbaeb091232f1965a87", func := "alidade/alidadelaw11.FrameScans", spec := "frameScans", inPlace := ["internal/bytealg.IndexByteString"], apart := false }
def FrameScansSaid : Prop := frameScansRow.holds Try.pinned (OpenSpec.ofChange frameScansSpec)

/-- ITS FALSE NEIGHBOUR: 'it returns false'. Refute it at one input. -/
def frameScansWrong : ChangeSpec := { name := "frameScans", fn := fun _ => fun
  | [d] => { results := [.lit (.bool false)], args := [d] }
  | _ => none }
def FrameScansWrongFalsely : Prop := frameScansRow.holds Try.pinned (OpenSpec.ofChange frameScansWrong)

/-- 'alidadelaw11.FrameCut': WHATEVER THE INPUT: true; the input reads as it did. -/
def frameCutSpec : ChangeSpec := { name := "frameCut", fn := fun _ => fun
  | [d1, d2] => { results := [.lit (.bool true)], args := [d1, d2] }
  | _ => none }
def frameCutRow : OpenClaim := { program := "ytjdnmgdndfcghaa", sum := "79a4162461f35ff3d853cc17a1e5a023cef0c57e785a3fbaeb091232f1965a87", func := "alidade/alidadelaw11.FrameCut", spec := "frameCut", inPlace := ["internal/bytealg.IndexByteString"], apart := false }
def FrameCutSaid : Prop := frameCutRow.holds Try.pinned (OpenSpec.ofChange frameCutSpec)

/-- ITS FALSE NEIGHBOUR: 'it returns false'. Refute it at one input. -/
def frameCutWrong : ChangeSpec := { name := "frameCut", fn := fun _ => fun
  | [d1, d2] => { results := [.lit (.bool false)], args := [d1, d2] }
  | _ => none }
def FrameCutWrongFalsely : Prop := frameCutRow.holds Try.pinned (OpenSpec.ofChange frameCutWrong)

/-- 'alidadelaw11.FrameTurned': WHATEVER THE INPUT: true; the input reads as it did. -/
def frameTurnedSpec : ChangeSpec := { name := "frameTurned", fn := fun _ => fun
  | [d1, d2, d3] => { results := [.lit (.bool true)], args := [d1, d2, d3] }
  | _ => none }
def frameTurnedRow : OpenClaim := { program := "ytjdnmgdndfcghaa", sum := "79a4162461f35ff3d853cc17a1e5a023cef0c57e785a3fbaeb091232f1965a87", func := "alidade/alidadelaw11.FrameTurned", spec := "frameTurned", inPlace := ["internal/bytealg.IndexByteString"], apart := false }
def FrameTurnedSaid : Prop := frameTurnedRow.holds Try.pinned (OpenSpec.ofChange frameTurnedSpec)

/-- ITS FALSE NEIGHBOUR: 'it returns false'. Refute it at one input. -/
def frameTurnedWrong : ChangeSpec := { name := "frameTurned", fn := fun _ => fun
  | [d1, d2, d3] => { results := [.lit (.bool false)], args := [d1, d2, d3] }
  | _ => none }
def FrameTurnedWrongFalsely : Prop := frameTurnedRow.holds Try.pinned (OpenSpec.ofChange frameTurnedWrong)

/-- 'alidadelaw05.TriadBoth': WHATEVER THE INPUT: true; the input reads as it did. -/
def triadBothSpec : ChangeSpec := { name := "triadBoth", fn := fun _ => fun
  | [d1, d2] => { results := [.lit (.bool true)], args := [d1, d2] }
  | _ => none }
def triadBothRow : OpenClaim := { program := "ytjdnmgdndfcghaa", sum := "79a4162461f35ff3d853cc17a1e5a023cef0c57e785a3fbaeb091232f1965a87", func := "alidade/alidadelaw05.TriadBoth", spec := "triadBoth", inPlace := ["math/bits.Add64"], unfollowed := true, recurses := true, named := ["math/bits.divideError", "math/bits.overflowError"], apart := false }
def TriadBothSaid : Prop := triadBothRow.holds Try.pinned (OpenSpec.ofChange triadBothSpec)

/-- ITS FALSE NEIGHBOUR: 'it returns false'. Refute it at one input. -/
def triadBothWrong : ChangeSpec := { name := "triadBoth", fn := fun _ => fun
  | [d1, d2] => { results := [.lit (.bool false)], args := [d1, d2] }
  | _ => none }
def TriadBothWrongFalsely : Prop := triadBothRow.holds Try.pinned (OpenSpec.ofChange triadBothWrong)

/-- 'alidadelaw14.FilterPoints': WHATEVER THE INPUT: true; the input reads as it did. -/
def filterPointsSpec : ChangeSpec := { name := "filterPoints", fn := fun _ => fun
  | [d1, d2] => { results := [.lit (.bool true)], args := [d1, d2] }
  | _ => none }
def filterPointsRow : OpenClaim := { program := "ytjdnmgdndfcghaa", sum := "79a4162461f35ff3d853cc17a1e5a023cef0c57e785a3fbaeb091232f1965a87", func := "alidade/alidadelaw14.FilterPoints", spec := "filterPoints", inPlace := ["math/bits.Add64"], unfollowed := true, recurses := true, named := ["math/bits.divideError", "math/bits.overflowError"], apart := false }
def FilterPointsSaid : Prop := filterPointsRow.holds Try.pinned (OpenSpec.ofChange filterPointsSpec)

/-- ITS FALSE NEIGHBOUR: 'it returns false'. Refute it at one input. -/
def filterPointsWrong : ChangeSpec := { name := "filterPoints", fn := fun _ => fun
  | [d1, d2] => { results := [.lit (.bool false)], args := [d1, d2] }
  | _ => none }
def FilterPointsWrongFalsely : Prop := filterPointsRow.holds Try.pinned (OpenSpec.ofChange filterPointsWrong)

/-- 'alidadelaw14.FilterMoves': WHATEVER THE INPUT: true; the input reads as it did. -/
def filterMovesSpec : ChangeSpec := { name := "filterMoves", fn := fun _ => fun
  | [d1, d2, d3] => { results := [.lit (.bool true)], args := [d1, d2, d3] }
  | _ => none }
def filterMovesRow : OpenClaim := { program := "ytjdnmgdndfcghaa", sum := "79a4162461f35ff3d853cc17a1e5a023cef0c57e785a3fbaeb091232f1965a87", func := "alidade/alidadelaw14.FilterMoves", spec := "filterMoves", inPlace := ["math/bits.Add64"], unfollowed := true, recurses := true, named := ["math/bits.divideError", "math/bits.overflowError"], apart := false }
def FilterMovesSaid : Prop := filterMovesRow.holds Try.pinned (OpenSpec.ofChange filterMovesSpec)

/-- ITS FALSE NEIGHBOUR: 'it returns false'. Refute it at one input. -/
def filterMovesWrong : ChangeSpec := { name := "filterMoves", fn := fun _ => fun
  | [d1, d2, d3] => { results := [.lit (.bool false)], args := [d1, d2, d3] }
  | _ => none }
def FilterMovesWrongFalsely : Prop := filterMovesRow.holds Try.pinned (OpenSpec.ofChange filterMovesWrong)

/-- 'alidadelaw14.FilterEven': WHATEVER THE INPUT: true; the input reads as it did. -/
def filterEvenSpec : ChangeSpec := { name := "filterEven", fn := fun _ => fun
  | [d1, d2, d3] => { results := [.lit (.bool true)], args := [d1, d2, d3] }
  | _ => none }
def filterEvenRow : OpenClaim := { program := "ytjdnmgdndfcghaa", sum := "79a4162461f35ff3d853cc17a1e5a023cef0c57e785a3fbaeb091232f1965a87", func := "alidade/alidadelaw14.FilterEven", spec := "filterEven", inPlace := ["math/bits.Add64"], unfollowed := true, recurses := true, named := ["math/bits.divideError", "math/bits.overflowError"], apart := false }
def FilterEvenSaid : Prop := filterEvenRow.holds Try.pinned (OpenSpec.ofChange filterEvenSpec)

/-- ITS FALSE NEIGHBOUR: 'it returns false'. Refute it at one input. -/
def filterEvenWrong : ChangeSpec := { name := "filterEven", fn := fun _ => fun
  | [d1, d2, d3] => { results := [.lit (.bool false)], args := [d1, d2, d3] }
  | _ => none }
def FilterEvenWrongFalsely : Prop := filterEvenRow.holds Try.pinned (OpenSpec.ofChange filterEvenWrong)

/-- 'alidadelaw14.FilterFinds': WHATEVER THE INPUT: true; the input reads as it did. -/
def filterFindsSpec : ChangeSpec := { name := "filterFinds", fn := fun _ => fun
  | [d1, d2] => { results := [.lit (.bool true)], args := [d1, d2] }
  | _ => none }
def filterFindsRow : OpenClaim := { program := "ytjdnmgdndfcghaa", sum := "79a4162461f35ff3d853cc17a1e5a023cef0c57e785a3fbaeb091232f1965a87", func := "alidade/alidadelaw14.FilterFinds", spec := "filterFinds", inPlace := ["math/bits.Add64"], unfollowed := true, recurses := true, named := ["math/bits.divideError", "math/bits.overflowError"], apart := false }
def FilterFindsSaid : Prop := filterFindsRow.holds Try.pinned (OpenSpec.ofChange filterFindsSpec)

/-- ITS FALSE NEIGHBOUR: 'it returns false'. Refute it at one input. -/
def filterFindsWrong : ChangeSpec := { name := "filterFinds", fn := fun _ => fun
  | [d1, d2] => { results := [.lit (.bool false)], args := [d1, d2] }
  | _ => none }
def FilterFindsWrongFalsely : Prop := filterFindsRow.holds Try.pinned (OpenSpec.ofChange filterFindsWrong)

/- THE SECOND FORM. 'bulk': how many values and letters a reading holds, each counted each time it is reached (what is shared counts as often as it is met; a slice's spare places count too). A statement '..UptoSaid' is the law's where the arguments, and the package variables that the reading takes, are together of bulk at most 1048576: NARROWER than '..Said'. Prove '..Said' where nothing that the law and all that it calls make is longer than what came in: it says more and counts as full. Else prove '..UptoSaid'. A law counts once. -/
mutual
def uptoBulk {H : Type} : DataW H → Nat
  | .lit (.string bytes) => bytes.length + 1
  | .lit _ => 1
  | .nil => 1
  | .ptr d => uptoBulk d + 1
  | .slice elems spare => uptoBulkAll elems + uptoBulkAll spare + 1
  | .agg parts => uptoBulkAll parts + 1
  | .iface _ d => uptoBulk d + 1
  | .map entries => uptoBulkEntries entries + 1
  | .held _ => 1
def uptoBulkAll {H : Type} : List (DataW H) → Nat
  | [] => 0
  | d :: r => uptoBulk d + uptoBulkAll r
def uptoBulkEntries {H : Type} : List (Lit × DataW H) → Nat
  | [] => 0
  | x :: r => uptoBulkEntry x + uptoBulkEntries r
def uptoBulkEntry {H : Type} : Lit × DataW H → Nat
  | (.string bytes, d) => bytes.length + uptoBulk d + 1
  | (_, d) => uptoBulk d + 1
 end
def uptoSmall : (H : Type) → List (DataW H) → Bool := fun _ ds => decide (uptoBulkAll ds ≤ 1048576)
def OpenSpec.upto (s : _root_.Go.ChangeSpec) : _root_.Go.OpenSpec := { _root_.Go.OpenSpec.ofChange s with cond := some uptoSmall }

/-- 'alidadelaw11.FrameScans', WHERE WHAT IT READS IS OF BULK AT MOST 1048576: true; the input reads as it did. -/
def frameScansUptoRow : OpenClaim := { program := "ytjdnmgdndfcghaa", sum := "79a4162461f35ff3d853cc17a1e5a023cef0c57e785a3fbaeb091232f1965a87", func := "alidade/alidadelaw11.FrameScans", spec := "frameScans", inPlace := ["internal/bytealg.IndexByteString"], apart := false, narrowed := true }
def FrameScansUptoSaid : Prop := frameScansUptoRow.holds Try.pinned (OpenSpec.upto frameScansSpec)

/-- 'alidadelaw11.FrameCut', WHERE WHAT IT READS IS OF BULK AT MOST 1048576: true; the input reads as it did. -/
def frameCutUptoRow : OpenClaim := { program := "ytjdnmgdndfcghaa", sum := "79a4162461f35ff3d853cc17a1e5a023cef0c57e785a3fbaeb091232f1965a87", func := "alidade/alidadelaw11.FrameCut", spec := "frameCut", inPlace := ["internal/bytealg.IndexByteString"], apart := false, narrowed := true }
def FrameCutUptoSaid : Prop := frameCutUptoRow.holds Try.pinned (OpenSpec.upto frameCutSpec)

/-- 'alidadelaw11.FrameTurned', WHERE WHAT IT READS IS OF BULK AT MOST 1048576: true; the input reads as it did. -/
def frameTurnedUptoRow : OpenClaim := { program := "ytjdnmgdndfcghaa", sum := "79a4162461f35ff3d853cc17a1e5a023cef0c57e785a3fbaeb091232f1965a87", func := "alidade/alidadelaw11.FrameTurned", spec := "frameTurned", inPlace := ["internal/bytealg.IndexByteString"], apart := false, narrowed := true }
def FrameTurnedUptoSaid : Prop := frameTurnedUptoRow.holds Try.pinned (OpenSpec.upto frameTurnedSpec)

/-- 'alidadelaw05.TriadBoth', WHERE WHAT IT READS IS OF BULK AT MOST 1048576: true; the input reads as it did. -/
def triadBothUptoRow : OpenClaim := { program := "ytjdnmgdndfcghaa", sum := "79a4162461f35ff3d853cc17a1e5a023cef0c57e785a3fbaeb091232f1965a87", func := "alidade/alidadelaw05.TriadBoth", spec := "triadBoth", inPlace := ["math/bits.Add64"], unfollowed := true, recurses := true, named := ["math/bits.divideError", "math/bits.overflowError"], apart := false, narrowed := true }
def TriadBothUptoSaid : Prop := triadBothUptoRow.holds Try.pinned (OpenSpec.upto triadBothSpec)

/-- 'alidadelaw14.FilterPoints', WHERE WHAT IT READS IS OF BULK AT MOST 1048576: true; the input reads as it did. -/
def filterPointsUptoRow : OpenClaim := { program := "ytjdnmgdndfcghaa", sum := "79a4162461f35ff3d853cc17a1e5a023cef0c57e785a3fbaeb091232f1965a87", func := "alidade/alidadelaw14.FilterPoints", spec := "filterPoints", inPlace := ["math/bits.Add64"], unfollowed := true, recurses := true, named := ["math/bits.divideError", "math/bits.overflowError"], apart := false, narrowed := true }
def FilterPointsUptoSaid : Prop := filterPointsUptoRow.holds Try.pinned (OpenSpec.upto filterPointsSpec)

/-- 'alidadelaw14.FilterMoves', WHERE WHAT IT READS IS OF BULK AT MOST 1048576: true; the input reads as it did. -/
def filterMovesUptoRow : OpenClaim := { program := "ytjdnmgdndfcghaa", sum := "79a4162461f35ff3d853cc17a1e5a023cef0c57e785a3fbaeb091232f1965a87", func := "alidade/alidadelaw14.FilterMoves", spec := "filterMoves", inPlace := ["math/bits.Add64"], unfollowed := true, recurses := true, named := ["math/bits.divideError", "math/bits.overflowError"], apart := false, narrowed := true }
def FilterMovesUptoSaid : Prop := filterMovesUptoRow.holds Try.pinned (OpenSpec.upto filterMovesSpec)

/-- 'alidadelaw14.FilterEven', WHERE WHAT IT READS IS OF BULK AT MOST 1048576: true; the input reads as it did. -/
def filterEvenUptoRow : OpenClaim := { program := "ytjdnmgdndfcghaa", sum := "79a4162461f35ff3d853cc17a1e5a023cef0c57e785a3fbaeb091232f1965a87", func := "alidade/alidadelaw14.FilterEven", spec := "filterEven", inPlace := ["math/bits.Add64"], unfollowed := true, recurses := true, named := ["math/bits.divideError", "math/bits.overflowError"], apart := false, narrowed := true }
def FilterEvenUptoSaid : Prop := filterEvenUptoRow.holds Try.pinned (OpenSpec.upto filterEvenSpec)

/-- 'alidadelaw14.FilterFinds', WHERE WHAT IT READS IS OF BULK AT MOST 1048576: true; the input reads as it did. -/
def filterFindsUptoRow : OpenClaim := { program := "ytjdnmgdndfcghaa", sum := "79a4162461f35ff3d853cc17a1e5a023cef0c57e785a3fbaeb091232f1965a87", func := "alidade/alidadelaw14.FilterFinds", spec := "filterFinds", inPlace := ["math/bits.Add64"], unfollowed := true, recurses := true, named := ["math/bits.divideError", "math/bits.overflowError"], apart := false, narrowed := true }
def FilterFindsUptoSaid : Prop := filterFindsUptoRow.holds Try.pinned (OpenSpec.upto filterFindsSpec)

end Rows
end Go.Proofs.Ytjdnmgdndfcghaa

/-
  No cell of these rows narrows 'for every input' (looked for: loops, veiled, ifaces, maps, wideKeys, modest, calm, conditions, laid).
  DERIVED. THE GIVEN ROWS OF THIS SEAT. 5 by the template 'for every input the law returns true; each argument reads behind the call as it read before'; 0 by the template 'total and deterministic' (their statements: YtgchdkppjcnkiaaTotals.lean).
  GIVEN WITH THE SEED: the statements are not yours to turn. If you find one false, say at which input.
  Laid BY PROGRAM, IN A SANDBOX (cutbox-rows.mjs): the forced cells as the released guide's own fill.sh prints them over the translation c100f2701d15a6d9… (all of the seat's roots in one cut). By AI agents, Wed Nov 11 2026. No macro, syntax, notation, axiom, sorry.
-/
import Derived.Test.YtgchdkppjcnkiaaChecked
import GoSem.Claim
import GoSem.ClaimJoined
import GoSem.ClaimMapViews
import Derived.JoinedTies
import Derived.KernelRfl
namespace Go.Proofs.Ytgchdkppjcnkiaa
/- THE CELL 'sum', in the pinned program and in every row, IS THE sha256 OF THE DUMP (.gsa) THAT YtgchdkppjcnkiaaProg.lean LOADS. Nothing in Lean hashes anything: it is a label: what it is worth is what the hold of that sum in a sandbox is worth. -/
noncomputable def Try.pinned : Pinned := { name := "ytgchdkppjcnkiaa", sum := "c100f2701d15a6d96ce01f9c5de527716e9a23cb16e7e09021cd9a21f212beeb", checked := Try.checked }
namespace Rows
def none {H : Type} : Left H := { results := [], args := [] }

/-- 'revetmentlaw14.RingTurns': WHATEVER THE INPUT: true; the input reads as it did. -/
def ringTurnsSpec : ChangeSpec := { name := "ringTurns", fn := fun _ => fun
  | [d1, d2, d3] => { results := [.lit (.bool true)], args := [d1, d2, d3] }
  | _ => none }
def ringTurnsRow : OpenClaim := { program := "ytgchdkppjcnkiaa", sum := "c100f2701d15a6d96ce01f9c5de527716e9a23cb16e7e09021cd9a21f212beeb", func := "revetment/revetmentlaw14.RingTurns", spec := "ringTurns", apart := false }
def RingTurnsSaid : Prop := ringTurnsRow.holds Try.pinned (OpenSpec.ofChange ringTurnsSpec)

/-- ITS FALSE NEIGHBOUR: 'it returns false'. Refute it at one input. -/
def ringTurnsWrong : ChangeSpec := { name := "ringTurns", fn := fun _ => fun
  | [d1, d2, d3] => { results := [.lit (.bool false)], args := [d1, d2, d3] }
  | _ => none }
def RingTurnsWrongFalsely : Prop := ringTurnsRow.holds Try.pinned (OpenSpec.ofChange ringTurnsWrong)

/-- 'revetmentlaw13.PickNewers': WHATEVER THE INPUT: true; the input reads as it did. -/
def pickNewersSpec : ChangeSpec := { name := "pickNewers", fn := fun _ => fun
  | [d1, d2, d3] => { results := [.lit (.bool true)], args := [d1, d2, d3] }
  | _ => none }
def pickNewersRow : OpenClaim := { program := "ytgchdkppjcnkiaa", sum := "c100f2701d15a6d96ce01f9c5de527716e9a23cb16e7e09021cd9a21f212beeb", func := "revetment/revetmentlaw13.PickNewers", spec := "pickNewers", apart := false }
def PickNewersSaid : Prop := pickNewersRow.holds Try.pinned (OpenSpec.ofChange pickNewersSpec)

/-- ITS FALSE NEIGHBOUR: 'it returns false'. Refute it at one input. -/
def pickNewersWrong : ChangeSpec := { name := "pickNewers", fn := fun _ => fun
  | [d1, d2, d3] => { results := [.lit (.bool false)], args := [d1, d2, d3] }
  | _ => none }
def PickNewersWrongFalsely : Prop := pickNewersRow.holds Try.pinned (OpenSpec.ofChange pickNewersWrong)

/-- 'revetmentlaw14.RingFits': WHATEVER THE INPUT: true; the input reads as it did. -/
def ringFitsSpec : ChangeSpec := { name := "ringFits", fn := fun _ => fun
  | [d1, d2, d3] => { results := [.lit (.bool true)], args := [d1, d2, d3] }
  | _ => none }
def ringFitsRow : OpenClaim := { program := "ytgchdkppjcnkiaa", sum := "c100f2701d15a6d96ce01f9c5de527716e9a23cb16e7e09021cd9a21f212beeb", func := "revetment/revetmentlaw14.RingFits", spec := "ringFits", apart := false }
def RingFitsSaid : Prop := ringFitsRow.holds Try.pinned (OpenSpec.ofChange ringFitsSpec)

/-- ITS FALSE NEIGHBOUR: 'it returns false'. Refute it at one input. -/
def ringFitsWrong : ChangeSpec := { name := "ringFits", fn := fun _ => fun
  | [d1, d2, d3] => { results := [.lit (.bool false)], args := [d1, d2, d3] }
  | _ => none }
def RingFitsWrongFalsely : Prop := ringFitsRow.holds Try.pinned (OpenSpec.ofChange ringFitsWrong)

/-- 'revetmentlaw14.RingFar': WHATEVER THE INPUT: true; the input reads as it did. -/
def ringFarSpec : ChangeSpec := { name := "ringFar", fn := fun _ => fun
  | [d1, d2, d3] => { results := [.lit (.bool true)], args := [d1, d2, d3] }
  | _ => none }
def ringFarRow : OpenClaim := { program := "ytgchdkppjcnkiaa", sum := "c100f2701d15a6d96ce01f9c5de527716e9a23cb16e7e09021cd9a21f212beeb", func := "revetment/revetmentlaw14.RingFar", spec := "ringFar", apart := false }
def RingFarSaid : Prop := ringFarRow.holds Try.pinned (OpenSpec.ofChange ringFarSpec)

/-- ITS FALSE NEIGHBOUR: 'it returns false'. Refute it at one input. -/
def ringFarWrong : ChangeSpec := { name := "ringFar", fn := fun _ => fun
  | [d1, d2, d3] => { results := [.lit (.bool false)], args := [d1, d2, d3] }
  | _ => none }
def RingFarWrongFalsely : Prop := ringFarRow.holds Try.pinned (OpenSpec.ofChange ringFarWrong)

/-- 'revetmentlaw13.PickBests': WHATEVER THE INPUT: true; the input reads as it did. -/
def pickBestsSpec : ChangeSpec := { name := "pickBests", fn := fun _ => fun
  | [d] => { results := [.lit (.bool true)], args := [d] }
  | _ => none }
def pickBestsRow : OpenClaim := { program := "ytgchdkppjcnkiaa", sum := "c100f2701d15a6d96ce01f9c5de527716e9a23cb16e7e09021cd9a21f212beeb", func := "revetment/revetmentlaw13.PickBests", spec := "pickBests", apart := false }
def PickBestsSaid : Prop := pickBestsRow.holds Try.pinned (OpenSpec.ofChange pickBestsSpec)

/-- ITS FALSE NEIGHBOUR: 'it returns false'. Refute it at one input. -/
def pickBestsWrong : ChangeSpec := { name := "pickBests", fn := fun _ => fun
  | [d] => { results := [.lit (.bool false)], args := [d] }
  | _ => none }
def PickBestsWrongFalsely : Prop := pickBestsRow.holds Try.pinned (OpenSpec.ofChange pickBestsWrong)

/- THE SECOND FORM. 'bulk': how many values and letters a reading holds, each counted each time it is reached (what is shared counts as often as it is met; a slice's spare places count too). A statement '..UptoSaid' is the law's where the arguments, and the package variables that the reading takes, are together of bulk at most 1048576: NARROWER than '..Said'. Prove '..Said' where nothing that the law and all that it calls make is longer than what came in: it says more and counts as full. Else prove '..UptoSaid'. A law counts once. -/
mutual
def uptoBulk {H : Type} : DataW H → Nat
  | .lit (.string bytes) => bytes.length + 1
  | .lit _ => 1
  | .nil => 1
  | .ptr d => uptoBulk d + 1
  | .slice elems spare => uptoBulkAll elems + uptoBulkAll spare + 1
  | .agg parts => uptoBulkAll parts + 1
  | .iface _ d => uptoBulk d + 1
  | .map entries => uptoBulkEntries entries + 1
  | .held _ => 1
def uptoBulkAll {H : Type} : List (DataW H) → Nat
  | [] => 0
  | d :: r => uptoBulk d + uptoBulkAll r
def uptoBulkEntries {H : Type} : List (Lit × DataW H) → Nat
  | [] => 0
  | x :: r => uptoBulkEntry x + uptoBulkEntries r
def uptoBulkEntry {H : Type} : Lit × DataW H → Nat
  | (.string bytes, d) => bytes.length + uptoBulk d + 1
  | (_, d) => uptoBulk d + 1
 end
def uptoSmall : (H : Type) → List (DataW H) → Bool := fun _ ds => decide (uptoBulkAll ds ≤ 1048576)
def OpenSpec.upto (s : _root_.Go.ChangeSpec) : _root_.Go.OpenSpec := { _root_.Go.OpenSpec.ofChange s with cond := some uptoSmall }

/-- 'revetmentlaw14.RingTurns', WHERE WHAT IT READS IS OF BULK AT MOST 1048576: true; the input reads as it did. -/
def ringTurnsUptoRow : OpenClaim := { program := "ytgchdkppjcnkiaa", sum := "c100f2701d15a6d96ce01f9c5de527716e9a23cb16e7e09021cd9a21f212beeb", func := "revetment/revetmentlaw14.RingTurns", spec := "ringTurns", apart := false, narrowed := true }
def RingTurnsUptoSaid : Prop := ringTurnsUptoRow.holds Try.pinned (OpenSpec.upto ringTurnsSpec)

/-- 'revetmentlaw13.PickNewers', WHERE WHAT IT READS IS OF BULK AT MOST 1048576: true; the input reads as it did. -/
def pickNewersUptoRow : OpenClaim := { program := "ytgchdkppjcnkiaa", sum := "c100f2701d15a6d96ce01f9c5de527716e9a23cb16e7e09021cd9a21f212beeb", func := "revetment/revetmentlaw13.PickNewers", spec := "pickNewers", apart := false, narrowed := true }
def PickNewersUptoSaid : Prop := pickNewersUptoRow.holds Try.pinned (OpenSpec.upto pickNewersSpec)

/-- 'revetmentlaw14.RingFits', WHERE WHAT IT READS IS OF BULK AT MOST 1048576: true; the input reads as it did. -/
def ringFitsUptoRow : OpenClaim := { program := "ytgchdkppjcnkiaa", sum := "c100f2701d15a6d96ce01f9c5de527716e9a23cb16e7e09021cd9a21f212beeb", func := "revetment/revetmentlaw14.RingFits", spec := "ringFits", apart := false, narrowed := true }
def RingFitsUptoSaid : Prop := ringFitsUptoRow.holds Try.pinned (OpenSpec.upto ringFitsSpec)

/-- 'revetmentlaw14.RingFar', WHERE WHAT IT READS IS OF BULK AT MOST 1048576: true; the input reads as it did. -/
def ringFarUptoRow : OpenClaim := { program := "ytgchdkppjcnkiaa", sum := "c100f2701d15a6d96ce01f9c5de527716e9a23cb16e7e09021cd9a21f212beeb", func := "revetment/revetmentlaw14.RingFar", spec := "ringFar", apart := false, narrowed := true }
def RingFarUptoSaid : Prop := ringFarUptoRow.holds Try.pinned (OpenSpec.upto ringFarSpec)

/-- 'revetmentlaw13.PickBests', WHERE WHAT IT READS IS OF BULK AT MOST 1048576: true; the input reads as it did. -/
def pickBestsUptoRow : OpenClaim := { program := "ytgchdkppjcnkiaa", sum := "c100f2701d15a6d96ce01f9c5de527716e9a23cb16e7e09021cd9a21f212beeb", func := "revetment/revetmentlaw13.PickBests", spec := "pickBests", apart := false, narrowed := true }
def PickBestsUptoSaid : Prop := pickBestsUptoRow.holds Try.pinned (OpenSpec.upto pickBestsSpec)

end Rows
end Go.Proofs.Ytgchdkppjcnkiaa

/-
  No cell of these rows narrows 'for every input' (looked for: loops, veiled, ifaces, maps, wideKeys, modest, calm, conditions, laid).
  DERIVED. THE GIVEN ROWS OF THIS SEAT. 5 by the template 'for every input the law returns true; each argument reads behind the call as it read before'; 0 by the template 'total and deterministic' (their statements: YtlhmpmmblnbmbaaTotals.lean).
  GIVEN WITH THE SEED: the statements are not yours to turn. If you find one false, say at which input.
  Laid BY PROGRAM, IN A SANDBOX (cutbox-rows.mjs): the forced cells as the released guide's own fill.sh prints them over the translation 84862970b484ed64… (all of the seat's roots in one cut). By AI agents, Wed Nov 11 2026. No macro, syntax, notation, axiom, sorry.
-/
import Derived.Test.YtlhmpmmblnbmbaaChecked
import GoSem.Claim
import GoSem.ClaimJoined
import GoSem.ClaimMapViews
import Derived.JoinedTies
import Derived.KernelRfl
namespace Go.Proofs.Ytlhmpmmblnbmbaa
/- THE CELL 'sum', in the pinned program and in every row, IS THE sha256 OF THE DUMP (.gsa) THAT YtlhmpmmblnbmbaaProg.lean LOADS. Nothing in Lean hashes anything: it is a label: what it is worth is what the hold of that sum in a sandbox is worth. -/
noncomputable def Try.pinned : Pinned := { name := "ytlhmpmmblnbmbaa", sum := "84862970b484ed64b32eb3fa2b05cc25c314d3dda1a21c2aee33a50a40ff5f85", checked := Try.checked }
namespace Rows
def none {H : Type} : Left H := { results := [], args := [] }

/-- 'revetmentlaw37.ConsoleWords': WHATEVER THE INPUT: true; the input reads as it did. -/
def consoleWordsSpec : ChangeSpec := { name := "consoleWords", fn := fun _ => fun
  | [d] => { results := [.lit (.bool true)], args := [d] }
  | _ => none }
def consoleWordsRow : OpenClaim := { program := "ytlhmpmmblnbmbaa", sum := "84862970b484ed64b32eb3fa2b05cc25c314d3dda1a21c2aee33a50a40ff5f85", func := "revetment/revetmentlaw37.ConsoleWords", spec := "consoleWords", unfollowed := true, recurses := true, plainKeys := false, apart := false }
def ConsoleWordsSaid : Prop := consoleWordsRow.holds Try.pinned (OpenSpec.ofChange consoleWordsSpec)

/-- ITS FALSE NEIGHBOUR: 'it returns false'. Refute it at one input. -/
def consoleWordsWrong : ChangeSpec := { name := "consoleWords", fn := fun _ => fun
  | [d] => { results := [.lit (.bool false)], args := [d] }
  | _ => none }
def ConsoleWordsWrongFalsely : Prop := consoleWordsRow.holds Try.pinned (OpenSpec.ofChange consoleWordsWrong)

/-- 'revetmentlaw35.CacheHolds': WHATEVER THE INPUT: true; the input reads as it did. -/
def cacheHoldsSpec : ChangeSpec := { name := "cacheHolds", fn := fun _ => fun
  | [d1, d2] => { results := [.lit (.bool true)], args := [d1, d2] }
  | _ => none }
def cacheHoldsRow : OpenClaim := { program := "ytlhmpmmblnbmbaa", sum := "84862970b484ed64b32eb3fa2b05cc25c314d3dda1a21c2aee33a50a40ff5f85", func := "revetment/revetmentlaw35.CacheHolds", spec := "cacheHolds", unfollowed := true, recurses := true, plainKeys := false, apart := false }
def CacheHoldsSaid : Prop := cacheHoldsRow.holds Try.pinned (OpenSpec.ofChange cacheHoldsSpec)

/-- ITS FALSE NEIGHBOUR: 'it returns false'. Refute it at one input. -/
def cacheHoldsWrong : ChangeSpec := { name := "cacheHolds", fn := fun _ => fun
  | [d1, d2] => { results := [.lit (.bool false)], args := [d1, d2] }
  | _ => none }
def CacheHoldsWrongFalsely : Prop := cacheHoldsRow.holds Try.pinned (OpenSpec.ofChange cacheHoldsWrong)

/-- 'revetmentlaw35.CachePlays': WHATEVER THE INPUT: true; the input reads as it did. -/
def cachePlaysSpec : ChangeSpec := { name := "cachePlays", fn := fun _ => fun
  | [d1, d2] => { results := [.lit (.bool true)], args := [d1, d2] }
  | _ => none }
def cachePlaysRow : OpenClaim := { program := "ytlhmpmmblnbmbaa", sum := "84862970b484ed64b32eb3fa2b05cc25c314d3dda1a21c2aee33a50a40ff5f85", func := "revetment/revetmentlaw35.CachePlays", spec := "cachePlays", unfollowed := true, recurses := true, plainKeys := false, apart := false }
def CachePlaysSaid : Prop := cachePlaysRow.holds Try.pinned (OpenSpec.ofChange cachePlaysSpec)

/-- ITS FALSE NEIGHBOUR: 'it returns false'. Refute it at one input. -/
def cachePlaysWrong : ChangeSpec := { name := "cachePlays", fn := fun _ => fun
  | [d1, d2] => { results := [.lit (.bool false)], args := [d1, d2] }
  | _ => none }
def CachePlaysWrongFalsely : Prop := cachePlaysRow.holds Try.pinned (OpenSpec.ofChange cachePlaysWrong)

/-- 'revetmentlaw35.CacheNils': WHATEVER THE INPUT: true; the input reads as it did. -/
def cacheNilsSpec : ChangeSpec := { name := "cacheNils", fn := fun _ => fun
  | [d] => { results := [.lit (.bool true)], args := [d] }
  | _ => none }
def cacheNilsRow : OpenClaim := { program := "ytlhmpmmblnbmbaa", sum := "84862970b484ed64b32eb3fa2b05cc25c314d3dda1a21c2aee33a50a40ff5f85", func := "revetment/revetmentlaw35.CacheNils", spec := "cacheNils", unfollowed := true, recurses := true, plainKeys := false, apart := false }
def CacheNilsSaid : Prop := cacheNilsRow.holds Try.pinned (OpenSpec.ofChange cacheNilsSpec)

/-- ITS FALSE NEIGHBOUR: 'it returns false'. Refute it at one input. -/
def cacheNilsWrong : ChangeSpec := { name := "cacheNils", fn := fun _ => fun
  | [d] => { results := [.lit (.bool false)], args := [d] }
  | _ => none }
def CacheNilsWrongFalsely : Prop := cacheNilsRow.holds Try.pinned (OpenSpec.ofChange cacheNilsWrong)

/-- 'revetmentlaw38.ImageAny': WHATEVER THE INPUT: true; the input reads as it did. -/
def imageAnySpec : ChangeSpec := { name := "imageAny", fn := fun _ => fun
  | [d] => { results := [.lit (.bool true)], args := [d] }
  | _ => none }
def imageAnyRow : OpenClaim := { program := "ytlhmpmmblnbmbaa", sum := "84862970b484ed64b32eb3fa2b05cc25c314d3dda1a21c2aee33a50a40ff5f85", func := "revetment/revetmentlaw38.ImageAny", spec := "imageAny", unfollowed := true, recurses := true, plainKeys := false, apart := false }
def ImageAnySaid : Prop := imageAnyRow.holds Try.pinned (OpenSpec.ofChange imageAnySpec)

/-- ITS FALSE NEIGHBOUR: 'it returns false'. Refute it at one input. -/
def imageAnyWrong : ChangeSpec := { name := "imageAny", fn := fun _ => fun
  | [d] => { results := [.lit (.bool false)], args := [d] }
  | _ => none }
def ImageAnyWrongFalsely : Prop := imageAnyRow.holds Try.pinned (OpenSpec.ofChange imageAnyWrong)

/- THE SECOND FORM. 'bulk': how many values and letters a reading holds, each counted each time it is reached (what is shared counts as often as it is met; a slice's spare places count too). A statement '..UptoSaid' is the law's where the arguments, and the package variables that the reading takes, are together of bulk at most 1048576: NARROWER than '..Said'. Prove '..Said' where nothing that the law and all that it calls make is longer than what came in: it says more and counts as full. Else prove '..UptoSaid'. A law counts once. -/
mutual
def uptoBulk {H : Type} : DataW H → Nat
  | .lit (.string bytes) => bytes.length + 1
  | .lit _ => 1
  | .nil => 1
  | .ptr d => uptoBulk d + 1
  | .slice elems spare => uptoBulkAll elems + uptoBulkAll spare + 1
  | .agg parts => uptoBulkAll parts + 1
  | .iface _ d => uptoBulk d + 1
  | .map entries => uptoBulkEntries entries + 1
  | .held _ => 1
def uptoBulkAll {H : Type} : List (DataW H) → Nat
  | [] => 0
  | d :: r => uptoBulk d + uptoBulkAll r
def uptoBulkEntries {H : Type} : List (Lit × DataW H) → Nat
  | [] => 0
  | x :: r => uptoBulkEntry x + uptoBulkEntries r
def uptoBulkEntry {H : Type} : Lit × DataW H → Nat
  | (.string bytes, d) => bytes.length + uptoBulk d + 1
  | (_, d) => uptoBulk d + 1
 end
def uptoSmall : (H : Type) → List (DataW H) → Bool := fun _ ds => decide (uptoBulkAll ds ≤ 1048576)
def OpenSpec.upto (s : _root_.Go.ChangeSpec) : _root_.Go.OpenSpec := { _root_.Go.OpenSpec.ofChange s with cond := some uptoSmall }

/-- 'revetmentlaw37.ConsoleWords', WHERE WHAT IT READS IS OF BULK AT MOST 1048576: true; the input reads as it did. -/
def consoleWordsUptoRow : OpenClaim := { program := "ytlhmpmmblnbmbaa", sum := "84862970b484ed64b32eb3fa2b05cc25c314d3dda1a21c2aee33a50a40ff5f85", func := "revetment/revetmentlaw37.ConsoleWords", spec := "consoleWords", unfollowed := true, recurses := true, plainKeys := false, apart := false, narrowed := true }
def ConsoleWordsUptoSaid : Prop := consoleWordsUptoRow.holds Try.pinned (OpenSpec.upto consoleWordsSpec)

/-- 'revetmentlaw35.CacheHolds', WHERE WHAT IT READS IS OF BULK AT MOST 1048576: true; the input reads as it did. -/
def cacheHoldsUptoRow : OpenClaim := { program := "ytlhmpmmblnbmbaa", sum := "84862970b484ed64b32eb3fa2b05cc25c314d3dda1a21c2aee33a50a40ff5f85", func := "revetment/revetmentlaw35.CacheHolds", spec := "cacheHolds", unfollowed := true, recurses := true, plainKeys := false, apart := false, narrowed := true }
def CacheHoldsUptoSaid : Prop := cacheHoldsUptoRow.holds Try.pinned (OpenSpec.upto cacheHoldsSpec)

/-- 'revetmentlaw35.CachePlays', WHERE WHAT IT READS IS OF BULK AT MOST 1048576: true; the input reads as it did. -/
def cachePlaysUptoRow : OpenClaim := { program := "ytlhmpmmblnbmbaa", sum := "84862970b484ed64b32eb3fa2b05cc25c314d3dda1a21c2aee33a50a40ff5f85", func := "revetment/revetmentlaw35.CachePlays", spec := "cachePlays", unfollowed := true, recurses := true, plainKeys := false, apart := false, narrowed := true }
def CachePlaysUptoSaid : Prop := cachePlaysUptoRow.holds Try.pinned (OpenSpec.upto cachePlaysSpec)

/-- 'revetmentlaw35.CacheNils', WHERE WHAT IT READS IS OF BULK AT MOST 1048576: true; the input reads as it did. -/
def cacheNilsUptoRow : OpenClaim := { program := "ytlhmpmmblnbmbaa", sum := "84862970b484ed64b32eb3fa2b05cc25c314d3dda1a21c2aee33a50a40ff5f85", func := "revetment/revetmentlaw35.CacheNils", spec := "cacheNils", unfollowed := true, recurses := true, plainKeys := false, apart := false, narrowed := true }
def CacheNilsUptoSaid : Prop := cacheNilsUptoRow.holds Try.pinned (OpenSpec.upto cacheNilsSpec)

/-- 'revetmentlaw38.ImageAny', WHERE WHAT IT READS IS OF BULK AT MOST 1048576: true; the input reads as it did. -/
def imageAnyUptoRow : OpenClaim := { program := "ytlhmpmmblnbmbaa", sum := "84862970b484ed64b32eb3fa2b05cc25c314d3dda1a21c2aee33a50a40ff5f85", func := "revetment/revetmentlaw38.ImageAny", spec := "imageAny", unfollowed := true, recurses := true, plainKeys := false, apart := false, narrowed := true }
def ImageAnyUptoSaid : Prop := imageAnyUptoRow.holds Try.pinned (OpenSpec.upto imageAnySpec)

end Rows
end Go.Proofs.Ytlhmpmmblnbmbaa

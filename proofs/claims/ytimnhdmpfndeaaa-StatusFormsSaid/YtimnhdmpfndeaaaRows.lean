/-
  No cell of these rows narrows 'for every input' (looked for: loops, veiled, ifaces, maps, wideKeys, modest, calm, conditions, laid).
  DERIVED. THE GIVEN ROWS OF THIS SEAT. 7 by the template 'for every input the law returns true; each argument reads behind the call as it read before'; 0 by the template 'total and deterministic' (their statements: YtimnhdmpfndeaaaTotals.lean).
  GIVEN WITH THE SEED: the statements are not yours to turn. If you find one false, say at which input.
  Laid BY PROGRAM, IN A SANDBOX (cutbox-rows.mjs): the forced cells as the released guide's own fill.sh prints them over the translation 84624fe9feb67795… (all of the seat's roots in one cut). By AI agents, Wed Nov 11 2026. No macro, syntax, notation, axiom, sorry.
-/
import Derived.Test.YtimnhdmpfndeaaaChecked
import GoSem.Claim
import GoSem.ClaimJoined
import GoSem.ClaimMapViews
import Derived.JoinedTies
import Derived.KernelRfl
namespace Go.Proofs.Ytimnhdmpfndeaaa
/- THE CELL 'sum', in the pinned program and in every row, IS THE sha256 OF THE DUMP (.gsa) THAT YtimnhdmpfndeaaaProg.lean LOADS. Nothing in Lean hashes anything: it is a label: what it is worth is what the hold of that sum in a sandbox is worth. -/
noncomputable def Try.pinned : Pinned := { name := "ytimnhdmpfndeaaa", sum := "84624fe9feb677959b30352f53d5dafb8f95845957f0fcc7d88c13555179e2eb", checked := Try.checked }
namespace Rows
def none {H : Type} : Left H := { results := [], args := [] }

/-- 'skifflaw8.Places': WHATEVER THE INPUT: true; the input reads as it did. -/
def placesSpec : ChangeSpec := { name := "places", fn := fun _ => fun
  | [d1, d2] => { results := [.lit (.bool true)], args := [d1, d2] }
  | _ => none }
def placesRow : OpenClaim := { program := "ytimnhdmpfndeaaa", sum := "84624fe9feb677959b30352f53d5dafb8f95845957f0fcc7d88c13555179e2eb", func := "skiff/skifflaw8.Places", spec := "places", inPlace := ["internal/abi.NoEscape", "internal/bytealg.MakeNoZero"], unfollowed := true, recurses := true, apart := false }
def PlacesSaid : Prop := placesRow.holds Try.pinned (OpenSpec.ofChange placesSpec)

/-- ITS FALSE NEIGHBOUR: 'it returns false'. Refute it at one input. -/
def placesWrong : ChangeSpec := { name := "places", fn := fun _ => fun
  | [d1, d2] => { results := [.lit (.bool false)], args := [d1, d2] }
  | _ => none }
def PlacesWrongFalsely : Prop := placesRow.holds Try.pinned (OpenSpec.ofChange placesWrong)

/-- 'skifflaw8.PlaceCut': WHATEVER THE INPUT: true; the input reads as it did. -/
def placeCutSpec : ChangeSpec := { name := "placeCut", fn := fun _ => fun
  | [d1, d2, d3, d4, d5] => { results := [.lit (.bool true)], args := [d1, d2, d3, d4, d5] }
  | _ => none }
def placeCutRow : OpenClaim := { program := "ytimnhdmpfndeaaa", sum := "84624fe9feb677959b30352f53d5dafb8f95845957f0fcc7d88c13555179e2eb", func := "skiff/skifflaw8.PlaceCut", spec := "placeCut", inPlace := ["internal/abi.NoEscape", "internal/bytealg.MakeNoZero"], unfollowed := true, recurses := true, apart := false }
def PlaceCutSaid : Prop := placeCutRow.holds Try.pinned (OpenSpec.ofChange placeCutSpec)

/-- ITS FALSE NEIGHBOUR: 'it returns false'. Refute it at one input. -/
def placeCutWrong : ChangeSpec := { name := "placeCut", fn := fun _ => fun
  | [d1, d2, d3, d4, d5] => { results := [.lit (.bool false)], args := [d1, d2, d3, d4, d5] }
  | _ => none }
def PlaceCutWrongFalsely : Prop := placeCutRow.holds Try.pinned (OpenSpec.ofChange placeCutWrong)

/-- 'skifflaw8.PlaceForms': WHATEVER THE INPUT: true; the input reads as it did. -/
def placeFormsSpec : ChangeSpec := { name := "placeForms", fn := fun _ => fun
  | [d1, d2] => { results := [.lit (.bool true)], args := [d1, d2] }
  | _ => none }
def placeFormsRow : OpenClaim := { program := "ytimnhdmpfndeaaa", sum := "84624fe9feb677959b30352f53d5dafb8f95845957f0fcc7d88c13555179e2eb", func := "skiff/skifflaw8.PlaceForms", spec := "placeForms", inPlace := ["internal/abi.NoEscape", "internal/bytealg.MakeNoZero"], unfollowed := true, recurses := true, apart := false }
def PlaceFormsSaid : Prop := placeFormsRow.holds Try.pinned (OpenSpec.ofChange placeFormsSpec)

/-- ITS FALSE NEIGHBOUR: 'it returns false'. Refute it at one input. -/
def placeFormsWrong : ChangeSpec := { name := "placeForms", fn := fun _ => fun
  | [d1, d2] => { results := [.lit (.bool false)], args := [d1, d2] }
  | _ => none }
def PlaceFormsWrongFalsely : Prop := placeFormsRow.holds Try.pinned (OpenSpec.ofChange placeFormsWrong)

/-- 'skifflaw8.PlaceHome': WHATEVER THE INPUT: true; the input reads as it did. -/
def placeHomeSpec : ChangeSpec := { name := "placeHome", fn := fun _ => fun
  | [d1, d2] => { results := [.lit (.bool true)], args := [d1, d2] }
  | _ => none }
def placeHomeRow : OpenClaim := { program := "ytimnhdmpfndeaaa", sum := "84624fe9feb677959b30352f53d5dafb8f95845957f0fcc7d88c13555179e2eb", func := "skiff/skifflaw8.PlaceHome", spec := "placeHome", inPlace := ["internal/abi.NoEscape", "internal/bytealg.MakeNoZero"], unfollowed := true, recurses := true, apart := false }
def PlaceHomeSaid : Prop := placeHomeRow.holds Try.pinned (OpenSpec.ofChange placeHomeSpec)

/-- ITS FALSE NEIGHBOUR: 'it returns false'. Refute it at one input. -/
def placeHomeWrong : ChangeSpec := { name := "placeHome", fn := fun _ => fun
  | [d1, d2] => { results := [.lit (.bool false)], args := [d1, d2] }
  | _ => none }
def PlaceHomeWrongFalsely : Prop := placeHomeRow.holds Try.pinned (OpenSpec.ofChange placeHomeWrong)

/-- 'skifflaw8.PlaceRow': WHATEVER THE INPUT: true; the input reads as it did. -/
def placeRowSpec : ChangeSpec := { name := "placeRow", fn := fun _ => fun
  | [d] => { results := [.lit (.bool true)], args := [d] }
  | _ => none }
def placeRowRow : OpenClaim := { program := "ytimnhdmpfndeaaa", sum := "84624fe9feb677959b30352f53d5dafb8f95845957f0fcc7d88c13555179e2eb", func := "skiff/skifflaw8.PlaceRow", spec := "placeRow", inPlace := ["internal/abi.NoEscape", "internal/bytealg.MakeNoZero"], unfollowed := true, recurses := true, apart := false }
def PlaceRowSaid : Prop := placeRowRow.holds Try.pinned (OpenSpec.ofChange placeRowSpec)

/-- ITS FALSE NEIGHBOUR: 'it returns false'. Refute it at one input. -/
def placeRowWrong : ChangeSpec := { name := "placeRow", fn := fun _ => fun
  | [d] => { results := [.lit (.bool false)], args := [d] }
  | _ => none }
def PlaceRowWrongFalsely : Prop := placeRowRow.holds Try.pinned (OpenSpec.ofChange placeRowWrong)

/-- 'skifflaw19.StatusForms': WHATEVER THE INPUT: true; the input reads as it did. -/
def statusFormsSpec : ChangeSpec := { name := "statusForms", fn := fun _ => fun
  | [d1, d2] => { results := [.lit (.bool true)], args := [d1, d2] }
  | _ => none }
def statusFormsRow : OpenClaim := { program := "ytimnhdmpfndeaaa", sum := "84624fe9feb677959b30352f53d5dafb8f95845957f0fcc7d88c13555179e2eb", func := "skiff/skifflaw19.StatusForms", spec := "statusForms", inPlace := ["internal/abi.NoEscape", "internal/bytealg.MakeNoZero"], unfollowed := true, recurses := true, apart := false }
def StatusFormsSaid : Prop := statusFormsRow.holds Try.pinned (OpenSpec.ofChange statusFormsSpec)

/-- ITS FALSE NEIGHBOUR: 'it returns false'. Refute it at one input. -/
def statusFormsWrong : ChangeSpec := { name := "statusForms", fn := fun _ => fun
  | [d1, d2] => { results := [.lit (.bool false)], args := [d1, d2] }
  | _ => none }
def StatusFormsWrongFalsely : Prop := statusFormsRow.holds Try.pinned (OpenSpec.ofChange statusFormsWrong)

/-- 'skifflaw19.StatusTwice': WHATEVER THE INPUT: true; the input reads as it did. -/
def statusTwiceSpec : ChangeSpec := { name := "statusTwice", fn := fun _ => fun
  | [d1, d2] => { results := [.lit (.bool true)], args := [d1, d2] }
  | _ => none }
def statusTwiceRow : OpenClaim := { program := "ytimnhdmpfndeaaa", sum := "84624fe9feb677959b30352f53d5dafb8f95845957f0fcc7d88c13555179e2eb", func := "skiff/skifflaw19.StatusTwice", spec := "statusTwice", inPlace := ["internal/abi.NoEscape", "internal/bytealg.MakeNoZero"], unfollowed := true, recurses := true, apart := false }
def StatusTwiceSaid : Prop := statusTwiceRow.holds Try.pinned (OpenSpec.ofChange statusTwiceSpec)

/-- ITS FALSE NEIGHBOUR: 'it returns false'. Refute it at one input. -/
def statusTwiceWrong : ChangeSpec := { name := "statusTwice", fn := fun _ => fun
  | [d1, d2] => { results := [.lit (.bool false)], args := [d1, d2] }
  | _ => none }
def StatusTwiceWrongFalsely : Prop := statusTwiceRow.holds Try.pinned (OpenSpec.ofChange statusTwiceWrong)

/- THE SECOND FORM. 'bulk': how many values and letters a reading holds, each counted each time it is reached (what is shared counts as often as it is met; a slice's spare places count too). A statement '..UptoSaid' is the law's where the arguments, and the package variables that the reading takes, are together of bulk at most 1048576: NARROWER than '..Said'. Prove '..Said' where nothing that the law and all that it calls make is longer than what came in: it says more and counts as full. Else prove '..UptoSaid'. A law counts once. -/
mutual
def uptoBulk {H : Type} : DataW H → Nat
  | .lit (.string bytes) => bytes.length + 1
  | .lit _ => 1
  | .nil => 1
  | .ptr d => uptoBulk d + 1
  | .slice elems spare => uptoBulkAll elems + uptoBulkAll spare + 1
  | .agg parts => uptoBulkAll parts + 1
  | .iface _ d => uptoBulk d + 1
  | .map entries => uptoBulkEntries entries + 1
  | .held _ => 1
def uptoBulkAll {H : Type} : List (DataW H) → Nat
  | [] => 0
  | d :: r => uptoBulk d + uptoBulkAll r
def uptoBulkEntries {H : Type} : List (Lit × DataW H) → Nat
  | [] => 0
  | x :: r => uptoBulkEntry x + uptoBulkEntries r
def uptoBulkEntry {H : Type} : Lit × DataW H → Nat
  | (.string bytes, d) => bytes.length + uptoBulk d + 1
  | (_, d) => uptoBulk d + 1
 end
def uptoSmall : (H : Type) → List (DataW H) → Bool := fun _ ds => decide (uptoBulkAll ds ≤ 1048576)
def OpenSpec.upto (s : _root_.Go.ChangeSpec) : _root_.Go.OpenSpec := { _root_.Go.OpenSpec.ofChange s with cond := some uptoSmall }

/-- 'skifflaw8.Places', WHERE WHAT IT READS IS OF BULK AT MOST 1048576: true; the input reads as it did. -/
def placesUptoRow : OpenClaim := { program := "ytimnhdmpfndeaaa", sum := "84624fe9feb677959b30352f53d5dafb8f95845957f0fcc7d88c13555179e2eb", func := "skiff/skifflaw8.Places", spec := "places", inPlace := ["internal/abi.NoEscape", "internal/bytealg.MakeNoZero"], unfollowed := true, recurses := true, apart := false, narrowed := true }
def PlacesUptoSaid : Prop := placesUptoRow.holds Try.pinned (OpenSpec.upto placesSpec)

/-- 'skifflaw8.PlaceCut', WHERE WHAT IT READS IS OF BULK AT MOST 1048576: true; the input reads as it did. -/
def placeCutUptoRow : OpenClaim := { program := "ytimnhdmpfndeaaa", sum := "84624fe9feb677959b30352f53d5dafb8f95845957f0fcc7d88c13555179e2eb", func := "skiff/skifflaw8.PlaceCut", spec := "placeCut", inPlace := ["internal/abi.NoEscape", "internal/bytealg.MakeNoZero"], unfollowed := true, recurses := true, apart := false, narrowed := true }
def PlaceCutUptoSaid : Prop := placeCutUptoRow.holds Try.pinned (OpenSpec.upto placeCutSpec)

/-- 'skifflaw8.PlaceForms', WHERE WHAT IT READS IS OF BULK AT MOST 1048576: true; the input reads as it did. -/
def placeFormsUptoRow : OpenClaim := { program := "ytimnhdmpfndeaaa", sum := "84624fe9feb677959b30352f53d5dafb8f95845957f0fcc7d88c13555179e2eb", func := "skiff/skifflaw8.PlaceForms", spec := "placeForms", inPlace := ["internal/abi.NoEscape", "internal/bytealg.MakeNoZero"], unfollowed := true, recurses := true, apart := false, narrowed := true }
def PlaceFormsUptoSaid : Prop := placeFormsUptoRow.holds Try.pinned (OpenSpec.upto placeFormsSpec)

/-- 'skifflaw8.PlaceHome', WHERE WHAT IT READS IS OF BULK AT MOST 1048576: true; the input reads as it did. -/
def placeHomeUptoRow : OpenClaim := { program := "ytimnhdmpfndeaaa", sum := "84624fe9feb677959b30352f53d5dafb8f95845957f0fcc7d88c13555179e2eb", func := "skiff/skifflaw8.PlaceHome", spec := "placeHome", inPlace := ["internal/abi.NoEscape", "internal/bytealg.MakeNoZero"], unfollowed := true, recurses := true, apart := false, narrowed := true }
def PlaceHomeUptoSaid : Prop := placeHomeUptoRow.holds Try.pinned (OpenSpec.upto placeHomeSpec)

/-- 'skifflaw8.PlaceRow', WHERE WHAT IT READS IS OF BULK AT MOST 1048576: true; the input reads as it did. -/
def placeRowUptoRow : OpenClaim := { program := "ytimnhdmpfndeaaa", sum := "84624fe9feb677959b30352f53d5dafb8f95845957f0fcc7d88c13555179e2eb", func := "skiff/skifflaw8.PlaceRow", spec := "placeRow", inPlace := ["internal/abi.NoEscape", "internal/bytealg.MakeNoZero"], unfollowed := true, recurses := true, apart := false, narrowed := true }
def PlaceRowUptoSaid : Prop := placeRowUptoRow.holds Try.pinned (OpenSpec.upto placeRowSpec)

/-- 'skifflaw19.StatusForms', WHERE WHAT IT READS IS OF BULK AT MOST 1048576: true; the input reads as it did. -/
def statusFormsUptoRow : OpenClaim := { program := "ytimnhdmpfndeaaa", sum := "84624fe9feb677959b30352f53d5dafb8f95845957f0fcc7d88c13555179e2eb", func := "skiff/skifflaw19.StatusForms", spec := "statusForms", inPlace := ["internal/abi.NoEscape", "internal/bytealg.MakeNoZero"], unfollowed := true, recurses := true, apart := false, narrowed := true }
def StatusFormsUptoSaid : Prop := statusFormsUptoRow.holds Try.pinned (OpenSpec.upto statusFormsSpec)

/-- 'skifflaw19.StatusTwice', WHERE WHAT IT READS IS OF BULK AT MOST 1048576: true; the input reads as it did. -/
def statusTwiceUptoRow : OpenClaim := { program := "ytimnhdmpfndeaaa", sum := "84624fe9feb677959b30352f53d5dafb8f95845957f0fcc7d88c13555179e2eb", func := "skiff/skifflaw19.StatusTwice", spec := "statusTwice", inPlace := ["internal/abi.NoEscape", "internal/bytealg.MakeNoZero"], unfollowed := true, recurses := true, apart := false, narrowed := true }
def StatusTwiceUptoSaid : Prop := statusTwiceUptoRow.holds Try.pinned (OpenSpec.upto statusTwiceSpec)

end Rows
end Go.Proofs.Ytimnhdmpfndeaaa

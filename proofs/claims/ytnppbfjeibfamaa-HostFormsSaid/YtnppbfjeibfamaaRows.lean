/-
  No cell of these rows narrows 'for every input' (looked for: loops, veiled, ifaces, maps, wideKeys, modest, calm, conditions, laid).
  DERIVED. THE GIVEN ROWS OF THIS SEAT. 10 by the template 'for every input the law returns true; each argument reads behind the call as it read before'; 0 by the template 'total and deterministic' (their statements: YtnppbfjeibfamaaTotals.lean).
  GIVEN WITH THE SEED: the statements are not yours to turn. If you find one false, say at which input.
  Laid BY PROGRAM, IN A SANDBOX (cutbox-rows.mjs): the forced cells as the released guide's own fill.sh prints them over the translation 995fcdd42404f26b… (all of the seat's roots in one cut). By AI agents, Wed Nov 11 2026. No macro, syntax, notation, axiom, sorry.
-/
import Derived.Test.YtnppbfjeibfamaaChecked
import GoSem.Claim
import GoSem.ClaimJoined
import GoSem.ClaimMapViews
import Derived.JoinedTies
import Derived.KernelRfl
namespace Go.Proofs.Ytnppbfjeibfamaa
/- THE CELL 'sum', in the pinned program and in every row, IS THE sha256 OF THE DUMP (.gsa) THAT YtnppbfjeibfamaaProg.lean LOADS. Nothing in Lean hashes anything: it is a label: what it is worth is what the hold of that sum in a sandbox is worth. -/
noncomputable def Try.pinned : Pinned := { name := "ytnppbfjeibfamaa", sum := "995fcdd42404f26b2df713380efebd3d5a79fb1d9eb432bf1be964d046025494", checked := Try.checked }
namespace Rows
def none {H : Type} : Left H := { results := [], args := [] }

/-- 'skifflaw11.Suffixes': WHATEVER THE INPUT: true; the input reads as it did. -/
def suffixesSpec : ChangeSpec := { name := "suffixes", fn := fun _ => fun
  | [d1, d2, d3] => { results := [.lit (.bool true)], args := [d1, d2, d3] }
  | _ => none }
def suffixesRow : OpenClaim := { program := "ytnppbfjeibfamaa", sum := "995fcdd42404f26b2df713380efebd3d5a79fb1d9eb432bf1be964d046025494", func := "skiff/skifflaw11.Suffixes", spec := "suffixes", unfollowed := true, recurses := true, apart := false }
def SuffixesSaid : Prop := suffixesRow.holds Try.pinned (OpenSpec.ofChange suffixesSpec)

/-- ITS FALSE NEIGHBOUR: 'it returns false'. Refute it at one input. -/
def suffixesWrong : ChangeSpec := { name := "suffixes", fn := fun _ => fun
  | [d1, d2, d3] => { results := [.lit (.bool false)], args := [d1, d2, d3] }
  | _ => none }
def SuffixesWrongFalsely : Prop := suffixesRow.holds Try.pinned (OpenSpec.ofChange suffixesWrong)

/-- 'skifflaw11.SuffixBack': WHATEVER THE INPUT: true; the input reads as it did. -/
def suffixBackSpec : ChangeSpec := { name := "suffixBack", fn := fun _ => fun
  | [d1, d2, d3] => { results := [.lit (.bool true)], args := [d1, d2, d3] }
  | _ => none }
def suffixBackRow : OpenClaim := { program := "ytnppbfjeibfamaa", sum := "995fcdd42404f26b2df713380efebd3d5a79fb1d9eb432bf1be964d046025494", func := "skiff/skifflaw11.SuffixBack", spec := "suffixBack", unfollowed := true, recurses := true, apart := false }
def SuffixBackSaid : Prop := suffixBackRow.holds Try.pinned (OpenSpec.ofChange suffixBackSpec)

/-- ITS FALSE NEIGHBOUR: 'it returns false'. Refute it at one input. -/
def suffixBackWrong : ChangeSpec := { name := "suffixBack", fn := fun _ => fun
  | [d1, d2, d3] => { results := [.lit (.bool false)], args := [d1, d2, d3] }
  | _ => none }
def SuffixBackWrongFalsely : Prop := suffixBackRow.holds Try.pinned (OpenSpec.ofChange suffixBackWrong)

/-- 'skifflaw11.SuffixForms': WHATEVER THE INPUT: true; the input reads as it did. -/
def suffixFormsSpec : ChangeSpec := { name := "suffixForms", fn := fun _ => fun
  | [d1, d2] => { results := [.lit (.bool true)], args := [d1, d2] }
  | _ => none }
def suffixFormsRow : OpenClaim := { program := "ytnppbfjeibfamaa", sum := "995fcdd42404f26b2df713380efebd3d5a79fb1d9eb432bf1be964d046025494", func := "skiff/skifflaw11.SuffixForms", spec := "suffixForms", unfollowed := true, recurses := true, apart := false }
def SuffixFormsSaid : Prop := suffixFormsRow.holds Try.pinned (OpenSpec.ofChange suffixFormsSpec)

/-- ITS FALSE NEIGHBOUR: 'it returns false'. Refute it at one input. -/
def suffixFormsWrong : ChangeSpec := { name := "suffixForms", fn := fun _ => fun
  | [d1, d2] => { results := [.lit (.bool false)], args := [d1, d2] }
  | _ => none }
def SuffixFormsWrongFalsely : Prop := suffixFormsRow.holds Try.pinned (OpenSpec.ofChange suffixFormsWrong)

/-- 'skifflaw11.SuffixCut': WHATEVER THE INPUT: true; the input reads as it did. -/
def suffixCutSpec : ChangeSpec := { name := "suffixCut", fn := fun _ => fun
  | [d1, d2, d3] => { results := [.lit (.bool true)], args := [d1, d2, d3] }
  | _ => none }
def suffixCutRow : OpenClaim := { program := "ytnppbfjeibfamaa", sum := "995fcdd42404f26b2df713380efebd3d5a79fb1d9eb432bf1be964d046025494", func := "skiff/skifflaw11.SuffixCut", spec := "suffixCut", unfollowed := true, recurses := true, apart := false }
def SuffixCutSaid : Prop := suffixCutRow.holds Try.pinned (OpenSpec.ofChange suffixCutSpec)

/-- ITS FALSE NEIGHBOUR: 'it returns false'. Refute it at one input. -/
def suffixCutWrong : ChangeSpec := { name := "suffixCut", fn := fun _ => fun
  | [d1, d2, d3] => { results := [.lit (.bool false)], args := [d1, d2, d3] }
  | _ => none }
def SuffixCutWrongFalsely : Prop := suffixCutRow.holds Try.pinned (OpenSpec.ofChange suffixCutWrong)

/-- 'skifflaw11.SuffixUnlike': WHATEVER THE INPUT: true; the input reads as it did. -/
def suffixUnlikeSpec : ChangeSpec := { name := "suffixUnlike", fn := fun _ => fun
  | [d1, d2, d3, d4] => { results := [.lit (.bool true)], args := [d1, d2, d3, d4] }
  | _ => none }
def suffixUnlikeRow : OpenClaim := { program := "ytnppbfjeibfamaa", sum := "995fcdd42404f26b2df713380efebd3d5a79fb1d9eb432bf1be964d046025494", func := "skiff/skifflaw11.SuffixUnlike", spec := "suffixUnlike", unfollowed := true, recurses := true, apart := false }
def SuffixUnlikeSaid : Prop := suffixUnlikeRow.holds Try.pinned (OpenSpec.ofChange suffixUnlikeSpec)

/-- ITS FALSE NEIGHBOUR: 'it returns false'. Refute it at one input. -/
def suffixUnlikeWrong : ChangeSpec := { name := "suffixUnlike", fn := fun _ => fun
  | [d1, d2, d3, d4] => { results := [.lit (.bool false)], args := [d1, d2, d3, d4] }
  | _ => none }
def SuffixUnlikeWrongFalsely : Prop := suffixUnlikeRow.holds Try.pinned (OpenSpec.ofChange suffixUnlikeWrong)

/-- 'skifflaw22.Hosts': WHATEVER THE INPUT: true; the input reads as it did. -/
def hostsSpec : ChangeSpec := { name := "hosts", fn := fun _ => fun
  | [d1, d2, d3] => { results := [.lit (.bool true)], args := [d1, d2, d3] }
  | _ => none }
def hostsRow : OpenClaim := { program := "ytnppbfjeibfamaa", sum := "995fcdd42404f26b2df713380efebd3d5a79fb1d9eb432bf1be964d046025494", func := "skiff/skifflaw22.Hosts", spec := "hosts", unfollowed := true, recurses := true, apart := false }
def HostsSaid : Prop := hostsRow.holds Try.pinned (OpenSpec.ofChange hostsSpec)

/-- ITS FALSE NEIGHBOUR: 'it returns false'. Refute it at one input. -/
def hostsWrong : ChangeSpec := { name := "hosts", fn := fun _ => fun
  | [d1, d2, d3] => { results := [.lit (.bool false)], args := [d1, d2, d3] }
  | _ => none }
def HostsWrongFalsely : Prop := hostsRow.holds Try.pinned (OpenSpec.ofChange hostsWrong)

/-- 'skifflaw22.HostForms': WHATEVER THE INPUT: true; the input reads as it did. -/
def hostFormsSpec : ChangeSpec := { name := "hostForms", fn := fun _ => fun
  | [d1, d2] => { results := [.lit (.bool true)], args := [d1, d2] }
  | _ => none }
def hostFormsRow : OpenClaim := { program := "ytnppbfjeibfamaa", sum := "995fcdd42404f26b2df713380efebd3d5a79fb1d9eb432bf1be964d046025494", func := "skiff/skifflaw22.HostForms", spec := "hostForms", unfollowed := true, recurses := true, apart := false }
def HostFormsSaid : Prop := hostFormsRow.holds Try.pinned (OpenSpec.ofChange hostFormsSpec)

/-- ITS FALSE NEIGHBOUR: 'it returns false'. Refute it at one input. -/
def hostFormsWrong : ChangeSpec := { name := "hostForms", fn := fun _ => fun
  | [d1, d2] => { results := [.lit (.bool false)], args := [d1, d2] }
  | _ => none }
def HostFormsWrongFalsely : Prop := hostFormsRow.holds Try.pinned (OpenSpec.ofChange hostFormsWrong)

/-- 'skifflaw22.HostAsks': WHATEVER THE INPUT: true; the input reads as it did. -/
def hostAsksSpec : ChangeSpec := { name := "hostAsks", fn := fun _ => fun
  | [d1, d2, d3] => { results := [.lit (.bool true)], args := [d1, d2, d3] }
  | _ => none }
def hostAsksRow : OpenClaim := { program := "ytnppbfjeibfamaa", sum := "995fcdd42404f26b2df713380efebd3d5a79fb1d9eb432bf1be964d046025494", func := "skiff/skifflaw22.HostAsks", spec := "hostAsks", unfollowed := true, recurses := true, apart := false }
def HostAsksSaid : Prop := hostAsksRow.holds Try.pinned (OpenSpec.ofChange hostAsksSpec)

/-- ITS FALSE NEIGHBOUR: 'it returns false'. Refute it at one input. -/
def hostAsksWrong : ChangeSpec := { name := "hostAsks", fn := fun _ => fun
  | [d1, d2, d3] => { results := [.lit (.bool false)], args := [d1, d2, d3] }
  | _ => none }
def HostAsksWrongFalsely : Prop := hostAsksRow.holds Try.pinned (OpenSpec.ofChange hostAsksWrong)

/-- 'skifflaw22.HostStarts': WHATEVER THE INPUT: true; the input reads as it did. -/
def hostStartsSpec : ChangeSpec := { name := "hostStarts", fn := fun _ => fun
  | [d1, d2] => { results := [.lit (.bool true)], args := [d1, d2] }
  | _ => none }
def hostStartsRow : OpenClaim := { program := "ytnppbfjeibfamaa", sum := "995fcdd42404f26b2df713380efebd3d5a79fb1d9eb432bf1be964d046025494", func := "skiff/skifflaw22.HostStarts", spec := "hostStarts", unfollowed := true, recurses := true, apart := false }
def HostStartsSaid : Prop := hostStartsRow.holds Try.pinned (OpenSpec.ofChange hostStartsSpec)

/-- ITS FALSE NEIGHBOUR: 'it returns false'. Refute it at one input. -/
def hostStartsWrong : ChangeSpec := { name := "hostStarts", fn := fun _ => fun
  | [d1, d2] => { results := [.lit (.bool false)], args := [d1, d2] }
  | _ => none }
def HostStartsWrongFalsely : Prop := hostStartsRow.holds Try.pinned (OpenSpec.ofChange hostStartsWrong)

/-- 'skifflaw22.HostPieces': WHATEVER THE INPUT: true; the input reads as it did. -/
def hostPiecesSpec : ChangeSpec := { name := "hostPieces", fn := fun _ => fun
  | [d] => { results := [.lit (.bool true)], args := [d] }
  | _ => none }
def hostPiecesRow : OpenClaim := { program := "ytnppbfjeibfamaa", sum := "995fcdd42404f26b2df713380efebd3d5a79fb1d9eb432bf1be964d046025494", func := "skiff/skifflaw22.HostPieces", spec := "hostPieces", unfollowed := true, recurses := true, apart := false }
def HostPiecesSaid : Prop := hostPiecesRow.holds Try.pinned (OpenSpec.ofChange hostPiecesSpec)

/-- ITS FALSE NEIGHBOUR: 'it returns false'. Refute it at one input. -/
def hostPiecesWrong : ChangeSpec := { name := "hostPieces", fn := fun _ => fun
  | [d] => { results := [.lit (.bool false)], args := [d] }
  | _ => none }
def HostPiecesWrongFalsely : Prop := hostPiecesRow.holds Try.pinned (OpenSpec.ofChange hostPiecesWrong)

/- THE SECOND FORM. 'bulk': how many values and letters a reading holds, each counted each time it is reached (what is shared counts as often as it is met; a slice's spare places count too). A statement '..UptoSaid' is the law's where the arguments, and the package variables that the reading takes, are together of bulk at most 1048576: NARROWER than '..Said'. Prove '..Said' where nothing that the law and all that it calls make is longer than what came in: it says more and counts as full. Else prove '..UptoSaid'. A law counts once. -/
mutual
def uptoBulk {H : Type} : DataW H → Nat
  | .lit (.string bytes) => bytes.length + 1
  | .lit _ => 1
  | .nil => 1
  | .ptr d => uptoBulk d + 1
  | .slice elems spare => uptoBulkAll elems + uptoBulkAll spare + 1
  | .agg parts => uptoBulkAll parts + 1
  | .iface _ d => uptoBulk d + 1
  | .map entries => uptoBulkEntries entries + 1
  | .held _ => 1
def uptoBulkAll {H : Type} : List (DataW H) → Nat
  | [] => 0
  | d :: r => uptoBulk d + uptoBulkAll r
def uptoBulkEntries {H : Type} : List (Lit × DataW H) → Nat
  | [] => 0
  | x :: r => uptoBulkEntry x + uptoBulkEntries r
def uptoBulkEntry {H : Type} : Lit × DataW H → Nat
  | (.string bytes, d) => bytes.length + uptoBulk d + 1
  | (_, d) => uptoBulk d + 1
 end
def uptoSmall : (H : Type) → List (DataW H) → Bool := fun _ ds => decide (uptoBulkAll ds ≤ 1048576)
def OpenSpec.upto (s : _root_.Go.ChangeSpec) : _root_.Go.OpenSpec := { _root_.Go.OpenSpec.ofChange s with cond := some uptoSmall }

/-- 'skifflaw11.Suffixes', WHERE WHAT IT READS IS OF BULK AT MOST 1048576: true; the input reads as it did. -/
def suffixesUptoRow : OpenClaim := { program := "ytnppbfjeibfamaa", sum := "995fcdd42404f26b2df713380efebd3d5a79fb1d9eb432bf1be964d046025494", func := "skiff/skifflaw11.Suffixes", spec := "suffixes", unfollowed := true, recurses := true, apart := false, narrowed := true }
def SuffixesUptoSaid : Prop := suffixesUptoRow.holds Try.pinned (OpenSpec.upto suffixesSpec)

/-- 'skifflaw11.SuffixBack', WHERE WHAT IT READS IS OF BULK AT MOST 1048576: true; the input reads as it did. -/
def suffixBackUptoRow : OpenClaim := { program := "ytnppbfjeibfamaa", sum := "995fcdd42404f26b2df713380efebd3d5a79fb1d9eb432bf1be964d046025494", func := "skiff/skifflaw11.SuffixBack", spec := "suffixBack", unfollowed := true, recurses := true, apart := false, narrowed := true }
def SuffixBackUptoSaid : Prop := suffixBackUptoRow.holds Try.pinned (OpenSpec.upto suffixBackSpec)

/-- 'skifflaw11.SuffixForms', WHERE WHAT IT READS IS OF BULK AT MOST 1048576: true; the input reads as it did. -/
def suffixFormsUptoRow : OpenClaim := { program := "ytnppbfjeibfamaa", sum := "995fcdd42404f26b2df713380efebd3d5a79fb1d9eb432bf1be964d046025494", func := "skiff/skifflaw11.SuffixForms", spec := "suffixForms", unfollowed := true, recurses := true, apart := false, narrowed := true }
def SuffixFormsUptoSaid : Prop := suffixFormsUptoRow.holds Try.pinned (OpenSpec.upto suffixFormsSpec)

/-- 'skifflaw11.SuffixCut', WHERE WHAT IT READS IS OF BULK AT MOST 1048576: true; the input reads as it did. -/
def suffixCutUptoRow : OpenClaim := { program := "ytnppbfjeibfamaa", sum := "995fcdd42404f26b2df713380efebd3d5a79fb1d9eb432bf1be964d046025494", func := "skiff/skifflaw11.SuffixCut", spec := "suffixCut", unfollowed := true, recurses := true, apart := false, narrowed := true }
def SuffixCutUptoSaid : Prop := suffixCutUptoRow.holds Try.pinned (OpenSpec.upto suffixCutSpec)

/-- 'skifflaw11.SuffixUnlike', WHERE WHAT IT READS IS OF BULK AT MOST 1048576: true; the input reads as it did. -/
def suffixUnlikeUptoRow : OpenClaim := { program := "ytnppbfjeibfamaa", sum := "995fcdd42404f26b2df713380efebd3d5a79fb1d9eb432bf1be964d046025494", func := "skiff/skifflaw11.SuffixUnlike", spec := "suffixUnlike", unfollowed := true, recurses := true, apart := false, narrowed := true }
def SuffixUnlikeUptoSaid : Prop := suffixUnlikeUptoRow.holds Try.pinned (OpenSpec.upto suffixUnlikeSpec)

/-- 'skifflaw22.Hosts', WHERE WHAT IT READS IS OF BULK AT MOST 1048576: true; the input reads as it did. -/
def hostsUptoRow : OpenClaim := { program := "ytnppbfjeibfamaa", sum := "995fcdd42404f26b2df713380efebd3d5a79fb1d9eb432bf1be964d046025494", func := "skiff/skifflaw22.Hosts", spec := "hosts", unfollowed := true, recurses := true, apart := false, narrowed := true }
def HostsUptoSaid : Prop := hostsUptoRow.holds Try.pinned (OpenSpec.upto hostsSpec)

/-- 'skifflaw22.HostForms', WHERE WHAT IT READS IS OF BULK AT MOST 1048576: true; the input reads as it did. -/
def hostFormsUptoRow : OpenClaim := { program := "ytnppbfjeibfamaa", sum := "995fcdd42404f26b2df713380efebd3d5a79fb1d9eb432bf1be964d046025494", func := "skiff/skifflaw22.HostForms", spec := "hostForms", unfollowed := true, recurses := true, apart := false, narrowed := true }
def HostFormsUptoSaid : Prop := hostFormsUptoRow.holds Try.pinned (OpenSpec.upto hostFormsSpec)

/-- 'skifflaw22.HostAsks', WHERE WHAT IT READS IS OF BULK AT MOST 1048576: true; the input reads as it did. -/
def hostAsksUptoRow : OpenClaim := { program := "ytnppbfjeibfamaa", sum := "995fcdd42404f26b2df713380efebd3d5a79fb1d9eb432bf1be964d046025494", func := "skiff/skifflaw22.HostAsks", spec := "hostAsks", unfollowed := true, recurses := true, apart := false, narrowed := true }
def HostAsksUptoSaid : Prop := hostAsksUptoRow.holds Try.pinned (OpenSpec.upto hostAsksSpec)

/-- 'skifflaw22.HostStarts', WHERE WHAT IT READS IS OF BULK AT MOST 1048576: true; the input reads as it did. -/
def hostStartsUptoRow : OpenClaim := { program := "ytnppbfjeibfamaa", sum := "995fcdd42404f26b2df713380efebd3d5a79fb1d9eb432bf1be964d046025494", func := "skiff/skifflaw22.HostStarts", spec := "hostStarts", unfollowed := true, recurses := true, apart := false, narrowed := true }
def HostStartsUptoSaid : Prop := hostStartsUptoRow.holds Try.pinned (OpenSpec.upto hostStartsSpec)

/-- 'skifflaw22.HostPieces', WHERE WHAT IT READS IS OF BULK AT MOST 1048576: true; the input reads as it did. -/
def hostPiecesUptoRow : OpenClaim := { program := "ytnppbfjeibfamaa", sum := "995fcdd42404f26b2df713380efebd3d5a79fb1d9eb432bf1be964d046025494", func := "skiff/skifflaw22.HostPieces", spec := "hostPieces", unfollowed := true, recurses := true, apart := false, narrowed := true }
def HostPiecesUptoSaid : Prop := hostPiecesUptoRow.holds Try.pinned (OpenSpec.upto hostPiecesSpec)

end Rows
end Go.Proofs.Ytnppbfjeibfamaa

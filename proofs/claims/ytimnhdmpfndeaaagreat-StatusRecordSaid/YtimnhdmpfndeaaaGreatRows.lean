/-
  No cell of these rows narrows 'for every input' (looked for: loops, veiled, ifaces, maps, wideKeys, modest, calm, conditions, laid).
  DERIVED. THE GIVEN ROWS OF THIS SEAT. 3 by the template 'for every input the law returns true; each argument reads behind the call as it read before'; 0 by the template 'total and deterministic' (their statements: YtimnhdmpfndeaaaGreatTotals.lean).
  GIVEN WITH THE SEED: the statements are not yours to turn. If you find one false, say at which input.
  Laid BY PROGRAM, IN A SANDBOX (cutbox-rows.mjs): the forced cells as the released guide's own fill.sh prints them over the translation de3549fc42089a75… (all of the seat's roots in one cut). By AI agents, Wed Nov 11 2026. No macro, syntax, notation, axiom, sorry.
-/
import Derived.Test.YtimnhdmpfndeaaaGreatChecked
import GoSem.Claim
import GoSem.ClaimJoined
import GoSem.ClaimMapViews
import Derived.JoinedTies
import Derived.KernelRfl
namespace Go.Proofs.YtimnhdmpfndeaaaGreat
/- THE CELL 'sum', in the pinned program and in every row, IS THE sha256 OF THE DUMP (.gsa) THAT YtimnhdmpfndeaaaGreatProg.lean LOADS. Nothing in Lean hashes anything: it is a label: what it is worth is what the hold of that sum in a sandbox is worth. -/
noncomputable def Tryz.pinned : Pinned := { name := "ytimnhdmpfndeaaagreat", sum := "de3549fc42089a75d40bf399dbc745a5d7d15ee22fc7c68aa21e1311a1f0b750", checked := Tryz.checked }
namespace Rows
def none {H : Type} : Left H := { results := [], args := [] }

/-- 'skifflaw19.Gets': WHATEVER THE INPUT: true; the input reads as it did. -/
def getsSpec : ChangeSpec := { name := "gets", fn := fun _ => fun
  | [d1, d2] => { results := [.lit (.bool true)], args := [d1, d2] }
  | _ => none }
def getsRow : OpenClaim := { program := "ytimnhdmpfndeaaagreat", sum := "de3549fc42089a75d40bf399dbc745a5d7d15ee22fc7c68aa21e1311a1f0b750", func := "skiff/skifflaw19.Gets", spec := "gets", inPlace := ["internal/abi.NoEscape", "internal/bytealg.MakeNoZero"], unfollowed := true, recurses := true, apart := false }
def GetsSaid : Prop := getsRow.holds Tryz.pinned (OpenSpec.ofChange getsSpec)

/-- ITS FALSE NEIGHBOUR: 'it returns false'. Refute it at one input. -/
def getsWrong : ChangeSpec := { name := "gets", fn := fun _ => fun
  | [d1, d2] => { results := [.lit (.bool false)], args := [d1, d2] }
  | _ => none }
def GetsWrongFalsely : Prop := getsRow.holds Tryz.pinned (OpenSpec.ofChange getsWrong)

/-- 'skifflaw19.StatusTells': WHATEVER THE INPUT: true; the input reads as it did. -/
def statusTellsSpec : ChangeSpec := { name := "statusTells", fn := fun _ => fun
  | [d1, d2] => { results := [.lit (.bool true)], args := [d1, d2] }
  | _ => none }
def statusTellsRow : OpenClaim := { program := "ytimnhdmpfndeaaagreat", sum := "de3549fc42089a75d40bf399dbc745a5d7d15ee22fc7c68aa21e1311a1f0b750", func := "skiff/skifflaw19.StatusTells", spec := "statusTells", inPlace := ["internal/abi.NoEscape", "internal/bytealg.MakeNoZero"], unfollowed := true, recurses := true, apart := false }
def StatusTellsSaid : Prop := statusTellsRow.holds Tryz.pinned (OpenSpec.ofChange statusTellsSpec)

/-- ITS FALSE NEIGHBOUR: 'it returns false'. Refute it at one input. -/
def statusTellsWrong : ChangeSpec := { name := "statusTells", fn := fun _ => fun
  | [d1, d2] => { results := [.lit (.bool false)], args := [d1, d2] }
  | _ => none }
def StatusTellsWrongFalsely : Prop := statusTellsRow.holds Tryz.pinned (OpenSpec.ofChange statusTellsWrong)

/-- 'skifflaw19.StatusRecord': WHATEVER THE INPUT: true; the input reads as it did. -/
def statusRecordSpec : ChangeSpec := { name := "statusRecord", fn := fun _ => fun
  | [d1, d2, d3] => { results := [.lit (.bool true)], args := [d1, d2, d3] }
  | _ => none }
def statusRecordRow : OpenClaim := { program := "ytimnhdmpfndeaaagreat", sum := "de3549fc42089a75d40bf399dbc745a5d7d15ee22fc7c68aa21e1311a1f0b750", func := "skiff/skifflaw19.StatusRecord", spec := "statusRecord", inPlace := ["internal/abi.NoEscape", "internal/bytealg.MakeNoZero"], unfollowed := true, recurses := true, apart := false }
def StatusRecordSaid : Prop := statusRecordRow.holds Tryz.pinned (OpenSpec.ofChange statusRecordSpec)

/-- ITS FALSE NEIGHBOUR: 'it returns false'. Refute it at one input. -/
def statusRecordWrong : ChangeSpec := { name := "statusRecord", fn := fun _ => fun
  | [d1, d2, d3] => { results := [.lit (.bool false)], args := [d1, d2, d3] }
  | _ => none }
def StatusRecordWrongFalsely : Prop := statusRecordRow.holds Tryz.pinned (OpenSpec.ofChange statusRecordWrong)

/- THE SECOND FORM. 'bulk': how many values and letters a reading holds, each counted each time it is reached (what is shared counts as often as it is met; a slice's spare places count too). A statement '..UptoSaid' is the law's where the arguments, and the package variables that the reading takes, are together of bulk at most 1048576: NARROWER than '..Said'. Prove '..Said' where nothing that the law and all that it calls make is longer than what came in: it says more and counts as full. Else prove '..UptoSaid'. A law counts once. -/
mutual
def uptoBulk {H : Type} : DataW H → Nat
  | .lit (.string bytes) => bytes.length + 1
  | .lit _ => 1
  | .nil => 1
  | .ptr d => uptoBulk d + 1
  | .slice elems spare => uptoBulkAll elems + uptoBulkAll spare + 1
  | .agg parts => uptoBulkAll parts + 1
  | .iface _ d => uptoBulk d + 1
  | .map entries => uptoBulkEntries entries + 1
  | .held _ => 1
def uptoBulkAll {H : Type} : List (DataW H) → Nat
  | [] => 0
  | d :: r => uptoBulk d + uptoBulkAll r
def uptoBulkEntries {H : Type} : List (Lit × DataW H) → Nat
  | [] => 0
  | x :: r => uptoBulkEntry x + uptoBulkEntries r
def uptoBulkEntry {H : Type} : Lit × DataW H → Nat
  | (.string bytes, d) => bytes.length + uptoBulk d + 1
  | (_, d) => uptoBulk d + 1
 end
def uptoSmall : (H : Type) → List (DataW H) → Bool := fun _ ds => decide (uptoBulkAll ds ≤ 1048576)
def OpenSpec.upto (s : _root_.Go.ChangeSpec) : _root_.Go.OpenSpec := { _root_.Go.OpenSpec.ofChange s with cond := some uptoSmall }

/-- 'skifflaw19.Gets', WHERE WHAT IT READS IS OF BULK AT MOST 1048576: true; the input reads as it did. -/
def getsUptoRow : OpenClaim := { program := "ytimnhdmpfndeaaagreat", sum := "de3549fc42089a75d40bf399dbc745a5d7d15ee22fc7c68aa21e1311a1f0b750", func := "skiff/skifflaw19.Gets", spec := "gets", inPlace := ["internal/abi.NoEscape", "internal/bytealg.MakeNoZero"], unfollowed := true, recurses := true, apart := false, narrowed := true }
def GetsUptoSaid : Prop := getsUptoRow.holds Tryz.pinned (OpenSpec.upto getsSpec)

/-- 'skifflaw19.StatusTells', WHERE WHAT IT READS IS OF BULK AT MOST 1048576: true; the input reads as it did. -/
def statusTellsUptoRow : OpenClaim := { program := "ytimnhdmpfndeaaagreat", sum := "de3549fc42089a75d40bf399dbc745a5d7d15ee22fc7c68aa21e1311a1f0b750", func := "skiff/skifflaw19.StatusTells", spec := "statusTells", inPlace := ["internal/abi.NoEscape", "internal/bytealg.MakeNoZero"], unfollowed := true, recurses := true, apart := false, narrowed := true }
def StatusTellsUptoSaid : Prop := statusTellsUptoRow.holds Tryz.pinned (OpenSpec.upto statusTellsSpec)

/-- 'skifflaw19.StatusRecord', WHERE WHAT IT READS IS OF BULK AT MOST 1048576: true; the input reads as it did. -/
def statusRecordUptoRow : OpenClaim := { program := "ytimnhdmpfndeaaagreat", sum := "de3549fc42089a75d40bf399dbc745a5d7d15ee22fc7c68aa21e1311a1f0b750", func := "skiff/skifflaw19.StatusRecord", spec := "statusRecord", inPlace := ["internal/abi.NoEscape", "internal/bytealg.MakeNoZero"], unfollowed := true, recurses := true, apart := false, narrowed := true }
def StatusRecordUptoSaid : Prop := statusRecordUptoRow.holds Tryz.pinned (OpenSpec.upto statusRecordSpec)

end Rows
end Go.Proofs.YtimnhdmpfndeaaaGreat

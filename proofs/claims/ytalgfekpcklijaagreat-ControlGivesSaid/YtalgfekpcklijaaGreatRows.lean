/-
  No cell of these rows narrows 'for every input' (looked for: loops, veiled, ifaces, maps, wideKeys, modest, calm, conditions, laid).
  DERIVED. THE GIVEN ROWS OF THIS SEAT. 11 by the template 'for every input the law returns true; each argument reads behind the call as it read before'; 0 by the template 'total and deterministic' (their statements: YtalgfekpcklijaaGreatTotals.lean).
  GIVEN WITH THE SEED: the statements are not yours to turn. If you find one false, say at which input.
  Laid BY PROGRAM, IN A SANDBOX (cutbox-rows.mjs): the forced cells as the released guide's own fill.sh prints them over the translation 0159b97d6a2c30e9… (all of the seat's roots in one cut). By AI agents, Wed Nov 11 2026. No macro, syntax, notation, axiom, sorry.
-/
import Derived.Test.YtalgfekpcklijaaGreatChecked
import GoSem.Claim
import GoSem.ClaimJoined
import GoSem.ClaimMapViews
import Derived.JoinedTies
import Derived.KernelRfl
namespace Go.Proofs.YtalgfekpcklijaaGreat
/- THE CELL 'sum', in the pinned program and in every row, IS THE sha256 OF THE DUMP (.gsa) THAT YtalgfekpcklijaaGreatProg.lean LOADS. Nothing in Lean hashes anything: it is a label: what it is worth is what the hold of that sum in a sandbox is worth. -/
noncomputable def Tryz.pinned : Pinned := { name := "ytalgfekpcklijaagreat", sum := "0159b97d6a2c30e9c7905cefc1ce243b51771c57f1e3d3df150744f5f91fbe44", checked := Tryz.checked }
namespace Rows
def none {H : Type} : Left H := { results := [], args := [] }

/-- 'skifflaw21.Controls': WHATEVER THE INPUT: true; the input reads as it did. -/
def controlsSpec : ChangeSpec := { name := "controls", fn := fun _ => fun
  | [d1, d2, d3, d4] => { results := [.lit (.bool true)], args := [d1, d2, d3, d4] }
  | _ => none }
def controlsRow : OpenClaim := { program := "ytalgfekpcklijaagreat", sum := "0159b97d6a2c30e9c7905cefc1ce243b51771c57f1e3d3df150744f5f91fbe44", func := "skiff/skifflaw21.Controls", spec := "controls", inPlace := ["internal/abi.NoEscape", "internal/bytealg.MakeNoZero"], unfollowed := true, recurses := true, plainKeys := false, apart := false }
def ControlsSaid : Prop := controlsRow.holds Tryz.pinned (OpenSpec.ofChange controlsSpec)

/-- ITS FALSE NEIGHBOUR: 'it returns false'. Refute it at one input. -/
def controlsWrong : ChangeSpec := { name := "controls", fn := fun _ => fun
  | [d1, d2, d3, d4] => { results := [.lit (.bool false)], args := [d1, d2, d3, d4] }
  | _ => none }
def ControlsWrongFalsely : Prop := controlsRow.holds Tryz.pinned (OpenSpec.ofChange controlsWrong)

/-- 'skifflaw21.ControlForms': WHATEVER THE INPUT: true; the input reads as it did. -/
def controlFormsSpec : ChangeSpec := { name := "controlForms", fn := fun _ => fun
  | [d1, d2] => { results := [.lit (.bool true)], args := [d1, d2] }
  | _ => none }
def controlFormsRow : OpenClaim := { program := "ytalgfekpcklijaagreat", sum := "0159b97d6a2c30e9c7905cefc1ce243b51771c57f1e3d3df150744f5f91fbe44", func := "skiff/skifflaw21.ControlForms", spec := "controlForms", inPlace := ["internal/abi.NoEscape", "internal/bytealg.MakeNoZero"], unfollowed := true, recurses := true, plainKeys := false, apart := false }
def ControlFormsSaid : Prop := controlFormsRow.holds Tryz.pinned (OpenSpec.ofChange controlFormsSpec)

/-- ITS FALSE NEIGHBOUR: 'it returns false'. Refute it at one input. -/
def controlFormsWrong : ChangeSpec := { name := "controlForms", fn := fun _ => fun
  | [d1, d2] => { results := [.lit (.bool false)], args := [d1, d2] }
  | _ => none }
def ControlFormsWrongFalsely : Prop := controlFormsRow.holds Tryz.pinned (OpenSpec.ofChange controlFormsWrong)

/-- 'skifflaw21.ControlStalls': WHATEVER THE INPUT: true; the input reads as it did. -/
def controlStallsSpec : ChangeSpec := { name := "controlStalls", fn := fun _ => fun
  | [d1, d2, d3, d4, d5] => { results := [.lit (.bool true)], args := [d1, d2, d3, d4, d5] }
  | _ => none }
def controlStallsRow : OpenClaim := { program := "ytalgfekpcklijaagreat", sum := "0159b97d6a2c30e9c7905cefc1ce243b51771c57f1e3d3df150744f5f91fbe44", func := "skiff/skifflaw21.ControlStalls", spec := "controlStalls", inPlace := ["internal/abi.NoEscape", "internal/bytealg.MakeNoZero"], unfollowed := true, recurses := true, plainKeys := false, apart := false }
def ControlStallsSaid : Prop := controlStallsRow.holds Tryz.pinned (OpenSpec.ofChange controlStallsSpec)

/-- ITS FALSE NEIGHBOUR: 'it returns false'. Refute it at one input. -/
def controlStallsWrong : ChangeSpec := { name := "controlStalls", fn := fun _ => fun
  | [d1, d2, d3, d4, d5] => { results := [.lit (.bool false)], args := [d1, d2, d3, d4, d5] }
  | _ => none }
def ControlStallsWrongFalsely : Prop := controlStallsRow.holds Tryz.pinned (OpenSpec.ofChange controlStallsWrong)

/-- 'skifflaw21.ControlAborts': WHATEVER THE INPUT: true; the input reads as it did. -/
def controlAbortsSpec : ChangeSpec := { name := "controlAborts", fn := fun _ => fun
  | [d1, d2] => { results := [.lit (.bool true)], args := [d1, d2] }
  | _ => none }
def controlAbortsRow : OpenClaim := { program := "ytalgfekpcklijaagreat", sum := "0159b97d6a2c30e9c7905cefc1ce243b51771c57f1e3d3df150744f5f91fbe44", func := "skiff/skifflaw21.ControlAborts", spec := "controlAborts", inPlace := ["internal/abi.NoEscape", "internal/bytealg.MakeNoZero"], unfollowed := true, recurses := true, plainKeys := false, apart := false }
def ControlAbortsSaid : Prop := controlAbortsRow.holds Tryz.pinned (OpenSpec.ofChange controlAbortsSpec)

/-- ITS FALSE NEIGHBOUR: 'it returns false'. Refute it at one input. -/
def controlAbortsWrong : ChangeSpec := { name := "controlAborts", fn := fun _ => fun
  | [d1, d2] => { results := [.lit (.bool false)], args := [d1, d2] }
  | _ => none }
def ControlAbortsWrongFalsely : Prop := controlAbortsRow.holds Tryz.pinned (OpenSpec.ofChange controlAbortsWrong)

/-- 'skifflaw21.ControlGives': WHATEVER THE INPUT: true; the input reads as it did. -/
def controlGivesSpec : ChangeSpec := { name := "controlGives", fn := fun _ => fun
  | [d1, d2, d3] => { results := [.lit (.bool true)], args := [d1, d2, d3] }
  | _ => none }
def controlGivesRow : OpenClaim := { program := "ytalgfekpcklijaagreat", sum := "0159b97d6a2c30e9c7905cefc1ce243b51771c57f1e3d3df150744f5f91fbe44", func := "skiff/skifflaw21.ControlGives", spec := "controlGives", inPlace := ["internal/abi.NoEscape", "internal/bytealg.MakeNoZero"], unfollowed := true, recurses := true, plainKeys := false, apart := false }
def ControlGivesSaid : Prop := controlGivesRow.holds Tryz.pinned (OpenSpec.ofChange controlGivesSpec)

/-- ITS FALSE NEIGHBOUR: 'it returns false'. Refute it at one input. -/
def controlGivesWrong : ChangeSpec := { name := "controlGives", fn := fun _ => fun
  | [d1, d2, d3] => { results := [.lit (.bool false)], args := [d1, d2, d3] }
  | _ => none }
def ControlGivesWrongFalsely : Prop := controlGivesRow.holds Tryz.pinned (OpenSpec.ofChange controlGivesWrong)

/-- 'skifflaw24.Pairs': WHATEVER THE INPUT: true; the input reads as it did. -/
def pairsSpec : ChangeSpec := { name := "pairs", fn := fun _ => fun
  | [d1, d2] => { results := [.lit (.bool true)], args := [d1, d2] }
  | _ => none }
def pairsRow : OpenClaim := { program := "ytalgfekpcklijaagreat", sum := "0159b97d6a2c30e9c7905cefc1ce243b51771c57f1e3d3df150744f5f91fbe44", func := "skiff/skifflaw24.Pairs", spec := "pairs", inPlace := ["internal/abi.NoEscape", "internal/bytealg.MakeNoZero"], unfollowed := true, recurses := true, plainKeys := false, apart := false }
def PairsSaid : Prop := pairsRow.holds Tryz.pinned (OpenSpec.ofChange pairsSpec)

/-- ITS FALSE NEIGHBOUR: 'it returns false'. Refute it at one input. -/
def pairsWrong : ChangeSpec := { name := "pairs", fn := fun _ => fun
  | [d1, d2] => { results := [.lit (.bool false)], args := [d1, d2] }
  | _ => none }
def PairsWrongFalsely : Prop := pairsRow.holds Tryz.pinned (OpenSpec.ofChange pairsWrong)

/-- 'skifflaw24.PairForms': WHATEVER THE INPUT: true; the input reads as it did. -/
def pairFormsSpec : ChangeSpec := { name := "pairForms", fn := fun _ => fun
  | [d1, d2] => { results := [.lit (.bool true)], args := [d1, d2] }
  | _ => none }
def pairFormsRow : OpenClaim := { program := "ytalgfekpcklijaagreat", sum := "0159b97d6a2c30e9c7905cefc1ce243b51771c57f1e3d3df150744f5f91fbe44", func := "skiff/skifflaw24.PairForms", spec := "pairForms", inPlace := ["internal/abi.NoEscape", "internal/bytealg.MakeNoZero"], unfollowed := true, recurses := true, plainKeys := false, apart := false }
def PairFormsSaid : Prop := pairFormsRow.holds Tryz.pinned (OpenSpec.ofChange pairFormsSpec)

/-- ITS FALSE NEIGHBOUR: 'it returns false'. Refute it at one input. -/
def pairFormsWrong : ChangeSpec := { name := "pairForms", fn := fun _ => fun
  | [d1, d2] => { results := [.lit (.bool false)], args := [d1, d2] }
  | _ => none }
def PairFormsWrongFalsely : Prop := pairFormsRow.holds Tryz.pinned (OpenSpec.ofChange pairFormsWrong)

/-- 'skifflaw24.PairApart': WHATEVER THE INPUT: true; the input reads as it did. -/
def pairApartSpec : ChangeSpec := { name := "pairApart", fn := fun _ => fun
  | [d1, d2] => { results := [.lit (.bool true)], args := [d1, d2] }
  | _ => none }
def pairApartRow : OpenClaim := { program := "ytalgfekpcklijaagreat", sum := "0159b97d6a2c30e9c7905cefc1ce243b51771c57f1e3d3df150744f5f91fbe44", func := "skiff/skifflaw24.PairApart", spec := "pairApart", inPlace := ["internal/abi.NoEscape", "internal/bytealg.MakeNoZero"], unfollowed := true, recurses := true, plainKeys := false, apart := false }
def PairApartSaid : Prop := pairApartRow.holds Tryz.pinned (OpenSpec.ofChange pairApartSpec)

/-- ITS FALSE NEIGHBOUR: 'it returns false'. Refute it at one input. -/
def pairApartWrong : ChangeSpec := { name := "pairApart", fn := fun _ => fun
  | [d1, d2] => { results := [.lit (.bool false)], args := [d1, d2] }
  | _ => none }
def PairApartWrongFalsely : Prop := pairApartRow.holds Tryz.pinned (OpenSpec.ofChange pairApartWrong)

/-- 'skifflaw24.PairLost': WHATEVER THE INPUT: true; the input reads as it did. -/
def pairLostSpec : ChangeSpec := { name := "pairLost", fn := fun _ => fun
  | [d] => { results := [.lit (.bool true)], args := [d] }
  | _ => none }
def pairLostRow : OpenClaim := { program := "ytalgfekpcklijaagreat", sum := "0159b97d6a2c30e9c7905cefc1ce243b51771c57f1e3d3df150744f5f91fbe44", func := "skiff/skifflaw24.PairLost", spec := "pairLost", inPlace := ["internal/abi.NoEscape", "internal/bytealg.MakeNoZero"], unfollowed := true, recurses := true, plainKeys := false, apart := false }
def PairLostSaid : Prop := pairLostRow.holds Tryz.pinned (OpenSpec.ofChange pairLostSpec)

/-- ITS FALSE NEIGHBOUR: 'it returns false'. Refute it at one input. -/
def pairLostWrong : ChangeSpec := { name := "pairLost", fn := fun _ => fun
  | [d] => { results := [.lit (.bool false)], args := [d] }
  | _ => none }
def PairLostWrongFalsely : Prop := pairLostRow.holds Tryz.pinned (OpenSpec.ofChange pairLostWrong)

/-- 'skifflaw24.PairBusy': WHATEVER THE INPUT: true; the input reads as it did. -/
def pairBusySpec : ChangeSpec := { name := "pairBusy", fn := fun _ => fun
  | [d1, d2] => { results := [.lit (.bool true)], args := [d1, d2] }
  | _ => none }
def pairBusyRow : OpenClaim := { program := "ytalgfekpcklijaagreat", sum := "0159b97d6a2c30e9c7905cefc1ce243b51771c57f1e3d3df150744f5f91fbe44", func := "skiff/skifflaw24.PairBusy", spec := "pairBusy", inPlace := ["internal/abi.NoEscape", "internal/bytealg.MakeNoZero"], unfollowed := true, recurses := true, plainKeys := false, apart := false }
def PairBusySaid : Prop := pairBusyRow.holds Tryz.pinned (OpenSpec.ofChange pairBusySpec)

/-- ITS FALSE NEIGHBOUR: 'it returns false'. Refute it at one input. -/
def pairBusyWrong : ChangeSpec := { name := "pairBusy", fn := fun _ => fun
  | [d1, d2] => { results := [.lit (.bool false)], args := [d1, d2] }
  | _ => none }
def PairBusyWrongFalsely : Prop := pairBusyRow.holds Tryz.pinned (OpenSpec.ofChange pairBusyWrong)

/-- 'skifflaw24.PairCarries': WHATEVER THE INPUT: true; the input reads as it did. -/
def pairCarriesSpec : ChangeSpec := { name := "pairCarries", fn := fun _ => fun
  | [d1, d2] => { results := [.lit (.bool true)], args := [d1, d2] }
  | _ => none }
def pairCarriesRow : OpenClaim := { program := "ytalgfekpcklijaagreat", sum := "0159b97d6a2c30e9c7905cefc1ce243b51771c57f1e3d3df150744f5f91fbe44", func := "skiff/skifflaw24.PairCarries", spec := "pairCarries", inPlace := ["internal/abi.NoEscape", "internal/bytealg.MakeNoZero"], unfollowed := true, recurses := true, plainKeys := false, apart := false }
def PairCarriesSaid : Prop := pairCarriesRow.holds Tryz.pinned (OpenSpec.ofChange pairCarriesSpec)

/-- ITS FALSE NEIGHBOUR: 'it returns false'. Refute it at one input. -/
def pairCarriesWrong : ChangeSpec := { name := "pairCarries", fn := fun _ => fun
  | [d1, d2] => { results := [.lit (.bool false)], args := [d1, d2] }
  | _ => none }
def PairCarriesWrongFalsely : Prop := pairCarriesRow.holds Tryz.pinned (OpenSpec.ofChange pairCarriesWrong)

/- THE SECOND FORM. 'bulk': how many values and letters a reading holds, each counted each time it is reached (what is shared counts as often as it is met; a slice's spare places count too). A statement '..UptoSaid' is the law's where the arguments, and the package variables that the reading takes, are together of bulk at most 1048576: NARROWER than '..Said'. Prove '..Said' where nothing that the law and all that it calls make is longer than what came in: it says more and counts as full. Else prove '..UptoSaid'. A law counts once. -/
mutual
def uptoBulk {H : Type} : DataW H → Nat
  | .lit (.string bytes) => bytes.length + 1
  | .lit _ => 1
  | .nil => 1
  | .ptr d => uptoBulk d + 1
  | .slice elems spare => uptoBulkAll elems + uptoBulkAll spare + 1
  | .agg parts => uptoBulkAll parts + 1
  | .iface _ d => uptoBulk d + 1
  | .map entries => uptoBulkEntries entries + 1
  | .held _ => 1
def uptoBulkAll {H : Type} : List (DataW H) → Nat
  | [] => 0
  | d :: r => uptoBulk d + uptoBulkAll r
def uptoBulkEntries {H : Type} : List (Lit × DataW H) → Nat
  | [] => 0
  | x :: r => uptoBulkEntry x + uptoBulkEntries r
def uptoBulkEntry {H : Type} : Lit × DataW H → Nat
  | (.string bytes, d) => bytes.length + uptoBulk d + 1
  | (_, d) => uptoBulk d + 1
 end
def uptoSmall : (H : Type) → List (DataW H) → Bool := fun _ ds => decide (uptoBulkAll ds ≤ 1048576)
def OpenSpec.upto (s : _root_.Go.ChangeSpec) : _root_.Go.OpenSpec := { _root_.Go.OpenSpec.ofChange s with cond := some uptoSmall }

/-- 'skifflaw21.Controls', WHERE WHAT IT READS IS OF BULK AT MOST 1048576: true; the input reads as it did. -/
def controlsUptoRow : OpenClaim := { program := "ytalgfekpcklijaagreat", sum := "0159b97d6a2c30e9c7905cefc1ce243b51771c57f1e3d3df150744f5f91fbe44", func := "skiff/skifflaw21.Controls", spec := "controls", inPlace := ["internal/abi.NoEscape", "internal/bytealg.MakeNoZero"], unfollowed := true, recurses := true, plainKeys := false, apart := false, narrowed := true }
def ControlsUptoSaid : Prop := controlsUptoRow.holds Tryz.pinned (OpenSpec.upto controlsSpec)

/-- 'skifflaw21.ControlForms', WHERE WHAT IT READS IS OF BULK AT MOST 1048576: true; the input reads as it did. -/
def controlFormsUptoRow : OpenClaim := { program := "ytalgfekpcklijaagreat", sum := "0159b97d6a2c30e9c7905cefc1ce243b51771c57f1e3d3df150744f5f91fbe44", func := "skiff/skifflaw21.ControlForms", spec := "controlForms", inPlace := ["internal/abi.NoEscape", "internal/bytealg.MakeNoZero"], unfollowed := true, recurses := true, plainKeys := false, apart := false, narrowed := true }
def ControlFormsUptoSaid : Prop := controlFormsUptoRow.holds Tryz.pinned (OpenSpec.upto controlFormsSpec)

/-- 'skifflaw21.ControlStalls', WHERE WHAT IT READS IS OF BULK AT MOST 1048576: true; the input reads as it did. -/
def controlStallsUptoRow : OpenClaim := { program := "ytalgfekpcklijaagreat", sum := "0159b97d6a2c30e9c7905cefc1ce243b51771c57f1e3d3df150744f5f91fbe44", func := "skiff/skifflaw21.ControlStalls", spec := "controlStalls", inPlace := ["internal/abi.NoEscape", "internal/bytealg.MakeNoZero"], unfollowed := true, recurses := true, plainKeys := false, apart := false, narrowed := true }
def ControlStallsUptoSaid : Prop := controlStallsUptoRow.holds Tryz.pinned (OpenSpec.upto controlStallsSpec)

/-- 'skifflaw21.ControlAborts', WHERE WHAT IT READS IS OF BULK AT MOST 1048576: true; the input reads as it did. -/
def controlAbortsUptoRow : OpenClaim := { program := "ytalgfekpcklijaagreat", sum := "0159b97d6a2c30e9c7905cefc1ce243b51771c57f1e3d3df150744f5f91fbe44", func := "skiff/skifflaw21.ControlAborts", spec := "controlAborts", inPlace := ["internal/abi.NoEscape", "internal/bytealg.MakeNoZero"], unfollowed := true, recurses := true, plainKeys := false, apart := false, narrowed := true }
def ControlAbortsUptoSaid : Prop := controlAbortsUptoRow.holds Tryz.pinned (OpenSpec.upto controlAbortsSpec)

/-- 'skifflaw21.ControlGives', WHERE WHAT IT READS IS OF BULK AT MOST 1048576: true; the input reads as it did. -/
def controlGivesUptoRow : OpenClaim := { program := "ytalgfekpcklijaagreat", sum := "0159b97d6a2c30e9c7905cefc1ce243b51771c57f1e3d3df150744f5f91fbe44", func := "skiff/skifflaw21.ControlGives", spec := "controlGives", inPlace := ["internal/abi.NoEscape", "internal/bytealg.MakeNoZero"], unfollowed := true, recurses := true, plainKeys := false, apart := false, narrowed := true }
def ControlGivesUptoSaid : Prop := controlGivesUptoRow.holds Tryz.pinned (OpenSpec.upto controlGivesSpec)

/-- 'skifflaw24.Pairs', WHERE WHAT IT READS IS OF BULK AT MOST 1048576: true; the input reads as it did. -/
def pairsUptoRow : OpenClaim := { program := "ytalgfekpcklijaagreat", sum := "0159b97d6a2c30e9c7905cefc1ce243b51771c57f1e3d3df150744f5f91fbe44", func := "skiff/skifflaw24.Pairs", spec := "pairs", inPlace := ["internal/abi.NoEscape", "internal/bytealg.MakeNoZero"], unfollowed := true, recurses := true, plainKeys := false, apart := false, narrowed := true }
def PairsUptoSaid : Prop := pairsUptoRow.holds Tryz.pinned (OpenSpec.upto pairsSpec)

/-- 'skifflaw24.PairForms', WHERE WHAT IT READS IS OF BULK AT MOST 1048576: true; the input reads as it did. -/
def pairFormsUptoRow : OpenClaim := { program := "ytalgfekpcklijaagreat", sum := "0159b97d6a2c30e9c7905cefc1ce243b51771c57f1e3d3df150744f5f91fbe44", func := "skiff/skifflaw24.PairForms", spec := "pairForms", inPlace := ["internal/abi.NoEscape", "internal/bytealg.MakeNoZero"], unfollowed := true, recurses := true, plainKeys := false, apart := false, narrowed := true }
def PairFormsUptoSaid : Prop := pairFormsUptoRow.holds Tryz.pinned (OpenSpec.upto pairFormsSpec)

/-- 'skifflaw24.PairApart', WHERE WHAT IT READS IS OF BULK AT MOST 1048576: true; the input reads as it did. -/
def pairApartUptoRow : OpenClaim := { program := "ytalgfekpcklijaagreat", sum := "0159b97d6a2c30e9c7905cefc1ce243b51771c57f1e3d3df150744f5f91fbe44", func := "skiff/skifflaw24.PairApart", spec := "pairApart", inPlace := ["internal/abi.NoEscape", "internal/bytealg.MakeNoZero"], unfollowed := true, recurses := true, plainKeys := false, apart := false, narrowed := true }
def PairApartUptoSaid : Prop := pairApartUptoRow.holds Tryz.pinned (OpenSpec.upto pairApartSpec)

/-- 'skifflaw24.PairLost', WHERE WHAT IT READS IS OF BULK AT MOST 1048576: true; the input reads as it did. -/
def pairLostUptoRow : OpenClaim := { program := "ytalgfekpcklijaagreat", sum := "0159b97d6a2c30e9c7905cefc1ce243b51771c57f1e3d3df150744f5f91fbe44", func := "skiff/skifflaw24.PairLost", spec := "pairLost", inPlace := ["internal/abi.NoEscape", "internal/bytealg.MakeNoZero"], unfollowed := true, recurses := true, plainKeys := false, apart := false, narrowed := true }
def PairLostUptoSaid : Prop := pairLostUptoRow.holds Tryz.pinned (OpenSpec.upto pairLostSpec)

/-- 'skifflaw24.PairBusy', WHERE WHAT IT READS IS OF BULK AT MOST 1048576: true; the input reads as it did. -/
def pairBusyUptoRow : OpenClaim := { program := "ytalgfekpcklijaagreat", sum := "0159b97d6a2c30e9c7905cefc1ce243b51771c57f1e3d3df150744f5f91fbe44", func := "skiff/skifflaw24.PairBusy", spec := "pairBusy", inPlace := ["internal/abi.NoEscape", "internal/bytealg.MakeNoZero"], unfollowed := true, recurses := true, plainKeys := false, apart := false, narrowed := true }
def PairBusyUptoSaid : Prop := pairBusyUptoRow.holds Tryz.pinned (OpenSpec.upto pairBusySpec)

/-- 'skifflaw24.PairCarries', WHERE WHAT IT READS IS OF BULK AT MOST 1048576: true; the input reads as it did. -/
def pairCarriesUptoRow : OpenClaim := { program := "ytalgfekpcklijaagreat", sum := "0159b97d6a2c30e9c7905cefc1ce243b51771c57f1e3d3df150744f5f91fbe44", func := "skiff/skifflaw24.PairCarries", spec := "pairCarries", inPlace := ["internal/abi.NoEscape", "internal/bytealg.MakeNoZero"], unfollowed := true, recurses := true, plainKeys := false, apart := false, narrowed := true }
def PairCarriesUptoSaid : Prop := pairCarriesUptoRow.holds Tryz.pinned (OpenSpec.upto pairCarriesSpec)

end Rows
end Go.Proofs.YtalgfekpcklijaaGreat

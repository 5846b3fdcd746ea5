/-
  No cell of these rows narrows 'for every input' (looked for: loops, veiled, ifaces, maps, wideKeys, modest, calm, conditions, laid).
  DERIVED. THE GIVEN ROWS OF THIS SEAT. 23 by the template 'for every input the law returns true; each argument reads behind the call as it read before'; 0 by the template 'total and deterministic' (their statements: YtccblleobcidfaaGreatTotals.lean).
  GIVEN WITH THE SEED: the statements are not yours to turn. If you find one false, say at which input.
  Laid BY PROGRAM, IN A SANDBOX (cutbox-rows.mjs): the forced cells as the released guide's own fill.sh prints them over the translation 1b07903850542123… (all of the seat's roots in one cut). By AI agents, Wed Nov 11 2026. No macro, syntax, notation, axiom, sorry.
-/
import Derived.Test.YtccblleobcidfaaGreatChecked
import GoSem.Claim
import GoSem.ClaimJoined
import GoSem.ClaimMapViews
import Derived.JoinedTies
import Derived.KernelRfl
namespace Go.Proofs.YtccblleobcidfaaGreat
/- THE CELL 'sum', in the pinned program and in every row, IS THE sha256 OF THE DUMP (.gsa) THAT YtccblleobcidfaaGreatProg.lean LOADS. Nothing in Lean hashes anything: it is a label: what it is worth is what the hold of that sum in a sandbox is worth. -/
noncomputable def Tryz.pinned : Pinned := { name := "ytccblleobcidfaagreat", sum := "1b079038505421237c66c0d6f64a240a40a5911b3ec92b5b8e262825051555e1", checked := Tryz.checked }
namespace Rows
def none {H : Type} : Left H := { results := [], args := [] }

/-- 'skifftop.TopWhole': WHATEVER THE INPUT: true; the input reads as it did. -/
def topWholeSpec : ChangeSpec := { name := "topWhole", fn := fun _ => fun
  | [d] => { results := [.lit (.bool true)], args := [d] }
  | _ => none }
def topWholeRow : OpenClaim := { program := "ytccblleobcidfaagreat", sum := "1b079038505421237c66c0d6f64a240a40a5911b3ec92b5b8e262825051555e1", func := "skiff/skifftop.TopWhole", spec := "topWhole", inPlace := ["internal/abi.NoEscape", "internal/bytealg.MakeNoZero"], unfollowed := true, recurses := true, plainKeys := false, apart := false }
def TopWholeSaid : Prop := topWholeRow.holds Tryz.pinned (OpenSpec.ofChange topWholeSpec)

/-- ITS FALSE NEIGHBOUR: 'it returns false'. Refute it at one input. -/
def topWholeWrong : ChangeSpec := { name := "topWhole", fn := fun _ => fun
  | [d] => { results := [.lit (.bool false)], args := [d] }
  | _ => none }
def TopWholeWrongFalsely : Prop := topWholeRow.holds Tryz.pinned (OpenSpec.ofChange topWholeWrong)

/-- 'skifftop.TopCuts': WHATEVER THE INPUT: true; the input reads as it did. -/
def topCutsSpec : ChangeSpec := { name := "topCuts", fn := fun _ => fun
  | [d] => { results := [.lit (.bool true)], args := [d] }
  | _ => none }
def topCutsRow : OpenClaim := { program := "ytccblleobcidfaagreat", sum := "1b079038505421237c66c0d6f64a240a40a5911b3ec92b5b8e262825051555e1", func := "skiff/skifftop.TopCuts", spec := "topCuts", inPlace := ["internal/abi.NoEscape", "internal/bytealg.MakeNoZero"], unfollowed := true, recurses := true, plainKeys := false, apart := false }
def TopCutsSaid : Prop := topCutsRow.holds Tryz.pinned (OpenSpec.ofChange topCutsSpec)

/-- ITS FALSE NEIGHBOUR: 'it returns false'. Refute it at one input. -/
def topCutsWrong : ChangeSpec := { name := "topCuts", fn := fun _ => fun
  | [d] => { results := [.lit (.bool false)], args := [d] }
  | _ => none }
def TopCutsWrongFalsely : Prop := topCutsRow.holds Tryz.pinned (OpenSpec.ofChange topCutsWrong)

/-- 'skifftop.TopTruth': WHATEVER THE INPUT: true; the input reads as it did. -/
def topTruthSpec : ChangeSpec := { name := "topTruth", fn := fun _ => fun
  | [d] => { results := [.lit (.bool true)], args := [d] }
  | _ => none }
def topTruthRow : OpenClaim := { program := "ytccblleobcidfaagreat", sum := "1b079038505421237c66c0d6f64a240a40a5911b3ec92b5b8e262825051555e1", func := "skiff/skifftop.TopTruth", spec := "topTruth", inPlace := ["internal/abi.NoEscape", "internal/bytealg.MakeNoZero"], unfollowed := true, recurses := true, plainKeys := false, apart := false }
def TopTruthSaid : Prop := topTruthRow.holds Tryz.pinned (OpenSpec.ofChange topTruthSpec)

/-- ITS FALSE NEIGHBOUR: 'it returns false'. Refute it at one input. -/
def topTruthWrong : ChangeSpec := { name := "topTruth", fn := fun _ => fun
  | [d] => { results := [.lit (.bool false)], args := [d] }
  | _ => none }
def TopTruthWrongFalsely : Prop := topTruthRow.holds Tryz.pinned (OpenSpec.ofChange topTruthWrong)

/-- 'skifflaw24.Pairs': WHATEVER THE INPUT: true; the input reads as it did. -/
def pairsSpec : ChangeSpec := { name := "pairs", fn := fun _ => fun
  | [d1, d2] => { results := [.lit (.bool true)], args := [d1, d2] }
  | _ => none }
def pairsRow : OpenClaim := { program := "ytccblleobcidfaagreat", sum := "1b079038505421237c66c0d6f64a240a40a5911b3ec92b5b8e262825051555e1", func := "skiff/skifflaw24.Pairs", spec := "pairs", inPlace := ["internal/abi.NoEscape", "internal/bytealg.MakeNoZero"], unfollowed := true, recurses := true, plainKeys := false, apart := false }
def PairsSaid : Prop := pairsRow.holds Tryz.pinned (OpenSpec.ofChange pairsSpec)

/-- ITS FALSE NEIGHBOUR: 'it returns false'. Refute it at one input. -/
def pairsWrong : ChangeSpec := { name := "pairs", fn := fun _ => fun
  | [d1, d2] => { results := [.lit (.bool false)], args := [d1, d2] }
  | _ => none }
def PairsWrongFalsely : Prop := pairsRow.holds Tryz.pinned (OpenSpec.ofChange pairsWrong)

/-- 'skifflaw24.PairForms': WHATEVER THE INPUT: true; the input reads as it did. -/
def pairFormsSpec : ChangeSpec := { name := "pairForms", fn := fun _ => fun
  | [d1, d2] => { results := [.lit (.bool true)], args := [d1, d2] }
  | _ => none }
def pairFormsRow : OpenClaim := { program := "ytccblleobcidfaagreat", sum := "1b079038505421237c66c0d6f64a240a40a5911b3ec92b5b8e262825051555e1", func := "skiff/skifflaw24.PairForms", spec := "pairForms", inPlace := ["internal/abi.NoEscape", "internal/bytealg.MakeNoZero"], unfollowed := true, recurses := true, plainKeys := false, apart := false }
def PairFormsSaid : Prop := pairFormsRow.holds Tryz.pinned (OpenSpec.ofChange pairFormsSpec)

/-- ITS FALSE NEIGHBOUR: 'it returns false'. Refute it at one input. -/
def pairFormsWrong : ChangeSpec := { name := "pairForms", fn := fun _ => fun
  | [d1, d2] => { results := [.lit (.bool false)], args := [d1, d2] }
  | _ => none }
def PairFormsWrongFalsely : Prop := pairFormsRow.holds Tryz.pinned (OpenSpec.ofChange pairFormsWrong)

/-- 'skifflaw24.PairApart': WHATEVER THE INPUT: true; the input reads as it did. -/
def pairApartSpec : ChangeSpec := { name := "pairApart", fn := fun _ => fun
  | [d1, d2] => { results := [.lit (.bool true)], args := [d1, d2] }
  | _ => none }
def pairApartRow : OpenClaim := { program := "ytccblleobcidfaagreat", sum := "1b079038505421237c66c0d6f64a240a40a5911b3ec92b5b8e262825051555e1", func := "skiff/skifflaw24.PairApart", spec := "pairApart", inPlace := ["internal/abi.NoEscape", "internal/bytealg.MakeNoZero"], unfollowed := true, recurses := true, plainKeys := false, apart := false }
def PairApartSaid : Prop := pairApartRow.holds Tryz.pinned (OpenSpec.ofChange pairApartSpec)

/-- ITS FALSE NEIGHBOUR: 'it returns false'. Refute it at one input. -/
def pairApartWrong : ChangeSpec := { name := "pairApart", fn := fun _ => fun
  | [d1, d2] => { results := [.lit (.bool false)], args := [d1, d2] }
  | _ => none }
def PairApartWrongFalsely : Prop := pairApartRow.holds Tryz.pinned (OpenSpec.ofChange pairApartWrong)

/-- 'skifflaw24.PairLost': WHATEVER THE INPUT: true; the input reads as it did. -/
def pairLostSpec : ChangeSpec := { name := "pairLost", fn := fun _ => fun
  | [d] => { results := [.lit (.bool true)], args := [d] }
  | _ => none }
def pairLostRow : OpenClaim := { program := "ytccblleobcidfaagreat", sum := "1b079038505421237c66c0d6f64a240a40a5911b3ec92b5b8e262825051555e1", func := "skiff/skifflaw24.PairLost", spec := "pairLost", inPlace := ["internal/abi.NoEscape", "internal/bytealg.MakeNoZero"], unfollowed := true, recurses := true, plainKeys := false, apart := false }
def PairLostSaid : Prop := pairLostRow.holds Tryz.pinned (OpenSpec.ofChange pairLostSpec)

/-- ITS FALSE NEIGHBOUR: 'it returns false'. Refute it at one input. -/
def pairLostWrong : ChangeSpec := { name := "pairLost", fn := fun _ => fun
  | [d] => { results := [.lit (.bool false)], args := [d] }
  | _ => none }
def PairLostWrongFalsely : Prop := pairLostRow.holds Tryz.pinned (OpenSpec.ofChange pairLostWrong)

/-- 'skifflaw24.PairBusy': WHATEVER THE INPUT: true; the input reads as it did. -/
def pairBusySpec : ChangeSpec := { name := "pairBusy", fn := fun _ => fun
  | [d1, d2] => { results := [.lit (.bool true)], args := [d1, d2] }
  | _ => none }
def pairBusyRow : OpenClaim := { program := "ytccblleobcidfaagreat", sum := "1b079038505421237c66c0d6f64a240a40a5911b3ec92b5b8e262825051555e1", func := "skiff/skifflaw24.PairBusy", spec := "pairBusy", inPlace := ["internal/abi.NoEscape", "internal/bytealg.MakeNoZero"], unfollowed := true, recurses := true, plainKeys := false, apart := false }
def PairBusySaid : Prop := pairBusyRow.holds Tryz.pinned (OpenSpec.ofChange pairBusySpec)

/-- ITS FALSE NEIGHBOUR: 'it returns false'. Refute it at one input. -/
def pairBusyWrong : ChangeSpec := { name := "pairBusy", fn := fun _ => fun
  | [d1, d2] => { results := [.lit (.bool false)], args := [d1, d2] }
  | _ => none }
def PairBusyWrongFalsely : Prop := pairBusyRow.holds Tryz.pinned (OpenSpec.ofChange pairBusyWrong)

/-- 'skifflaw24.PairCarries': WHATEVER THE INPUT: true; the input reads as it did. -/
def pairCarriesSpec : ChangeSpec := { name := "pairCarries", fn := fun _ => fun
  | [d1, d2] => { results := [.lit (.bool true)], args := [d1, d2] }
  | _ => none }
def pairCarriesRow : OpenClaim := { program := "ytccblleobcidfaagreat", sum := "1b079038505421237c66c0d6f64a240a40a5911b3ec92b5b8e262825051555e1", func := "skiff/skifflaw24.PairCarries", spec := "pairCarries", inPlace := ["internal/abi.NoEscape", "internal/bytealg.MakeNoZero"], unfollowed := true, recurses := true, plainKeys := false, apart := false }
def PairCarriesSaid : Prop := pairCarriesRow.holds Tryz.pinned (OpenSpec.ofChange pairCarriesSpec)

/-- ITS FALSE NEIGHBOUR: 'it returns false'. Refute it at one input. -/
def pairCarriesWrong : ChangeSpec := { name := "pairCarries", fn := fun _ => fun
  | [d1, d2] => { results := [.lit (.bool false)], args := [d1, d2] }
  | _ => none }
def PairCarriesWrongFalsely : Prop := pairCarriesRow.holds Tryz.pinned (OpenSpec.ofChange pairCarriesWrong)

/-- 'skifflaw25.Scripts': WHATEVER THE INPUT: true; the input reads as it did. -/
def scriptsSpec : ChangeSpec := { name := "scripts", fn := fun _ => fun
  | [d1, d2, d3] => { results := [.lit (.bool true)], args := [d1, d2, d3] }
  | _ => none }
def scriptsRow : OpenClaim := { program := "ytccblleobcidfaagreat", sum := "1b079038505421237c66c0d6f64a240a40a5911b3ec92b5b8e262825051555e1", func := "skiff/skifflaw25.Scripts", spec := "scripts", inPlace := ["internal/abi.NoEscape", "internal/bytealg.MakeNoZero"], unfollowed := true, recurses := true, plainKeys := false, apart := false }
def ScriptsSaid : Prop := scriptsRow.holds Tryz.pinned (OpenSpec.ofChange scriptsSpec)

/-- ITS FALSE NEIGHBOUR: 'it returns false'. Refute it at one input. -/
def scriptsWrong : ChangeSpec := { name := "scripts", fn := fun _ => fun
  | [d1, d2, d3] => { results := [.lit (.bool false)], args := [d1, d2, d3] }
  | _ => none }
def ScriptsWrongFalsely : Prop := scriptsRow.holds Tryz.pinned (OpenSpec.ofChange scriptsWrong)

/-- 'skifflaw25.ScriptForms': WHATEVER THE INPUT: true; the input reads as it did. -/
def scriptFormsSpec : ChangeSpec := { name := "scriptForms", fn := fun _ => fun
  | [d1, d2] => { results := [.lit (.bool true)], args := [d1, d2] }
  | _ => none }
def scriptFormsRow : OpenClaim := { program := "ytccblleobcidfaagreat", sum := "1b079038505421237c66c0d6f64a240a40a5911b3ec92b5b8e262825051555e1", func := "skiff/skifflaw25.ScriptForms", spec := "scriptForms", inPlace := ["internal/abi.NoEscape", "internal/bytealg.MakeNoZero"], unfollowed := true, recurses := true, plainKeys := false, apart := false }
def ScriptFormsSaid : Prop := scriptFormsRow.holds Tryz.pinned (OpenSpec.ofChange scriptFormsSpec)

/-- ITS FALSE NEIGHBOUR: 'it returns false'. Refute it at one input. -/
def scriptFormsWrong : ChangeSpec := { name := "scriptForms", fn := fun _ => fun
  | [d1, d2] => { results := [.lit (.bool false)], args := [d1, d2] }
  | _ => none }
def ScriptFormsWrongFalsely : Prop := scriptFormsRow.holds Tryz.pinned (OpenSpec.ofChange scriptFormsWrong)

/-- 'skifflaw25.ScriptOn': WHATEVER THE INPUT: true; the input reads as it did. -/
def scriptOnSpec : ChangeSpec := { name := "scriptOn", fn := fun _ => fun
  | [d1, d2, d3, d4] => { results := [.lit (.bool true)], args := [d1, d2, d3, d4] }
  | _ => none }
def scriptOnRow : OpenClaim := { program := "ytccblleobcidfaagreat", sum := "1b079038505421237c66c0d6f64a240a40a5911b3ec92b5b8e262825051555e1", func := "skiff/skifflaw25.ScriptOn", spec := "scriptOn", inPlace := ["internal/abi.NoEscape", "internal/bytealg.MakeNoZero"], unfollowed := true, recurses := true, plainKeys := false, apart := false }
def ScriptOnSaid : Prop := scriptOnRow.holds Tryz.pinned (OpenSpec.ofChange scriptOnSpec)

/-- ITS FALSE NEIGHBOUR: 'it returns false'. Refute it at one input. -/
def scriptOnWrong : ChangeSpec := { name := "scriptOn", fn := fun _ => fun
  | [d1, d2, d3, d4] => { results := [.lit (.bool false)], args := [d1, d2, d3, d4] }
  | _ => none }
def ScriptOnWrongFalsely : Prop := scriptOnRow.holds Tryz.pinned (OpenSpec.ofChange scriptOnWrong)

/-- 'skifflaw25.ScriptGood': WHATEVER THE INPUT: true; the input reads as it did. -/
def scriptGoodSpec : ChangeSpec := { name := "scriptGood", fn := fun _ => fun
  | [d1, d2] => { results := [.lit (.bool true)], args := [d1, d2] }
  | _ => none }
def scriptGoodRow : OpenClaim := { program := "ytccblleobcidfaagreat", sum := "1b079038505421237c66c0d6f64a240a40a5911b3ec92b5b8e262825051555e1", func := "skiff/skifflaw25.ScriptGood", spec := "scriptGood", inPlace := ["internal/abi.NoEscape", "internal/bytealg.MakeNoZero"], unfollowed := true, recurses := true, plainKeys := false, apart := false }
def ScriptGoodSaid : Prop := scriptGoodRow.holds Tryz.pinned (OpenSpec.ofChange scriptGoodSpec)

/-- ITS FALSE NEIGHBOUR: 'it returns false'. Refute it at one input. -/
def scriptGoodWrong : ChangeSpec := { name := "scriptGood", fn := fun _ => fun
  | [d1, d2] => { results := [.lit (.bool false)], args := [d1, d2] }
  | _ => none }
def ScriptGoodWrongFalsely : Prop := scriptGoodRow.holds Tryz.pinned (OpenSpec.ofChange scriptGoodWrong)

/-- 'skifflaw25.ScriptTicks': WHATEVER THE INPUT: true; the input reads as it did. -/
def scriptTicksSpec : ChangeSpec := { name := "scriptTicks", fn := fun _ => fun
  | [d1, d2, d3] => { results := [.lit (.bool true)], args := [d1, d2, d3] }
  | _ => none }
def scriptTicksRow : OpenClaim := { program := "ytccblleobcidfaagreat", sum := "1b079038505421237c66c0d6f64a240a40a5911b3ec92b5b8e262825051555e1", func := "skiff/skifflaw25.ScriptTicks", spec := "scriptTicks", inPlace := ["internal/abi.NoEscape", "internal/bytealg.MakeNoZero"], unfollowed := true, recurses := true, plainKeys := false, apart := false }
def ScriptTicksSaid : Prop := scriptTicksRow.holds Tryz.pinned (OpenSpec.ofChange scriptTicksSpec)

/-- ITS FALSE NEIGHBOUR: 'it returns false'. Refute it at one input. -/
def scriptTicksWrong : ChangeSpec := { name := "scriptTicks", fn := fun _ => fun
  | [d1, d2, d3] => { results := [.lit (.bool false)], args := [d1, d2, d3] }
  | _ => none }
def ScriptTicksWrongFalsely : Prop := scriptTicksRow.holds Tryz.pinned (OpenSpec.ofChange scriptTicksWrong)

/-- 'skifftop.TopOn': WHATEVER THE INPUT: true; the input reads as it did. -/
def topOnSpec : ChangeSpec := { name := "topOn", fn := fun _ => fun
  | [d1, d2] => { results := [.lit (.bool true)], args := [d1, d2] }
  | _ => none }
def topOnRow : OpenClaim := { program := "ytccblleobcidfaagreat", sum := "1b079038505421237c66c0d6f64a240a40a5911b3ec92b5b8e262825051555e1", func := "skiff/skifftop.TopOn", spec := "topOn", inPlace := ["internal/abi.NoEscape", "internal/bytealg.MakeNoZero"], unfollowed := true, recurses := true, plainKeys := false, apart := false }
def TopOnSaid : Prop := topOnRow.holds Tryz.pinned (OpenSpec.ofChange topOnSpec)

/-- ITS FALSE NEIGHBOUR: 'it returns false'. Refute it at one input. -/
def topOnWrong : ChangeSpec := { name := "topOn", fn := fun _ => fun
  | [d1, d2] => { results := [.lit (.bool false)], args := [d1, d2] }
  | _ => none }
def TopOnWrongFalsely : Prop := topOnRow.holds Tryz.pinned (OpenSpec.ofChange topOnWrong)

/-- 'skifftop.TopFew': WHATEVER THE INPUT: true; the input reads as it did. -/
def topFewSpec : ChangeSpec := { name := "topFew", fn := fun _ => fun
  | [d1, d2] => { results := [.lit (.bool true)], args := [d1, d2] }
  | _ => none }
def topFewRow : OpenClaim := { program := "ytccblleobcidfaagreat", sum := "1b079038505421237c66c0d6f64a240a40a5911b3ec92b5b8e262825051555e1", func := "skiff/skifftop.TopFew", spec := "topFew", inPlace := ["internal/abi.NoEscape", "internal/bytealg.MakeNoZero"], unfollowed := true, recurses := true, plainKeys := false, apart := false }
def TopFewSaid : Prop := topFewRow.holds Tryz.pinned (OpenSpec.ofChange topFewSpec)

/-- ITS FALSE NEIGHBOUR: 'it returns false'. Refute it at one input. -/
def topFewWrong : ChangeSpec := { name := "topFew", fn := fun _ => fun
  | [d1, d2] => { results := [.lit (.bool false)], args := [d1, d2] }
  | _ => none }
def TopFewWrongFalsely : Prop := topFewRow.holds Tryz.pinned (OpenSpec.ofChange topFewWrong)

/-- 'skifftop.TopTwo': WHATEVER THE INPUT: true; the input reads as it did. -/
def topTwoSpec : ChangeSpec := { name := "topTwo", fn := fun _ => fun
  | [d1, d2] => { results := [.lit (.bool true)], args := [d1, d2] }
  | _ => none }
def topTwoRow : OpenClaim := { program := "ytccblleobcidfaagreat", sum := "1b079038505421237c66c0d6f64a240a40a5911b3ec92b5b8e262825051555e1", func := "skiff/skifftop.TopTwo", spec := "topTwo", inPlace := ["internal/abi.NoEscape", "internal/bytealg.MakeNoZero"], unfollowed := true, recurses := true, plainKeys := false, apart := false }
def TopTwoSaid : Prop := topTwoRow.holds Tryz.pinned (OpenSpec.ofChange topTwoSpec)

/-- ITS FALSE NEIGHBOUR: 'it returns false'. Refute it at one input. -/
def topTwoWrong : ChangeSpec := { name := "topTwo", fn := fun _ => fun
  | [d1, d2] => { results := [.lit (.bool false)], args := [d1, d2] }
  | _ => none }
def TopTwoWrongFalsely : Prop := topTwoRow.holds Tryz.pinned (OpenSpec.ofChange topTwoWrong)

/-- 'skifftop.TopCutAnywhere': WHATEVER THE INPUT: true; the input reads as it did. -/
def topCutAnywhereSpec : ChangeSpec := { name := "topCutAnywhere", fn := fun _ => fun
  | [d1, d2, d3, d4] => { results := [.lit (.bool true)], args := [d1, d2, d3, d4] }
  | _ => none }
def topCutAnywhereRow : OpenClaim := { program := "ytccblleobcidfaagreat", sum := "1b079038505421237c66c0d6f64a240a40a5911b3ec92b5b8e262825051555e1", func := "skiff/skifftop.TopCutAnywhere", spec := "topCutAnywhere", inPlace := ["internal/abi.NoEscape", "internal/bytealg.MakeNoZero"], unfollowed := true, recurses := true, plainKeys := false, apart := false }
def TopCutAnywhereSaid : Prop := topCutAnywhereRow.holds Tryz.pinned (OpenSpec.ofChange topCutAnywhereSpec)

/-- ITS FALSE NEIGHBOUR: 'it returns false'. Refute it at one input. -/
def topCutAnywhereWrong : ChangeSpec := { name := "topCutAnywhere", fn := fun _ => fun
  | [d1, d2, d3, d4] => { results := [.lit (.bool false)], args := [d1, d2, d3, d4] }
  | _ => none }
def TopCutAnywhereWrongFalsely : Prop := topCutAnywhereRow.holds Tryz.pinned (OpenSpec.ofChange topCutAnywhereWrong)

/-- 'skifftop.TopTame': WHATEVER THE INPUT: true; the input reads as it did. -/
def topTameSpec : ChangeSpec := { name := "topTame", fn := fun _ => fun
  | [d] => { results := [.lit (.bool true)], args := [d] }
  | _ => none }
def topTameRow : OpenClaim := { program := "ytccblleobcidfaagreat", sum := "1b079038505421237c66c0d6f64a240a40a5911b3ec92b5b8e262825051555e1", func := "skiff/skifftop.TopTame", spec := "topTame", inPlace := ["internal/abi.NoEscape", "internal/bytealg.MakeNoZero"], unfollowed := true, recurses := true, plainKeys := false, apart := false }
def TopTameSaid : Prop := topTameRow.holds Tryz.pinned (OpenSpec.ofChange topTameSpec)

/-- ITS FALSE NEIGHBOUR: 'it returns false'. Refute it at one input. -/
def topTameWrong : ChangeSpec := { name := "topTame", fn := fun _ => fun
  | [d] => { results := [.lit (.bool false)], args := [d] }
  | _ => none }
def TopTameWrongFalsely : Prop := topTameRow.holds Tryz.pinned (OpenSpec.ofChange topTameWrong)

/-- 'skifftop.TopSeqs': WHATEVER THE INPUT: true; the input reads as it did. -/
def topSeqsSpec : ChangeSpec := { name := "topSeqs", fn := fun _ => fun
  | [d] => { results := [.lit (.bool true)], args := [d] }
  | _ => none }
def topSeqsRow : OpenClaim := { program := "ytccblleobcidfaagreat", sum := "1b079038505421237c66c0d6f64a240a40a5911b3ec92b5b8e262825051555e1", func := "skiff/skifftop.TopSeqs", spec := "topSeqs", inPlace := ["internal/abi.NoEscape", "internal/bytealg.MakeNoZero"], unfollowed := true, recurses := true, plainKeys := false, apart := false }
def TopSeqsSaid : Prop := topSeqsRow.holds Tryz.pinned (OpenSpec.ofChange topSeqsSpec)

/-- ITS FALSE NEIGHBOUR: 'it returns false'. Refute it at one input. -/
def topSeqsWrong : ChangeSpec := { name := "topSeqs", fn := fun _ => fun
  | [d] => { results := [.lit (.bool false)], args := [d] }
  | _ => none }
def TopSeqsWrongFalsely : Prop := topSeqsRow.holds Tryz.pinned (OpenSpec.ofChange topSeqsWrong)

/-- 'skifftop.TopFiles': WHATEVER THE INPUT: true; the input reads as it did. -/
def topFilesSpec : ChangeSpec := { name := "topFiles", fn := fun _ => fun
  | [d1, d2, d3] => { results := [.lit (.bool true)], args := [d1, d2, d3] }
  | _ => none }
def topFilesRow : OpenClaim := { program := "ytccblleobcidfaagreat", sum := "1b079038505421237c66c0d6f64a240a40a5911b3ec92b5b8e262825051555e1", func := "skiff/skifftop.TopFiles", spec := "topFiles", inPlace := ["internal/abi.NoEscape", "internal/bytealg.MakeNoZero"], unfollowed := true, recurses := true, plainKeys := false, apart := false }
def TopFilesSaid : Prop := topFilesRow.holds Tryz.pinned (OpenSpec.ofChange topFilesSpec)

/-- ITS FALSE NEIGHBOUR: 'it returns false'. Refute it at one input. -/
def topFilesWrong : ChangeSpec := { name := "topFiles", fn := fun _ => fun
  | [d1, d2, d3] => { results := [.lit (.bool false)], args := [d1, d2, d3] }
  | _ => none }
def TopFilesWrongFalsely : Prop := topFilesRow.holds Tryz.pinned (OpenSpec.ofChange topFilesWrong)

/-- 'skifftop.TopBlocks': WHATEVER THE INPUT: true; the input reads as it did. -/
def topBlocksSpec : ChangeSpec := { name := "topBlocks", fn := fun _ => fun
  | [d1, d2] => { results := [.lit (.bool true)], args := [d1, d2] }
  | _ => none }
def topBlocksRow : OpenClaim := { program := "ytccblleobcidfaagreat", sum := "1b079038505421237c66c0d6f64a240a40a5911b3ec92b5b8e262825051555e1", func := "skiff/skifftop.TopBlocks", spec := "topBlocks", inPlace := ["internal/abi.NoEscape", "internal/bytealg.MakeNoZero"], unfollowed := true, recurses := true, plainKeys := false, apart := false }
def TopBlocksSaid : Prop := topBlocksRow.holds Tryz.pinned (OpenSpec.ofChange topBlocksSpec)

/-- ITS FALSE NEIGHBOUR: 'it returns false'. Refute it at one input. -/
def topBlocksWrong : ChangeSpec := { name := "topBlocks", fn := fun _ => fun
  | [d1, d2] => { results := [.lit (.bool false)], args := [d1, d2] }
  | _ => none }
def TopBlocksWrongFalsely : Prop := topBlocksRow.holds Tryz.pinned (OpenSpec.ofChange topBlocksWrong)

/-- 'skifftop.TopDuplicate': WHATEVER THE INPUT: true; the input reads as it did. -/
def topDuplicateSpec : ChangeSpec := { name := "topDuplicate", fn := fun _ => fun
  | [d] => { results := [.lit (.bool true)], args := [d] }
  | _ => none }
def topDuplicateRow : OpenClaim := { program := "ytccblleobcidfaagreat", sum := "1b079038505421237c66c0d6f64a240a40a5911b3ec92b5b8e262825051555e1", func := "skiff/skifftop.TopDuplicate", spec := "topDuplicate", inPlace := ["internal/abi.NoEscape", "internal/bytealg.MakeNoZero"], unfollowed := true, recurses := true, plainKeys := false, apart := false }
def TopDuplicateSaid : Prop := topDuplicateRow.holds Tryz.pinned (OpenSpec.ofChange topDuplicateSpec)

/-- ITS FALSE NEIGHBOUR: 'it returns false'. Refute it at one input. -/
def topDuplicateWrong : ChangeSpec := { name := "topDuplicate", fn := fun _ => fun
  | [d] => { results := [.lit (.bool false)], args := [d] }
  | _ => none }
def TopDuplicateWrongFalsely : Prop := topDuplicateRow.holds Tryz.pinned (OpenSpec.ofChange topDuplicateWrong)

/- THE SECOND FORM. 'bulk': how many values and letters a reading holds, each counted each time it is reached (what is shared counts as often as it is met; a slice's spare places count too). A statement '..UptoSaid' is the law's where the arguments, and the package variables that the reading takes, are together of bulk at most 1048576: NARROWER than '..Said'. Prove '..Said' where nothing that the law and all that it calls make is longer than what came in: it says more and counts as full. Else prove '..UptoSaid'. A law counts once. -/
mutual
def uptoBulk {H : Type} : DataW H → Nat
  | .lit (.string bytes) => bytes.length + 1
  | .lit _ => 1
  | .nil => 1
  | .ptr d => uptoBulk d + 1
  | .slice elems spare => uptoBulkAll elems + uptoBulkAll spare + 1
  | .agg parts => uptoBulkAll parts + 1
  | .iface _ d => uptoBulk d + 1
  | .map entries => uptoBulkEntries entries + 1
  | .held _ => 1
def uptoBulkAll {H : Type} : List (DataW H) → Nat
  | [] => 0
  | d :: r => uptoBulk d + uptoBulkAll r
def uptoBulkEntries {H : Type} : List (Lit × DataW H) → Nat
  | [] => 0
  | x :: r => uptoBulkEntry x + uptoBulkEntries r
def uptoBulkEntry {H : Type} : Lit × DataW H → Nat
  | (.string bytes, d) => bytes.length + uptoBulk d + 1
  | (_, d) => uptoBulk d + 1
 end
def uptoSmall : (H : Type) → List (DataW H) → Bool := fun _ ds => decide (uptoBulkAll ds ≤ 1048576)
def OpenSpec.upto (s : _root_.Go.ChangeSpec) : _root_.Go.OpenSpec := { _root_.Go.OpenSpec.ofChange s with cond := some uptoSmall }

/-- 'skifftop.TopWhole', WHERE WHAT IT READS IS OF BULK AT MOST 1048576: true; the input reads as it did. -/
def topWholeUptoRow : OpenClaim := { program := "ytccblleobcidfaagreat", sum := "1b079038505421237c66c0d6f64a240a40a5911b3ec92b5b8e262825051555e1", func := "skiff/skifftop.TopWhole", spec := "topWhole", inPlace := ["internal/abi.NoEscape", "internal/bytealg.MakeNoZero"], unfollowed := true, recurses := true, plainKeys := false, apart := false, narrowed := true }
def TopWholeUptoSaid : Prop := topWholeUptoRow.holds Tryz.pinned (OpenSpec.upto topWholeSpec)

/-- 'skifftop.TopCuts', WHERE WHAT IT READS IS OF BULK AT MOST 1048576: true; the input reads as it did. -/
def topCutsUptoRow : OpenClaim := { program := "ytccblleobcidfaagreat", sum := "1b079038505421237c66c0d6f64a240a40a5911b3ec92b5b8e262825051555e1", func := "skiff/skifftop.TopCuts", spec := "topCuts", inPlace := ["internal/abi.NoEscape", "internal/bytealg.MakeNoZero"], unfollowed := true, recurses := true, plainKeys := false, apart := false, narrowed := true }
def TopCutsUptoSaid : Prop := topCutsUptoRow.holds Tryz.pinned (OpenSpec.upto topCutsSpec)

/-- 'skifftop.TopTruth', WHERE WHAT IT READS IS OF BULK AT MOST 1048576: true; the input reads as it did. -/
def topTruthUptoRow : OpenClaim := { program := "ytccblleobcidfaagreat", sum := "1b079038505421237c66c0d6f64a240a40a5911b3ec92b5b8e262825051555e1", func := "skiff/skifftop.TopTruth", spec := "topTruth", inPlace := ["internal/abi.NoEscape", "internal/bytealg.MakeNoZero"], unfollowed := true, recurses := true, plainKeys := false, apart := false, narrowed := true }
def TopTruthUptoSaid : Prop := topTruthUptoRow.holds Tryz.pinned (OpenSpec.upto topTruthSpec)

/-- 'skifflaw24.Pairs', WHERE WHAT IT READS IS OF BULK AT MOST 1048576: true; the input reads as it did. -/
def pairsUptoRow : OpenClaim := { program := "ytccblleobcidfaagreat", sum := "1b079038505421237c66c0d6f64a240a40a5911b3ec92b5b8e262825051555e1", func := "skiff/skifflaw24.Pairs", spec := "pairs", inPlace := ["internal/abi.NoEscape", "internal/bytealg.MakeNoZero"], unfollowed := true, recurses := true, plainKeys := false, apart := false, narrowed := true }
def PairsUptoSaid : Prop := pairsUptoRow.holds Tryz.pinned (OpenSpec.upto pairsSpec)

/-- 'skifflaw24.PairForms', WHERE WHAT IT READS IS OF BULK AT MOST 1048576: true; the input reads as it did. -/
def pairFormsUptoRow : OpenClaim := { program := "ytccblleobcidfaagreat", sum := "1b079038505421237c66c0d6f64a240a40a5911b3ec92b5b8e262825051555e1", func := "skiff/skifflaw24.PairForms", spec := "pairForms", inPlace := ["internal/abi.NoEscape", "internal/bytealg.MakeNoZero"], unfollowed := true, recurses := true, plainKeys := false, apart := false, narrowed := true }
def PairFormsUptoSaid : Prop := pairFormsUptoRow.holds Tryz.pinned (OpenSpec.upto pairFormsSpec)

/-- 'skifflaw24.PairApart', WHERE WHAT IT READS IS OF BULK AT MOST 1048576: true; the input reads as it did. -/
def pairApartUptoRow : OpenClaim := { program := "ytccblleobcidfaagreat", sum := "1b079038505421237c66c0d6f64a240a40a5911b3ec92b5b8e262825051555e1", func := "skiff/skifflaw24.PairApart", spec := "pairApart", inPlace := ["internal/abi.NoEscape", "internal/bytealg.MakeNoZero"], unfollowed := true, recurses := true, plainKeys := false, apart := false, narrowed := true }
def PairApartUptoSaid : Prop := pairApartUptoRow.holds Tryz.pinned (OpenSpec.upto pairApartSpec)

/-- 'skifflaw24.PairLost', WHERE WHAT IT READS IS OF BULK AT MOST 1048576: true; the input reads as it did. -/
def pairLostUptoRow : OpenClaim := { program := "ytccblleobcidfaagreat", sum := "1b079038505421237c66c0d6f64a240a40a5911b3ec92b5b8e262825051555e1", func := "skiff/skifflaw24.PairLost", spec := "pairLost", inPlace := ["internal/abi.NoEscape", "internal/bytealg.MakeNoZero"], unfollowed := true, recurses := true, plainKeys := false, apart := false, narrowed := true }
def PairLostUptoSaid : Prop := pairLostUptoRow.holds Tryz.pinned (OpenSpec.upto pairLostSpec)

/-- 'skifflaw24.PairBusy', WHERE WHAT IT READS IS OF BULK AT MOST 1048576: true; the input reads as it did. -/
def pairBusyUptoRow : OpenClaim := { program := "ytccblleobcidfaagreat", sum := "1b079038505421237c66c0d6f64a240a40a5911b3ec92b5b8e262825051555e1", func := "skiff/skifflaw24.PairBusy", spec := "pairBusy", inPlace := ["internal/abi.NoEscape", "internal/bytealg.MakeNoZero"], unfollowed := true, recurses := true, plainKeys := false, apart := false, narrowed := true }
def PairBusyUptoSaid : Prop := pairBusyUptoRow.holds Tryz.pinned (OpenSpec.upto pairBusySpec)

/-- 'skifflaw24.PairCarries', WHERE WHAT IT READS IS OF BULK AT MOST 1048576: true; the input reads as it did. -/
def pairCarriesUptoRow : OpenClaim := { program := "ytccblleobcidfaagreat", sum := "1b079038505421237c66c0d6f64a240a40a5911b3ec92b5b8e262825051555e1", func := "skiff/skifflaw24.PairCarries", spec := "pairCarries", inPlace := ["internal/abi.NoEscape", "internal/bytealg.MakeNoZero"], unfollowed := true, recurses := true, plainKeys := false, apart := false, narrowed := true }
def PairCarriesUptoSaid : Prop := pairCarriesUptoRow.holds Tryz.pinned (OpenSpec.upto pairCarriesSpec)

/-- 'skifflaw25.Scripts', WHERE WHAT IT READS IS OF BULK AT MOST 1048576: true; the input reads as it did. -/
def scriptsUptoRow : OpenClaim := { program := "ytccblleobcidfaagreat", sum := "1b079038505421237c66c0d6f64a240a40a5911b3ec92b5b8e262825051555e1", func := "skiff/skifflaw25.Scripts", spec := "scripts", inPlace := ["internal/abi.NoEscape", "internal/bytealg.MakeNoZero"], unfollowed := true, recurses := true, plainKeys := false, apart := false, narrowed := true }
def ScriptsUptoSaid : Prop := scriptsUptoRow.holds Tryz.pinned (OpenSpec.upto scriptsSpec)

/-- 'skifflaw25.ScriptForms', WHERE WHAT IT READS IS OF BULK AT MOST 1048576: true; the input reads as it did. -/
def scriptFormsUptoRow : OpenClaim := { program := "ytccblleobcidfaagreat", sum := "1b079038505421237c66c0d6f64a240a40a5911b3ec92b5b8e262825051555e1", func := "skiff/skifflaw25.ScriptForms", spec := "scriptForms", inPlace := ["internal/abi.NoEscape", "internal/bytealg.MakeNoZero"], unfollowed := true, recurses := true, plainKeys := false, apart := false, narrowed := true }
def ScriptFormsUptoSaid : Prop := scriptFormsUptoRow.holds Tryz.pinned (OpenSpec.upto scriptFormsSpec)

/-- 'skifflaw25.ScriptOn', WHERE WHAT IT READS IS OF BULK AT MOST 1048576: true; the input reads as it did. -/
def scriptOnUptoRow : OpenClaim := { program := "ytccblleobcidfaagreat", sum := "1b079038505421237c66c0d6f64a240a40a5911b3ec92b5b8e262825051555e1", func := "skiff/skifflaw25.ScriptOn", spec := "scriptOn", inPlace := ["internal/abi.NoEscape", "internal/bytealg.MakeNoZero"], unfollowed := true, recurses := true, plainKeys := false, apart := false, narrowed := true }
def ScriptOnUptoSaid : Prop := scriptOnUptoRow.holds Tryz.pinned (OpenSpec.upto scriptOnSpec)

/-- 'skifflaw25.ScriptGood', WHERE WHAT IT READS IS OF BULK AT MOST 1048576: true; the input reads as it did. -/
def scriptGoodUptoRow : OpenClaim := { program := "ytccblleobcidfaagreat", sum := "1b079038505421237c66c0d6f64a240a40a5911b3ec92b5b8e262825051555e1", func := "skiff/skifflaw25.ScriptGood", spec := "scriptGood", inPlace := ["internal/abi.NoEscape", "internal/bytealg.MakeNoZero"], unfollowed := true, recurses := true, plainKeys := false, apart := false, narrowed := true }
def ScriptGoodUptoSaid : Prop := scriptGoodUptoRow.holds Tryz.pinned (OpenSpec.upto scriptGoodSpec)

/-- 'skifflaw25.ScriptTicks', WHERE WHAT IT READS IS OF BULK AT MOST 1048576: true; the input reads as it did. -/
def scriptTicksUptoRow : OpenClaim := { program := "ytccblleobcidfaagreat", sum := "1b079038505421237c66c0d6f64a240a40a5911b3ec92b5b8e262825051555e1", func := "skiff/skifflaw25.ScriptTicks", spec := "scriptTicks", inPlace := ["internal/abi.NoEscape", "internal/bytealg.MakeNoZero"], unfollowed := true, recurses := true, plainKeys := false, apart := false, narrowed := true }
def ScriptTicksUptoSaid : Prop := scriptTicksUptoRow.holds Tryz.pinned (OpenSpec.upto scriptTicksSpec)

/-- 'skifftop.TopOn', WHERE WHAT IT READS IS OF BULK AT MOST 1048576: true; the input reads as it did. -/
def topOnUptoRow : OpenClaim := { program := "ytccblleobcidfaagreat", sum := "1b079038505421237c66c0d6f64a240a40a5911b3ec92b5b8e262825051555e1", func := "skiff/skifftop.TopOn", spec := "topOn", inPlace := ["internal/abi.NoEscape", "internal/bytealg.MakeNoZero"], unfollowed := true, recurses := true, plainKeys := false, apart := false, narrowed := true }
def TopOnUptoSaid : Prop := topOnUptoRow.holds Tryz.pinned (OpenSpec.upto topOnSpec)

/-- 'skifftop.TopFew', WHERE WHAT IT READS IS OF BULK AT MOST 1048576: true; the input reads as it did. -/
def topFewUptoRow : OpenClaim := { program := "ytccblleobcidfaagreat", sum := "1b079038505421237c66c0d6f64a240a40a5911b3ec92b5b8e262825051555e1", func := "skiff/skifftop.TopFew", spec := "topFew", inPlace := ["internal/abi.NoEscape", "internal/bytealg.MakeNoZero"], unfollowed := true, recurses := true, plainKeys := false, apart := false, narrowed := true }
def TopFewUptoSaid : Prop := topFewUptoRow.holds Tryz.pinned (OpenSpec.upto topFewSpec)

/-- 'skifftop.TopTwo', WHERE WHAT IT READS IS OF BULK AT MOST 1048576: true; the input reads as it did. -/
def topTwoUptoRow : OpenClaim := { program := "ytccblleobcidfaagreat", sum := "1b079038505421237c66c0d6f64a240a40a5911b3ec92b5b8e262825051555e1", func := "skiff/skifftop.TopTwo", spec := "topTwo", inPlace := ["internal/abi.NoEscape", "internal/bytealg.MakeNoZero"], unfollowed := true, recurses := true, plainKeys := false, apart := false, narrowed := true }
def TopTwoUptoSaid : Prop := topTwoUptoRow.holds Tryz.pinned (OpenSpec.upto topTwoSpec)

/-- 'skifftop.TopCutAnywhere', WHERE WHAT IT READS IS OF BULK AT MOST 1048576: true; the input reads as it did. -/
def topCutAnywhereUptoRow : OpenClaim := { program := "ytccblleobcidfaagreat", sum := "1b079038505421237c66c0d6f64a240a40a5911b3ec92b5b8e262825051555e1", func := "skiff/skifftop.TopCutAnywhere", spec := "topCutAnywhere", inPlace := ["internal/abi.NoEscape", "internal/bytealg.MakeNoZero"], unfollowed := true, recurses := true, plainKeys := false, apart := false, narrowed := true }
def TopCutAnywhereUptoSaid : Prop := topCutAnywhereUptoRow.holds Tryz.pinned (OpenSpec.upto topCutAnywhereSpec)

/-- 'skifftop.TopTame', WHERE WHAT IT READS IS OF BULK AT MOST 1048576: true; the input reads as it did. -/
def topTameUptoRow : OpenClaim := { program := "ytccblleobcidfaagreat", sum := "1b079038505421237c66c0d6f64a240a40a5911b3ec92b5b8e262825051555e1", func := "skiff/skifftop.TopTame", spec := "topTame", inPlace := ["internal/abi.NoEscape", "internal/bytealg.MakeNoZero"], unfollowed := true, recurses := true, plainKeys := false, apart := false, narrowed := true }
def TopTameUptoSaid : Prop := topTameUptoRow.holds Tryz.pinned (OpenSpec.upto topTameSpec)

/-- 'skifftop.TopSeqs', WHERE WHAT IT READS IS OF BULK AT MOST 1048576: true; the input reads as it did. -/
def topSeqsUptoRow : OpenClaim := { program := "ytccblleobcidfaagreat", sum := "1b079038505421237c66c0d6f64a240a40a5911b3ec92b5b8e262825051555e1", func := "skiff/skifftop.TopSeqs", spec := "topSeqs", inPlace := ["internal/abi.NoEscape", "internal/bytealg.MakeNoZero"], unfollowed := true, recurses := true, plainKeys := false, apart := false, narrowed := true }
def TopSeqsUptoSaid : Prop := topSeqsUptoRow.holds Tryz.pinned (OpenSpec.upto topSeqsSpec)

/-- 'skifftop.TopFiles', WHERE WHAT IT READS IS OF BULK AT MOST 1048576: true; the input reads as it did. -/
def topFilesUptoRow : OpenClaim := { program := "ytccblleobcidfaagreat", sum := "1b079038505421237c66c0d6f64a240a40a5911b3ec92b5b8e262825051555e1", func := "skiff/skifftop.TopFiles", spec := "topFiles", inPlace := ["internal/abi.NoEscape", "internal/bytealg.MakeNoZero"], unfollowed := true, recurses := true, plainKeys := false, apart := false, narrowed := true }
def TopFilesUptoSaid : Prop := topFilesUptoRow.holds Tryz.pinned (OpenSpec.upto topFilesSpec)

/-- 'skifftop.TopBlocks', WHERE WHAT IT READS IS OF BULK AT MOST 1048576: true; the input reads as it did. -/
def topBlocksUptoRow : OpenClaim := { program := "ytccblleobcidfaagreat", sum := "1b079038505421237c66c0d6f64a240a40a5911b3ec92b5b8e262825051555e1", func := "skiff/skifftop.TopBlocks", spec := "topBlocks", inPlace := ["internal/abi.NoEscape", "internal/bytealg.MakeNoZero"], unfollowed := true, recurses := true, plainKeys := false, apart := false, narrowed := true }
def TopBlocksUptoSaid : Prop := topBlocksUptoRow.holds Tryz.pinned (OpenSpec.upto topBlocksSpec)

/-- 'skifftop.TopDuplicate', WHERE WHAT IT READS IS OF BULK AT MOST 1048576: true; the input reads as it did. -/
def topDuplicateUptoRow : OpenClaim := { program := "ytccblleobcidfaagreat", sum := "1b079038505421237c66c0d6f64a240a40a5911b3ec92b5b8e262825051555e1", func := "skiff/skifftop.TopDuplicate", spec := "topDuplicate", inPlace := ["internal/abi.NoEscape", "internal/bytealg.MakeNoZero"], unfollowed := true, recurses := true, plainKeys := false, apart := false, narrowed := true }
def TopDuplicateUptoSaid : Prop := topDuplicateUptoRow.holds Tryz.pinned (OpenSpec.upto topDuplicateSpec)

end Rows
end Go.Proofs.YtccblleobcidfaaGreat

/-
  No cell of these rows narrows 'for every input' (looked for: loops, veiled, ifaces, maps, wideKeys, modest, calm, conditions, laid).
  DERIVED. THE GIVEN ROWS OF THIS SEAT. 12 by the template 'for every input the law returns true; each argument reads behind the call as it read before'; 0 by the template 'total and deterministic' (their statements: YtfnfnldndmkeeaaTotals.lean).
  GIVEN WITH THE SEED: the statements are not yours to turn. If you find one false, say at which input.
  Laid BY PROGRAM, IN A SANDBOX (cutbox-rows.mjs): the forced cells as the released guide's own fill.sh prints them over the translation 8e1f852ecd7bff73… (all of the seat's roots in one cut). By AI agents, Wed Nov 11 2026. No macro, syntax, notation, axiom, sorry.
-/
import Derived.Test.YtfnfnldndmkeeaaChecked
import GoSem.Claim
import GoSem.ClaimJoined
import GoSem.ClaimMapViews
import Derived.JoinedTies
import Derived.KernelRfl
namespace Go.Proofs.Ytfnfnldndmkeeaa
/- THE CELL 'sum', in the pinned program and in every row, IS THE sha256 OF THE DUMP (.gsa) THAT YtfnfnldndmkeeaaProg.lean LOADS. Nothing in Lean hashes anything: it is a label: what it is worth is what the hold of that sum in a sandbox is worth. -/
noncomputable def Try.pinned : Pinned := { name := "ytfnfnldndmkeeaa", sum := "8e1f852ecd7bff7327ba802902544e77cf4fd372163acfb067cd075a713a764a", checked := Try.checked }
namespace Rows
def none {H : Type} : Left H := { results := [], args := [] }

/-- 'skifflaw16.Devices': WHATEVER THE INPUT: true; the input reads as it did. -/
def devicesSpec : ChangeSpec := { name := "devices", fn := fun _ => fun
  | [d1, d2] => { results := [.lit (.bool true)], args := [d1, d2] }
  | _ => none }
def devicesRow : OpenClaim := { program := "ytfnfnldndmkeeaa", sum := "8e1f852ecd7bff7327ba802902544e77cf4fd372163acfb067cd075a713a764a", func := "skiff/skifflaw16.Devices", spec := "devices", unfollowed := true, recurses := true, apart := false }
def DevicesSaid : Prop := devicesRow.holds Try.pinned (OpenSpec.ofChange devicesSpec)

/-- ITS FALSE NEIGHBOUR: 'it returns false'. Refute it at one input. -/
def devicesWrong : ChangeSpec := { name := "devices", fn := fun _ => fun
  | [d1, d2] => { results := [.lit (.bool false)], args := [d1, d2] }
  | _ => none }
def DevicesWrongFalsely : Prop := devicesRow.holds Try.pinned (OpenSpec.ofChange devicesWrong)

/-- 'skifflaw16.DeviceForms': WHATEVER THE INPUT: true; the input reads as it did. -/
def deviceFormsSpec : ChangeSpec := { name := "deviceForms", fn := fun _ => fun
  | [d1, d2] => { results := [.lit (.bool true)], args := [d1, d2] }
  | _ => none }
def deviceFormsRow : OpenClaim := { program := "ytfnfnldndmkeeaa", sum := "8e1f852ecd7bff7327ba802902544e77cf4fd372163acfb067cd075a713a764a", func := "skiff/skifflaw16.DeviceForms", spec := "deviceForms", unfollowed := true, recurses := true, apart := false }
def DeviceFormsSaid : Prop := deviceFormsRow.holds Try.pinned (OpenSpec.ofChange deviceFormsSpec)

/-- ITS FALSE NEIGHBOUR: 'it returns false'. Refute it at one input. -/
def deviceFormsWrong : ChangeSpec := { name := "deviceForms", fn := fun _ => fun
  | [d1, d2] => { results := [.lit (.bool false)], args := [d1, d2] }
  | _ => none }
def DeviceFormsWrongFalsely : Prop := deviceFormsRow.holds Try.pinned (OpenSpec.ofChange deviceFormsWrong)

/-- 'skifflaw16.DeviceFails': WHATEVER THE INPUT: true; the input reads as it did. -/
def deviceFailsSpec : ChangeSpec := { name := "deviceFails", fn := fun _ => fun
  | [d1, d2] => { results := [.lit (.bool true)], args := [d1, d2] }
  | _ => none }
def deviceFailsRow : OpenClaim := { program := "ytfnfnldndmkeeaa", sum := "8e1f852ecd7bff7327ba802902544e77cf4fd372163acfb067cd075a713a764a", func := "skiff/skifflaw16.DeviceFails", spec := "deviceFails", unfollowed := true, recurses := true, apart := false }
def DeviceFailsSaid : Prop := deviceFailsRow.holds Try.pinned (OpenSpec.ofChange deviceFailsSpec)

/-- ITS FALSE NEIGHBOUR: 'it returns false'. Refute it at one input. -/
def deviceFailsWrong : ChangeSpec := { name := "deviceFails", fn := fun _ => fun
  | [d1, d2] => { results := [.lit (.bool false)], args := [d1, d2] }
  | _ => none }
def DeviceFailsWrongFalsely : Prop := deviceFailsRow.holds Try.pinned (OpenSpec.ofChange deviceFailsWrong)

/-- 'skifflaw16.DeviceNew': WHATEVER THE INPUT: true; the input reads as it did. -/
def deviceNewSpec : ChangeSpec := { name := "deviceNew", fn := fun _ => fun
  | [d] => { results := [.lit (.bool true)], args := [d] }
  | _ => none }
def deviceNewRow : OpenClaim := { program := "ytfnfnldndmkeeaa", sum := "8e1f852ecd7bff7327ba802902544e77cf4fd372163acfb067cd075a713a764a", func := "skiff/skifflaw16.DeviceNew", spec := "deviceNew", unfollowed := true, recurses := true, apart := false }
def DeviceNewSaid : Prop := deviceNewRow.holds Try.pinned (OpenSpec.ofChange deviceNewSpec)

/-- ITS FALSE NEIGHBOUR: 'it returns false'. Refute it at one input. -/
def deviceNewWrong : ChangeSpec := { name := "deviceNew", fn := fun _ => fun
  | [d] => { results := [.lit (.bool false)], args := [d] }
  | _ => none }
def DeviceNewWrongFalsely : Prop := deviceNewRow.holds Try.pinned (OpenSpec.ofChange deviceNewWrong)

/-- 'skifflaw13.Setups': WHATEVER THE INPUT: true; the input reads as it did. -/
def setupsSpec : ChangeSpec := { name := "setups", fn := fun _ => fun
  | [d1, d2, d3] => { results := [.lit (.bool true)], args := [d1, d2, d3] }
  | _ => none }
def setupsRow : OpenClaim := { program := "ytfnfnldndmkeeaa", sum := "8e1f852ecd7bff7327ba802902544e77cf4fd372163acfb067cd075a713a764a", func := "skiff/skifflaw13.Setups", spec := "setups", apart := false }
def SetupsSaid : Prop := setupsRow.holds Try.pinned (OpenSpec.ofChange setupsSpec)

/-- ITS FALSE NEIGHBOUR: 'it returns false'. Refute it at one input. -/
def setupsWrong : ChangeSpec := { name := "setups", fn := fun _ => fun
  | [d1, d2, d3] => { results := [.lit (.bool false)], args := [d1, d2, d3] }
  | _ => none }
def SetupsWrongFalsely : Prop := setupsRow.holds Try.pinned (OpenSpec.ofChange setupsWrong)

/-- 'skifflaw13.SetupForms': WHATEVER THE INPUT: true; the input reads as it did. -/
def setupFormsSpec : ChangeSpec := { name := "setupForms", fn := fun _ => fun
  | [d1, d2] => { results := [.lit (.bool true)], args := [d1, d2] }
  | _ => none }
def setupFormsRow : OpenClaim := { program := "ytfnfnldndmkeeaa", sum := "8e1f852ecd7bff7327ba802902544e77cf4fd372163acfb067cd075a713a764a", func := "skiff/skifflaw13.SetupForms", spec := "setupForms", apart := false }
def SetupFormsSaid : Prop := setupFormsRow.holds Try.pinned (OpenSpec.ofChange setupFormsSpec)

/-- ITS FALSE NEIGHBOUR: 'it returns false'. Refute it at one input. -/
def setupFormsWrong : ChangeSpec := { name := "setupForms", fn := fun _ => fun
  | [d1, d2] => { results := [.lit (.bool false)], args := [d1, d2] }
  | _ => none }
def SetupFormsWrongFalsely : Prop := setupFormsRow.holds Try.pinned (OpenSpec.ofChange setupFormsWrong)

/-- 'skifflaw13.SetupBack': WHATEVER THE INPUT: true; the input reads as it did. -/
def setupBackSpec : ChangeSpec := { name := "setupBack", fn := fun _ => fun
  | [d1, d2, d3, d4] => { results := [.lit (.bool true)], args := [d1, d2, d3, d4] }
  | _ => none }
def setupBackRow : OpenClaim := { program := "ytfnfnldndmkeeaa", sum := "8e1f852ecd7bff7327ba802902544e77cf4fd372163acfb067cd075a713a764a", func := "skiff/skifflaw13.SetupBack", spec := "setupBack", apart := false }
def SetupBackSaid : Prop := setupBackRow.holds Try.pinned (OpenSpec.ofChange setupBackSpec)

/-- ITS FALSE NEIGHBOUR: 'it returns false'. Refute it at one input. -/
def setupBackWrong : ChangeSpec := { name := "setupBack", fn := fun _ => fun
  | [d1, d2, d3, d4] => { results := [.lit (.bool false)], args := [d1, d2, d3, d4] }
  | _ => none }
def SetupBackWrongFalsely : Prop := setupBackRow.holds Try.pinned (OpenSpec.ofChange setupBackWrong)

/-- 'skifflaw13.SetupWays': WHATEVER THE INPUT: true; the input reads as it did. -/
def setupWaysSpec : ChangeSpec := { name := "setupWays", fn := fun _ => fun
  | [d1, d2] => { results := [.lit (.bool true)], args := [d1, d2] }
  | _ => none }
def setupWaysRow : OpenClaim := { program := "ytfnfnldndmkeeaa", sum := "8e1f852ecd7bff7327ba802902544e77cf4fd372163acfb067cd075a713a764a", func := "skiff/skifflaw13.SetupWays", spec := "setupWays", apart := false }
def SetupWaysSaid : Prop := setupWaysRow.holds Try.pinned (OpenSpec.ofChange setupWaysSpec)

/-- ITS FALSE NEIGHBOUR: 'it returns false'. Refute it at one input. -/
def setupWaysWrong : ChangeSpec := { name := "setupWays", fn := fun _ => fun
  | [d1, d2] => { results := [.lit (.bool false)], args := [d1, d2] }
  | _ => none }
def SetupWaysWrongFalsely : Prop := setupWaysRow.holds Try.pinned (OpenSpec.ofChange setupWaysWrong)

/-- 'skifflaw10.Blocks': WHATEVER THE INPUT: true; the input reads as it did. -/
def blocksSpec : ChangeSpec := { name := "blocks", fn := fun _ => fun
  | [d1, d2] => { results := [.lit (.bool true)], args := [d1, d2] }
  | _ => none }
def blocksRow : OpenClaim := { program := "ytfnfnldndmkeeaa", sum := "8e1f852ecd7bff7327ba802902544e77cf4fd372163acfb067cd075a713a764a", func := "skiff/skifflaw10.Blocks", spec := "blocks", inPlace := ["internal/abi.NoEscape", "internal/bytealg.MakeNoZero"], unfollowed := true, recurses := true, apart := false }
def BlocksSaid : Prop := blocksRow.holds Try.pinned (OpenSpec.ofChange blocksSpec)

/-- ITS FALSE NEIGHBOUR: 'it returns false'. Refute it at one input. -/
def blocksWrong : ChangeSpec := { name := "blocks", fn := fun _ => fun
  | [d1, d2] => { results := [.lit (.bool false)], args := [d1, d2] }
  | _ => none }
def BlocksWrongFalsely : Prop := blocksRow.holds Try.pinned (OpenSpec.ofChange blocksWrong)

/-- 'skifflaw10.BlockForms': WHATEVER THE INPUT: true; the input reads as it did. -/
def blockFormsSpec : ChangeSpec := { name := "blockForms", fn := fun _ => fun
  | [d1, d2] => { results := [.lit (.bool true)], args := [d1, d2] }
  | _ => none }
def blockFormsRow : OpenClaim := { program := "ytfnfnldndmkeeaa", sum := "8e1f852ecd7bff7327ba802902544e77cf4fd372163acfb067cd075a713a764a", func := "skiff/skifflaw10.BlockForms", spec := "blockForms", inPlace := ["internal/abi.NoEscape", "internal/bytealg.MakeNoZero"], unfollowed := true, recurses := true, apart := false }
def BlockFormsSaid : Prop := blockFormsRow.holds Try.pinned (OpenSpec.ofChange blockFormsSpec)

/-- ITS FALSE NEIGHBOUR: 'it returns false'. Refute it at one input. -/
def blockFormsWrong : ChangeSpec := { name := "blockForms", fn := fun _ => fun
  | [d1, d2] => { results := [.lit (.bool false)], args := [d1, d2] }
  | _ => none }
def BlockFormsWrongFalsely : Prop := blockFormsRow.holds Try.pinned (OpenSpec.ofChange blockFormsWrong)

/-- 'skifflaw10.BlockMany': WHATEVER THE INPUT: true; the input reads as it did. -/
def blockManySpec : ChangeSpec := { name := "blockMany", fn := fun _ => fun
  | [d] => { results := [.lit (.bool true)], args := [d] }
  | _ => none }
def blockManyRow : OpenClaim := { program := "ytfnfnldndmkeeaa", sum := "8e1f852ecd7bff7327ba802902544e77cf4fd372163acfb067cd075a713a764a", func := "skiff/skifflaw10.BlockMany", spec := "blockMany", inPlace := ["internal/abi.NoEscape", "internal/bytealg.MakeNoZero"], unfollowed := true, recurses := true, apart := false }
def BlockManySaid : Prop := blockManyRow.holds Try.pinned (OpenSpec.ofChange blockManySpec)

/-- ITS FALSE NEIGHBOUR: 'it returns false'. Refute it at one input. -/
def blockManyWrong : ChangeSpec := { name := "blockMany", fn := fun _ => fun
  | [d] => { results := [.lit (.bool false)], args := [d] }
  | _ => none }
def BlockManyWrongFalsely : Prop := blockManyRow.holds Try.pinned (OpenSpec.ofChange blockManyWrong)

/-- 'skifflaw10.BlockPlaces': WHATEVER THE INPUT: true; the input reads as it did. -/
def blockPlacesSpec : ChangeSpec := { name := "blockPlaces", fn := fun _ => fun
  | [d1, d2] => { results := [.lit (.bool true)], args := [d1, d2] }
  | _ => none }
def blockPlacesRow : OpenClaim := { program := "ytfnfnldndmkeeaa", sum := "8e1f852ecd7bff7327ba802902544e77cf4fd372163acfb067cd075a713a764a", func := "skiff/skifflaw10.BlockPlaces", spec := "blockPlaces", inPlace := ["internal/abi.NoEscape", "internal/bytealg.MakeNoZero"], unfollowed := true, recurses := true, apart := false }
def BlockPlacesSaid : Prop := blockPlacesRow.holds Try.pinned (OpenSpec.ofChange blockPlacesSpec)

/-- ITS FALSE NEIGHBOUR: 'it returns false'. Refute it at one input. -/
def blockPlacesWrong : ChangeSpec := { name := "blockPlaces", fn := fun _ => fun
  | [d1, d2] => { results := [.lit (.bool false)], args := [d1, d2] }
  | _ => none }
def BlockPlacesWrongFalsely : Prop := blockPlacesRow.holds Try.pinned (OpenSpec.ofChange blockPlacesWrong)

/- THE SECOND FORM. 'bulk': how many values and letters a reading holds, each counted each time it is reached (what is shared counts as often as it is met; a slice's spare places count too). A statement '..UptoSaid' is the law's where the arguments, and the package variables that the reading takes, are together of bulk at most 1048576: NARROWER than '..Said'. Prove '..Said' where nothing that the law and all that it calls make is longer than what came in: it says more and counts as full. Else prove '..UptoSaid'. A law counts once. -/
mutual
def uptoBulk {H : Type} : DataW H → Nat
  | .lit (.string bytes) => bytes.length + 1
  | .lit _ => 1
  | .nil => 1
  | .ptr d => uptoBulk d + 1
  | .slice elems spare => uptoBulkAll elems + uptoBulkAll spare + 1
  | .agg parts => uptoBulkAll parts + 1
  | .iface _ d => uptoBulk d + 1
  | .map entries => uptoBulkEntries entries + 1
  | .held _ => 1
def uptoBulkAll {H : Type} : List (DataW H) → Nat
  | [] => 0
  | d :: r => uptoBulk d + uptoBulkAll r
def uptoBulkEntries {H : Type} : List (Lit × DataW H) → Nat
  | [] => 0
  | x :: r => uptoBulkEntry x + uptoBulkEntries r
def uptoBulkEntry {H : Type} : Lit × DataW H → Nat
  | (.string bytes, d) => bytes.length + uptoBulk d + 1
  | (_, d) => uptoBulk d + 1
 end
def uptoSmall : (H : Type) → List (DataW H) → Bool := fun _ ds => decide (uptoBulkAll ds ≤ 1048576)
def OpenSpec.upto (s : _root_.Go.ChangeSpec) : _root_.Go.OpenSpec := { _root_.Go.OpenSpec.ofChange s with cond := some uptoSmall }

/-- 'skifflaw16.Devices', WHERE WHAT IT READS IS OF BULK AT MOST 1048576: true; the input reads as it did. -/
def devicesUptoRow : OpenClaim := { program := "ytfnfnldndmkeeaa", sum := "8e1f852ecd7bff7327ba802902544e77cf4fd372163acfb067cd075a713a764a", func := "skiff/skifflaw16.Devices", spec := "devices", unfollowed := true, recurses := true, apart := false, narrowed := true }
def DevicesUptoSaid : Prop := devicesUptoRow.holds Try.pinned (OpenSpec.upto devicesSpec)

/-- 'skifflaw16.DeviceForms', WHERE WHAT IT READS IS OF BULK AT MOST 1048576: true; the input reads as it did. -/
def deviceFormsUptoRow : OpenClaim := { program := "ytfnfnldndmkeeaa", sum := "8e1f852ecd7bff7327ba802902544e77cf4fd372163acfb067cd075a713a764a", func := "skiff/skifflaw16.DeviceForms", spec := "deviceForms", unfollowed := true, recurses := true, apart := false, narrowed := true }
def DeviceFormsUptoSaid : Prop := deviceFormsUptoRow.holds Try.pinned (OpenSpec.upto deviceFormsSpec)

/-- 'skifflaw16.DeviceFails', WHERE WHAT IT READS IS OF BULK AT MOST 1048576: true; the input reads as it did. -/
def deviceFailsUptoRow : OpenClaim := { program := "ytfnfnldndmkeeaa", sum := "8e1f852ecd7bff7327ba802902544e77cf4fd372163acfb067cd075a713a764a", func := "skiff/skifflaw16.DeviceFails", spec := "deviceFails", unfollowed := true, recurses := true, apart := false, narrowed := true }
def DeviceFailsUptoSaid : Prop := deviceFailsUptoRow.holds Try.pinned (OpenSpec.upto deviceFailsSpec)

/-- 'skifflaw16.DeviceNew', WHERE WHAT IT READS IS OF BULK AT MOST 1048576: true; the input reads as it did. -/
def deviceNewUptoRow : OpenClaim := { program := "ytfnfnldndmkeeaa", sum := "8e1f852ecd7bff7327ba802902544e77cf4fd372163acfb067cd075a713a764a", func := "skiff/skifflaw16.DeviceNew", spec := "deviceNew", unfollowed := true, recurses := true, apart := false, narrowed := true }
def DeviceNewUptoSaid : Prop := deviceNewUptoRow.holds Try.pinned (OpenSpec.upto deviceNewSpec)

/-- 'skifflaw13.Setups', WHERE WHAT IT READS IS OF BULK AT MOST 1048576: true; the input reads as it did. -/
def setupsUptoRow : OpenClaim := { program := "ytfnfnldndmkeeaa", sum := "8e1f852ecd7bff7327ba802902544e77cf4fd372163acfb067cd075a713a764a", func := "skiff/skifflaw13.Setups", spec := "setups", apart := false, narrowed := true }
def SetupsUptoSaid : Prop := setupsUptoRow.holds Try.pinned (OpenSpec.upto setupsSpec)

/-- 'skifflaw13.SetupForms', WHERE WHAT IT READS IS OF BULK AT MOST 1048576: true; the input reads as it did. -/
def setupFormsUptoRow : OpenClaim := { program := "ytfnfnldndmkeeaa", sum := "8e1f852ecd7bff7327ba802902544e77cf4fd372163acfb067cd075a713a764a", func := "skiff/skifflaw13.SetupForms", spec := "setupForms", apart := false, narrowed := true }
def SetupFormsUptoSaid : Prop := setupFormsUptoRow.holds Try.pinned (OpenSpec.upto setupFormsSpec)

/-- 'skifflaw13.SetupBack', WHERE WHAT IT READS IS OF BULK AT MOST 1048576: true; the input reads as it did. -/
def setupBackUptoRow : OpenClaim := { program := "ytfnfnldndmkeeaa", sum := "8e1f852ecd7bff7327ba802902544e77cf4fd372163acfb067cd075a713a764a", func := "skiff/skifflaw13.SetupBack", spec := "setupBack", apart := false, narrowed := true }
def SetupBackUptoSaid : Prop := setupBackUptoRow.holds Try.pinned (OpenSpec.upto setupBackSpec)

/-- 'skifflaw13.SetupWays', WHERE WHAT IT READS IS OF BULK AT MOST 1048576: true; the input reads as it did. -/
def setupWaysUptoRow : OpenClaim := { program := "ytfnfnldndmkeeaa", sum := "8e1f852ecd7bff7327ba802902544e77cf4fd372163acfb067cd075a713a764a", func := "skiff/skifflaw13.SetupWays", spec := "setupWays", apart := false, narrowed := true }
def SetupWaysUptoSaid : Prop := setupWaysUptoRow.holds Try.pinned (OpenSpec.upto setupWaysSpec)

/-- 'skifflaw10.Blocks', WHERE WHAT IT READS IS OF BULK AT MOST 1048576: true; the input reads as it did. -/
def blocksUptoRow : OpenClaim := { program := "ytfnfnldndmkeeaa", sum := "8e1f852ecd7bff7327ba802902544e77cf4fd372163acfb067cd075a713a764a", func := "skiff/skifflaw10.Blocks", spec := "blocks", inPlace := ["internal/abi.NoEscape", "internal/bytealg.MakeNoZero"], unfollowed := true, recurses := true, apart := false, narrowed := true }
def BlocksUptoSaid : Prop := blocksUptoRow.holds Try.pinned (OpenSpec.upto blocksSpec)

/-- 'skifflaw10.BlockForms', WHERE WHAT IT READS IS OF BULK AT MOST 1048576: true; the input reads as it did. -/
def blockFormsUptoRow : OpenClaim := { program := "ytfnfnldndmkeeaa", sum := "8e1f852ecd7bff7327ba802902544e77cf4fd372163acfb067cd075a713a764a", func := "skiff/skifflaw10.BlockForms", spec := "blockForms", inPlace := ["internal/abi.NoEscape", "internal/bytealg.MakeNoZero"], unfollowed := true, recurses := true, apart := false, narrowed := true }
def BlockFormsUptoSaid : Prop := blockFormsUptoRow.holds Try.pinned (OpenSpec.upto blockFormsSpec)

/-- 'skifflaw10.BlockMany', WHERE WHAT IT READS IS OF BULK AT MOST 1048576: true; the input reads as it did. -/
def blockManyUptoRow : OpenClaim := { program := "ytfnfnldndmkeeaa", sum := "8e1f852ecd7bff7327ba802902544e77cf4fd372163acfb067cd075a713a764a", func := "skiff/skifflaw10.BlockMany", spec := "blockMany", inPlace := ["internal/abi.NoEscape", "internal/bytealg.MakeNoZero"], unfollowed := true, recurses := true, apart := false, narrowed := true }
def BlockManyUptoSaid : Prop := blockManyUptoRow.holds Try.pinned (OpenSpec.upto blockManySpec)

/-- 'skifflaw10.BlockPlaces', WHERE WHAT IT READS IS OF BULK AT MOST 1048576: true; the input reads as it did. -/
def blockPlacesUptoRow : OpenClaim := { program := "ytfnfnldndmkeeaa", sum := "8e1f852ecd7bff7327ba802902544e77cf4fd372163acfb067cd075a713a764a", func := "skiff/skifflaw10.BlockPlaces", spec := "blockPlaces", inPlace := ["internal/abi.NoEscape", "internal/bytealg.MakeNoZero"], unfollowed := true, recurses := true, apart := false, narrowed := true }
def BlockPlacesUptoSaid : Prop := blockPlacesUptoRow.holds Try.pinned (OpenSpec.upto blockPlacesSpec)

end Rows
end Go.Proofs.Ytfnfnldndmkeeaa

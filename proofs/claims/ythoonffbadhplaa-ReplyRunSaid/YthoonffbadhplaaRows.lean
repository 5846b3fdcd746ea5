/-
  No cell of these rows narrows 'for every input' (looked for: loops, veiled, ifaces, maps, wideKeys, modest, calm, conditions, laid).
  DERIVED. THE GIVEN ROWS OF THIS SEAT. 7 by the template 'for every input the law returns true; each argument reads behind the call as it read before'; 0 by the template 'total and deterministic' (their statements: YthoonffbadhplaaTotals.lean).
  GIVEN WITH THE SEED: the statements are not yours to turn. If you find one false, say at which input.
  Laid BY PROGRAM, IN A SANDBOX (cutbox-rows.mjs): the forced cells as the released guide's own fill.sh prints them over the translation 5936a157c03a9e92… (all of the seat's roots in one cut). By AI agents, Wed Nov 11 2026. No macro, syntax, notation, axiom, sorry.
-/
import Derived.Test.YthoonffbadhplaaChecked
import GoSem.Claim
import GoSem.ClaimJoined
import GoSem.ClaimMapViews
import Derived.JoinedTies
import Derived.KernelRfl
namespace Go.Proofs.Ythoonffbadhplaa
/- THE CELL 'sum', in the pinned program and in every row, IS THE sha256 OF THE DUMP (.gsa) THAT YthoonffbadhplaaProg.lean LOADS. Nothing in Lean hashes anything: it is a label: what it is worth is what the hold of that sum in a sandbox is worth. -/
noncomputable def Try.pinned : Pinned := { name := "ythoonffbadhplaa", sum := "5936a157c03a9e92f08d03b01aea923e6a9fa9eb4b73521e88ee2cb1bea20eb4", checked := Try.checked }
namespace Rows
def none {H : Type} : Left H := { results := [], args := [] }

/-- 'skifflaw23.Replies': WHATEVER THE INPUT: true; the input reads as it did. -/
def repliesSpec : ChangeSpec := { name := "replies", fn := fun _ => fun
  | [d1, d2] => { results := [.lit (.bool true)], args := [d1, d2] }
  | _ => none }
def repliesRow : OpenClaim := { program := "ythoonffbadhplaa", sum := "5936a157c03a9e92f08d03b01aea923e6a9fa9eb4b73521e88ee2cb1bea20eb4", func := "skiff/skifflaw23.Replies", spec := "replies", unfollowed := true, recurses := true, apart := false }
def RepliesSaid : Prop := repliesRow.holds Try.pinned (OpenSpec.ofChange repliesSpec)

/-- ITS FALSE NEIGHBOUR: 'it returns false'. Refute it at one input. -/
def repliesWrong : ChangeSpec := { name := "replies", fn := fun _ => fun
  | [d1, d2] => { results := [.lit (.bool false)], args := [d1, d2] }
  | _ => none }
def RepliesWrongFalsely : Prop := repliesRow.holds Try.pinned (OpenSpec.ofChange repliesWrong)

/-- 'skifflaw23.ReplyForms': WHATEVER THE INPUT: true; the input reads as it did. -/
def replyFormsSpec : ChangeSpec := { name := "replyForms", fn := fun _ => fun
  | [d1, d2] => { results := [.lit (.bool true)], args := [d1, d2] }
  | _ => none }
def replyFormsRow : OpenClaim := { program := "ythoonffbadhplaa", sum := "5936a157c03a9e92f08d03b01aea923e6a9fa9eb4b73521e88ee2cb1bea20eb4", func := "skiff/skifflaw23.ReplyForms", spec := "replyForms", unfollowed := true, recurses := true, apart := false }
def ReplyFormsSaid : Prop := replyFormsRow.holds Try.pinned (OpenSpec.ofChange replyFormsSpec)

/-- ITS FALSE NEIGHBOUR: 'it returns false'. Refute it at one input. -/
def replyFormsWrong : ChangeSpec := { name := "replyForms", fn := fun _ => fun
  | [d1, d2] => { results := [.lit (.bool false)], args := [d1, d2] }
  | _ => none }
def ReplyFormsWrongFalsely : Prop := replyFormsRow.holds Try.pinned (OpenSpec.ofChange replyFormsWrong)

/-- 'skifflaw23.ReplyTries': WHATEVER THE INPUT: true; the input reads as it did. -/
def replyTriesSpec : ChangeSpec := { name := "replyTries", fn := fun _ => fun
  | [d1, d2] => { results := [.lit (.bool true)], args := [d1, d2] }
  | _ => none }
def replyTriesRow : OpenClaim := { program := "ythoonffbadhplaa", sum := "5936a157c03a9e92f08d03b01aea923e6a9fa9eb4b73521e88ee2cb1bea20eb4", func := "skiff/skifflaw23.ReplyTries", spec := "replyTries", unfollowed := true, recurses := true, apart := false }
def ReplyTriesSaid : Prop := replyTriesRow.holds Try.pinned (OpenSpec.ofChange replyTriesSpec)

/-- ITS FALSE NEIGHBOUR: 'it returns false'. Refute it at one input. -/
def replyTriesWrong : ChangeSpec := { name := "replyTries", fn := fun _ => fun
  | [d1, d2] => { results := [.lit (.bool false)], args := [d1, d2] }
  | _ => none }
def ReplyTriesWrongFalsely : Prop := replyTriesRow.holds Try.pinned (OpenSpec.ofChange replyTriesWrong)

/-- 'skifflaw23.ReplyGood': WHATEVER THE INPUT: true; the input reads as it did. -/
def replyGoodSpec : ChangeSpec := { name := "replyGood", fn := fun _ => fun
  | [d1, d2] => { results := [.lit (.bool true)], args := [d1, d2] }
  | _ => none }
def replyGoodRow : OpenClaim := { program := "ythoonffbadhplaa", sum := "5936a157c03a9e92f08d03b01aea923e6a9fa9eb4b73521e88ee2cb1bea20eb4", func := "skiff/skifflaw23.ReplyGood", spec := "replyGood", unfollowed := true, recurses := true, apart := false }
def ReplyGoodSaid : Prop := replyGoodRow.holds Try.pinned (OpenSpec.ofChange replyGoodSpec)

/-- ITS FALSE NEIGHBOUR: 'it returns false'. Refute it at one input. -/
def replyGoodWrong : ChangeSpec := { name := "replyGood", fn := fun _ => fun
  | [d1, d2] => { results := [.lit (.bool false)], args := [d1, d2] }
  | _ => none }
def ReplyGoodWrongFalsely : Prop := replyGoodRow.holds Try.pinned (OpenSpec.ofChange replyGoodWrong)

/-- 'skifflaw23.ReplyPoll': WHATEVER THE INPUT: true; the input reads as it did. -/
def replyPollSpec : ChangeSpec := { name := "replyPoll", fn := fun _ => fun
  | [d1, d2, d3, d4] => { results := [.lit (.bool true)], args := [d1, d2, d3, d4] }
  | _ => none }
def replyPollRow : OpenClaim := { program := "ythoonffbadhplaa", sum := "5936a157c03a9e92f08d03b01aea923e6a9fa9eb4b73521e88ee2cb1bea20eb4", func := "skiff/skifflaw23.ReplyPoll", spec := "replyPoll", unfollowed := true, recurses := true, apart := false }
def ReplyPollSaid : Prop := replyPollRow.holds Try.pinned (OpenSpec.ofChange replyPollSpec)

/-- ITS FALSE NEIGHBOUR: 'it returns false'. Refute it at one input. -/
def replyPollWrong : ChangeSpec := { name := "replyPoll", fn := fun _ => fun
  | [d1, d2, d3, d4] => { results := [.lit (.bool false)], args := [d1, d2, d3, d4] }
  | _ => none }
def ReplyPollWrongFalsely : Prop := replyPollRow.holds Try.pinned (OpenSpec.ofChange replyPollWrong)

/-- 'skifflaw23.ReplyRun': WHATEVER THE INPUT: true; the input reads as it did. -/
def replyRunSpec : ChangeSpec := { name := "replyRun", fn := fun _ => fun
  | [d] => { results := [.lit (.bool true)], args := [d] }
  | _ => none }
def replyRunRow : OpenClaim := { program := "ythoonffbadhplaa", sum := "5936a157c03a9e92f08d03b01aea923e6a9fa9eb4b73521e88ee2cb1bea20eb4", func := "skiff/skifflaw23.ReplyRun", spec := "replyRun", unfollowed := true, recurses := true, apart := false }
def ReplyRunSaid : Prop := replyRunRow.holds Try.pinned (OpenSpec.ofChange replyRunSpec)

/-- ITS FALSE NEIGHBOUR: 'it returns false'. Refute it at one input. -/
def replyRunWrong : ChangeSpec := { name := "replyRun", fn := fun _ => fun
  | [d] => { results := [.lit (.bool false)], args := [d] }
  | _ => none }
def ReplyRunWrongFalsely : Prop := replyRunRow.holds Try.pinned (OpenSpec.ofChange replyRunWrong)

/-- 'skifflaw23.ReplyLost': WHATEVER THE INPUT: true; the input reads as it did. -/
def replyLostSpec : ChangeSpec := { name := "replyLost", fn := fun _ => fun
  | [d1, d2, d3] => { results := [.lit (.bool true)], args := [d1, d2, d3] }
  | _ => none }
def replyLostRow : OpenClaim := { program := "ythoonffbadhplaa", sum := "5936a157c03a9e92f08d03b01aea923e6a9fa9eb4b73521e88ee2cb1bea20eb4", func := "skiff/skifflaw23.ReplyLost", spec := "replyLost", unfollowed := true, recurses := true, apart := false }
def ReplyLostSaid : Prop := replyLostRow.holds Try.pinned (OpenSpec.ofChange replyLostSpec)

/-- ITS FALSE NEIGHBOUR: 'it returns false'. Refute it at one input. -/
def replyLostWrong : ChangeSpec := { name := "replyLost", fn := fun _ => fun
  | [d1, d2, d3] => { results := [.lit (.bool false)], args := [d1, d2, d3] }
  | _ => none }
def ReplyLostWrongFalsely : Prop := replyLostRow.holds Try.pinned (OpenSpec.ofChange replyLostWrong)

/- THE SECOND FORM. 'bulk': how many values and letters a reading holds, each counted each time it is reached (what is shared counts as often as it is met; a slice's spare places count too). A statement '..UptoSaid' is the law's where the arguments, and the package variables that the reading takes, are together of bulk at most 1048576: NARROWER than '..Said'. Prove '..Said' where nothing that the law and all that it calls make is longer than what came in: it says more and counts as full. Else prove '..UptoSaid'. A law counts once. -/
mutual
def uptoBulk {H : Type} : DataW H → Nat
  | .lit (.string bytes) => bytes.length + 1
  | .lit _ => 1
  | .nil => 1
  | .ptr d => uptoBulk d + 1
  | .slice elems spare => uptoBulkAll elems + uptoBulkAll spare + 1
  | .agg parts => uptoBulkAll parts + 1
  | .iface _ d => uptoBulk d + 1
  | .map entries => uptoBulkEntries entries + 1
  | .held _ => 1
def uptoBulkAll {H : Type} : List (DataW H) → Nat
  | [] => 0
  | d :: r => uptoBulk d + uptoBulkAll r
def uptoBulkEntries {H : Type} : List (Lit × DataW H) → Nat
  | [] => 0
  | x :: r => uptoBulkEntry x + uptoBulkEntries r
def uptoBulkEntry {H : Type} : Lit × DataW H → Nat
  | (.string bytes, d) => bytes.length + uptoBulk d + 1
  | (_, d) => uptoBulk d + 1
 end
def uptoSmall : (H : Type) → List (DataW H) → Bool := fun _ ds => decide (uptoBulkAll ds ≤ 1048576)
def OpenSpec.upto (s : _root_.Go.ChangeSpec) : _root_.Go.OpenSpec := { _root_.Go.OpenSpec.ofChange s with cond := some uptoSmall }

/-- 'skifflaw23.Replies', WHERE WHAT IT READS IS OF BULK AT MOST 1048576: true; the input reads as it did. -/
def repliesUptoRow : OpenClaim := { program := "ythoonffbadhplaa", sum := "5936a157c03a9e92f08d03b01aea923e6a9fa9eb4b73521e88ee2cb1bea20eb4", func := "skiff/skifflaw23.Replies", spec := "replies", unfollowed := true, recurses := true, apart := false, narrowed := true }
def RepliesUptoSaid : Prop := repliesUptoRow.holds Try.pinned (OpenSpec.upto repliesSpec)

/-- 'skifflaw23.ReplyForms', WHERE WHAT IT READS IS OF BULK AT MOST 1048576: true; the input reads as it did. -/
def replyFormsUptoRow : OpenClaim := { program := "ythoonffbadhplaa", sum := "5936a157c03a9e92f08d03b01aea923e6a9fa9eb4b73521e88ee2cb1bea20eb4", func := "skiff/skifflaw23.ReplyForms", spec := "replyForms", unfollowed := true, recurses := true, apart := false, narrowed := true }
def ReplyFormsUptoSaid : Prop := replyFormsUptoRow.holds Try.pinned (OpenSpec.upto replyFormsSpec)

/-- 'skifflaw23.ReplyTries', WHERE WHAT IT READS IS OF BULK AT MOST 1048576: true; the input reads as it did. -/
def replyTriesUptoRow : OpenClaim := { program := "ythoonffbadhplaa", sum := "5936a157c03a9e92f08d03b01aea923e6a9fa9eb4b73521e88ee2cb1bea20eb4", func := "skiff/skifflaw23.ReplyTries", spec := "replyTries", unfollowed := true, recurses := true, apart := false, narrowed := true }
def ReplyTriesUptoSaid : Prop := replyTriesUptoRow.holds Try.pinned (OpenSpec.upto replyTriesSpec)

/-- 'skifflaw23.ReplyGood', WHERE WHAT IT READS IS OF BULK AT MOST 1048576: true; the input reads as it did. -/
def replyGoodUptoRow : OpenClaim := { program := "ythoonffbadhplaa", sum := "5936a157c03a9e92f08d03b01aea923e6a9fa9eb4b73521e88ee2cb1bea20eb4", func := "skiff/skifflaw23.ReplyGood", spec := "replyGood", unfollowed := true, recurses := true, apart := false, narrowed := true }
def ReplyGoodUptoSaid : Prop := replyGoodUptoRow.holds Try.pinned (OpenSpec.upto replyGoodSpec)

/-- 'skifflaw23.ReplyPoll', WHERE WHAT IT READS IS OF BULK AT MOST 1048576: true; the input reads as it did. -/
def replyPollUptoRow : OpenClaim := { program := "ythoonffbadhplaa", sum := "5936a157c03a9e92f08d03b01aea923e6a9fa9eb4b73521e88ee2cb1bea20eb4", func := "skiff/skifflaw23.ReplyPoll", spec := "replyPoll", unfollowed := true, recurses := true, apart := false, narrowed := true }
def ReplyPollUptoSaid : Prop := replyPollUptoRow.holds Try.pinned (OpenSpec.upto replyPollSpec)

/-- 'skifflaw23.ReplyRun', WHERE WHAT IT READS IS OF BULK AT MOST 1048576: true; the input reads as it did. -/
def replyRunUptoRow : OpenClaim := { program := "ythoonffbadhplaa", sum := "5936a157c03a9e92f08d03b01aea923e6a9fa9eb4b73521e88ee2cb1bea20eb4", func := "skiff/skifflaw23.ReplyRun", spec := "replyRun", unfollowed := true, recurses := true, apart := false, narrowed := true }
def ReplyRunUptoSaid : Prop := replyRunUptoRow.holds Try.pinned (OpenSpec.upto replyRunSpec)

/-- 'skifflaw23.ReplyLost', WHERE WHAT IT READS IS OF BULK AT MOST 1048576: true; the input reads as it did. -/
def replyLostUptoRow : OpenClaim := { program := "ythoonffbadhplaa", sum := "5936a157c03a9e92f08d03b01aea923e6a9fa9eb4b73521e88ee2cb1bea20eb4", func := "skiff/skifflaw23.ReplyLost", spec := "replyLost", unfollowed := true, recurses := true, apart := false, narrowed := true }
def ReplyLostUptoSaid : Prop := replyLostUptoRow.holds Try.pinned (OpenSpec.upto replyLostSpec)

end Rows
end Go.Proofs.Ythoonffbadhplaa

/-
  No cell of these rows narrows 'for every input' (looked for: loops, veiled, ifaces, maps, wideKeys, modest, calm, conditions, laid).
  DERIVED. THE GIVEN ROWS OF THIS SEAT. 12 by the template 'for every input the law returns true; each argument reads behind the call as it read before'; 0 by the template 'total and deterministic' (their statements: YtnbbbpeelplfoaaTotals.lean).
  GIVEN WITH THE SEED: the statements are not yours to turn. If you find one false, say at which input.
  Laid BY PROGRAM, IN A SANDBOX (cutbox-rows.mjs): the forced cells as the released guide's own fill.sh prints them over the translation 237f6f2c0e40cd5d… (all of the seat's roots in one cut). By AI agents, Wed Nov 11 2026. No macro, syntax, notation, axiom, sorry.
-/
import Derived.Test.YtnbbbpeelplfoaaChecked
import GoSem.Claim
import GoSem.ClaimJoined
import GoSem.ClaimMapViews
import Derived.JoinedTies
import Derived.KernelRfl
namespace Go.Proofs.Ytnbbbpeelplfoaa
/- THE CELL 'sum', in the pinned program and in every row, IS THE sha256 OF THE DUMP (.gsa) THAT YtnbbbpeelplfoaaProg.lean LOADS. Nothing in Lean hashes anything: it is a label: what it is worth is what the hold of that sum in a sandbox is worth. -/
noncomputable def Try.pinned : Pinned := { name := "ytnbbbpeelplfoaa", sum := "237f6f2c0e40cd5d2d119470a7b2bd6893189ed711432555864e458ec0a98970", checked := Try.checked }
namespace Rows
def none {H : Type} : Left H := { results := [], args := [] }

/-- 'skifflaw0.SkiffNames': WHATEVER THE INPUT: true; the input reads as it did. -/
def skiffNamesSpec : ChangeSpec := { name := "skiffNames", fn := fun _ => fun
  | [] => { results := [.lit (.bool true)], args := [] }
  | _ => none }
def skiffNamesRow : OpenClaim := { program := "ytnbbbpeelplfoaa", sum := "237f6f2c0e40cd5d2d119470a7b2bd6893189ed711432555864e458ec0a98970", func := "skiff/skifflaw0.SkiffNames", spec := "skiffNames", plainKeys := false, apart := false }
def SkiffNamesSaid : Prop := skiffNamesRow.holds Try.pinned (OpenSpec.ofChange skiffNamesSpec)

/-- ITS FALSE NEIGHBOUR: 'it returns false'. Refute it at one input. -/
def skiffNamesWrong : ChangeSpec := { name := "skiffNames", fn := fun _ => fun
  | [] => { results := [.lit (.bool false)], args := [] }
  | _ => none }
def SkiffNamesWrongFalsely : Prop := skiffNamesRow.holds Try.pinned (OpenSpec.ofChange skiffNamesWrong)

/-- 'skifflaw12.Idents': WHATEVER THE INPUT: true; the input reads as it did. -/
def identsSpec : ChangeSpec := { name := "idents", fn := fun _ => fun
  | [d1, d2] => { results := [.lit (.bool true)], args := [d1, d2] }
  | _ => none }
def identsRow : OpenClaim := { program := "ytnbbbpeelplfoaa", sum := "237f6f2c0e40cd5d2d119470a7b2bd6893189ed711432555864e458ec0a98970", func := "skiff/skifflaw12.Idents", spec := "idents", plainKeys := false, apart := false }
def IdentsSaid : Prop := identsRow.holds Try.pinned (OpenSpec.ofChange identsSpec)

/-- ITS FALSE NEIGHBOUR: 'it returns false'. Refute it at one input. -/
def identsWrong : ChangeSpec := { name := "idents", fn := fun _ => fun
  | [d1, d2] => { results := [.lit (.bool false)], args := [d1, d2] }
  | _ => none }
def IdentsWrongFalsely : Prop := identsRow.holds Try.pinned (OpenSpec.ofChange identsWrong)

/-- 'skifflaw12.IdentForms': WHATEVER THE INPUT: true; the input reads as it did. -/
def identFormsSpec : ChangeSpec := { name := "identForms", fn := fun _ => fun
  | [d1, d2] => { results := [.lit (.bool true)], args := [d1, d2] }
  | _ => none }
def identFormsRow : OpenClaim := { program := "ytnbbbpeelplfoaa", sum := "237f6f2c0e40cd5d2d119470a7b2bd6893189ed711432555864e458ec0a98970", func := "skiff/skifflaw12.IdentForms", spec := "identForms", plainKeys := false, apart := false }
def IdentFormsSaid : Prop := identFormsRow.holds Try.pinned (OpenSpec.ofChange identFormsSpec)

/-- ITS FALSE NEIGHBOUR: 'it returns false'. Refute it at one input. -/
def identFormsWrong : ChangeSpec := { name := "identForms", fn := fun _ => fun
  | [d1, d2] => { results := [.lit (.bool false)], args := [d1, d2] }
  | _ => none }
def IdentFormsWrongFalsely : Prop := identFormsRow.holds Try.pinned (OpenSpec.ofChange identFormsWrong)

/-- 'skifflaw12.IdentAny': WHATEVER THE INPUT: true; the input reads as it did. -/
def identAnySpec : ChangeSpec := { name := "identAny", fn := fun _ => fun
  | [d1, d2, d3, d4] => { results := [.lit (.bool true)], args := [d1, d2, d3, d4] }
  | _ => none }
def identAnyRow : OpenClaim := { program := "ytnbbbpeelplfoaa", sum := "237f6f2c0e40cd5d2d119470a7b2bd6893189ed711432555864e458ec0a98970", func := "skiff/skifflaw12.IdentAny", spec := "identAny", plainKeys := false, apart := false }
def IdentAnySaid : Prop := identAnyRow.holds Try.pinned (OpenSpec.ofChange identAnySpec)

/-- ITS FALSE NEIGHBOUR: 'it returns false'. Refute it at one input. -/
def identAnyWrong : ChangeSpec := { name := "identAny", fn := fun _ => fun
  | [d1, d2, d3, d4] => { results := [.lit (.bool false)], args := [d1, d2, d3, d4] }
  | _ => none }
def IdentAnyWrongFalsely : Prop := identAnyRow.holds Try.pinned (OpenSpec.ofChange identAnyWrong)

/-- 'skifflaw12.IdentSame': WHATEVER THE INPUT: true; the input reads as it did. -/
def identSameSpec : ChangeSpec := { name := "identSame", fn := fun _ => fun
  | [d1, d2] => { results := [.lit (.bool true)], args := [d1, d2] }
  | _ => none }
def identSameRow : OpenClaim := { program := "ytnbbbpeelplfoaa", sum := "237f6f2c0e40cd5d2d119470a7b2bd6893189ed711432555864e458ec0a98970", func := "skiff/skifflaw12.IdentSame", spec := "identSame", plainKeys := false, apart := false }
def IdentSameSaid : Prop := identSameRow.holds Try.pinned (OpenSpec.ofChange identSameSpec)

/-- ITS FALSE NEIGHBOUR: 'it returns false'. Refute it at one input. -/
def identSameWrong : ChangeSpec := { name := "identSame", fn := fun _ => fun
  | [d1, d2] => { results := [.lit (.bool false)], args := [d1, d2] }
  | _ => none }
def IdentSameWrongFalsely : Prop := identSameRow.holds Try.pinned (OpenSpec.ofChange identSameWrong)

/-- 'skifflaw15.Tables': WHATEVER THE INPUT: true; the input reads as it did. -/
def tablesSpec : ChangeSpec := { name := "tables", fn := fun _ => fun
  | [d1, d2] => { results := [.lit (.bool true)], args := [d1, d2] }
  | _ => none }
def tablesRow : OpenClaim := { program := "ytnbbbpeelplfoaa", sum := "237f6f2c0e40cd5d2d119470a7b2bd6893189ed711432555864e458ec0a98970", func := "skiff/skifflaw15.Tables", spec := "tables", plainKeys := false, apart := false }
def TablesSaid : Prop := tablesRow.holds Try.pinned (OpenSpec.ofChange tablesSpec)

/-- ITS FALSE NEIGHBOUR: 'it returns false'. Refute it at one input. -/
def tablesWrong : ChangeSpec := { name := "tables", fn := fun _ => fun
  | [d1, d2] => { results := [.lit (.bool false)], args := [d1, d2] }
  | _ => none }
def TablesWrongFalsely : Prop := tablesRow.holds Try.pinned (OpenSpec.ofChange tablesWrong)

/-- 'skifflaw15.TableAll': WHATEVER THE INPUT: true; the input reads as it did. -/
def tableAllSpec : ChangeSpec := { name := "tableAll", fn := fun _ => fun
  | [d1, d2, d3] => { results := [.lit (.bool true)], args := [d1, d2, d3] }
  | _ => none }
def tableAllRow : OpenClaim := { program := "ytnbbbpeelplfoaa", sum := "237f6f2c0e40cd5d2d119470a7b2bd6893189ed711432555864e458ec0a98970", func := "skiff/skifflaw15.TableAll", spec := "tableAll", plainKeys := false, apart := false }
def TableAllSaid : Prop := tableAllRow.holds Try.pinned (OpenSpec.ofChange tableAllSpec)

/-- ITS FALSE NEIGHBOUR: 'it returns false'. Refute it at one input. -/
def tableAllWrong : ChangeSpec := { name := "tableAll", fn := fun _ => fun
  | [d1, d2, d3] => { results := [.lit (.bool false)], args := [d1, d2, d3] }
  | _ => none }
def TableAllWrongFalsely : Prop := tableAllRow.holds Try.pinned (OpenSpec.ofChange tableAllWrong)

/-- 'skifflaw15.TableWays': WHATEVER THE INPUT: true; the input reads as it did. -/
def tableWaysSpec : ChangeSpec := { name := "tableWays", fn := fun _ => fun
  | [d] => { results := [.lit (.bool true)], args := [d] }
  | _ => none }
def tableWaysRow : OpenClaim := { program := "ytnbbbpeelplfoaa", sum := "237f6f2c0e40cd5d2d119470a7b2bd6893189ed711432555864e458ec0a98970", func := "skiff/skifflaw15.TableWays", spec := "tableWays", plainKeys := false, apart := false }
def TableWaysSaid : Prop := tableWaysRow.holds Try.pinned (OpenSpec.ofChange tableWaysSpec)

/-- ITS FALSE NEIGHBOUR: 'it returns false'. Refute it at one input. -/
def tableWaysWrong : ChangeSpec := { name := "tableWays", fn := fun _ => fun
  | [d] => { results := [.lit (.bool false)], args := [d] }
  | _ => none }
def TableWaysWrongFalsely : Prop := tableWaysRow.holds Try.pinned (OpenSpec.ofChange tableWaysWrong)

/-- 'skifflaw14.Answers': WHATEVER THE INPUT: true; the input reads as it did. -/
def answersSpec : ChangeSpec := { name := "answers", fn := fun _ => fun
  | [d1, d2, d3] => { results := [.lit (.bool true)], args := [d1, d2, d3] }
  | _ => none }
def answersRow : OpenClaim := { program := "ytnbbbpeelplfoaa", sum := "237f6f2c0e40cd5d2d119470a7b2bd6893189ed711432555864e458ec0a98970", func := "skiff/skifflaw14.Answers", spec := "answers", plainKeys := false, apart := false }
def AnswersSaid : Prop := answersRow.holds Try.pinned (OpenSpec.ofChange answersSpec)

/-- ITS FALSE NEIGHBOUR: 'it returns false'. Refute it at one input. -/
def answersWrong : ChangeSpec := { name := "answers", fn := fun _ => fun
  | [d1, d2, d3] => { results := [.lit (.bool false)], args := [d1, d2, d3] }
  | _ => none }
def AnswersWrongFalsely : Prop := answersRow.holds Try.pinned (OpenSpec.ofChange answersWrong)

/-- 'skifflaw14.AnswerForms': WHATEVER THE INPUT: true; the input reads as it did. -/
def answerFormsSpec : ChangeSpec := { name := "answerForms", fn := fun _ => fun
  | [d1, d2] => { results := [.lit (.bool true)], args := [d1, d2] }
  | _ => none }
def answerFormsRow : OpenClaim := { program := "ytnbbbpeelplfoaa", sum := "237f6f2c0e40cd5d2d119470a7b2bd6893189ed711432555864e458ec0a98970", func := "skiff/skifflaw14.AnswerForms", spec := "answerForms", plainKeys := false, apart := false }
def AnswerFormsSaid : Prop := answerFormsRow.holds Try.pinned (OpenSpec.ofChange answerFormsSpec)

/-- ITS FALSE NEIGHBOUR: 'it returns false'. Refute it at one input. -/
def answerFormsWrong : ChangeSpec := { name := "answerForms", fn := fun _ => fun
  | [d1, d2] => { results := [.lit (.bool false)], args := [d1, d2] }
  | _ => none }
def AnswerFormsWrongFalsely : Prop := answerFormsRow.holds Try.pinned (OpenSpec.ofChange answerFormsWrong)

/-- 'skifflaw14.AnswerBack': WHATEVER THE INPUT: true; the input reads as it did. -/
def answerBackSpec : ChangeSpec := { name := "answerBack", fn := fun _ => fun
  | [d1, d2, d3, d4] => { results := [.lit (.bool true)], args := [d1, d2, d3, d4] }
  | _ => none }
def answerBackRow : OpenClaim := { program := "ytnbbbpeelplfoaa", sum := "237f6f2c0e40cd5d2d119470a7b2bd6893189ed711432555864e458ec0a98970", func := "skiff/skifflaw14.AnswerBack", spec := "answerBack", plainKeys := false, apart := false }
def AnswerBackSaid : Prop := answerBackRow.holds Try.pinned (OpenSpec.ofChange answerBackSpec)

/-- ITS FALSE NEIGHBOUR: 'it returns false'. Refute it at one input. -/
def answerBackWrong : ChangeSpec := { name := "answerBack", fn := fun _ => fun
  | [d1, d2, d3, d4] => { results := [.lit (.bool false)], args := [d1, d2, d3, d4] }
  | _ => none }
def AnswerBackWrongFalsely : Prop := answerBackRow.holds Try.pinned (OpenSpec.ofChange answerBackWrong)

/-- 'skifflaw14.AnswerBytes': WHATEVER THE INPUT: true; the input reads as it did. -/
def answerBytesSpec : ChangeSpec := { name := "answerBytes", fn := fun _ => fun
  | [d1, d2, d3, d4, d5] => { results := [.lit (.bool true)], args := [d1, d2, d3, d4, d5] }
  | _ => none }
def answerBytesRow : OpenClaim := { program := "ytnbbbpeelplfoaa", sum := "237f6f2c0e40cd5d2d119470a7b2bd6893189ed711432555864e458ec0a98970", func := "skiff/skifflaw14.AnswerBytes", spec := "answerBytes", plainKeys := false, apart := false }
def AnswerBytesSaid : Prop := answerBytesRow.holds Try.pinned (OpenSpec.ofChange answerBytesSpec)

/-- ITS FALSE NEIGHBOUR: 'it returns false'. Refute it at one input. -/
def answerBytesWrong : ChangeSpec := { name := "answerBytes", fn := fun _ => fun
  | [d1, d2, d3, d4, d5] => { results := [.lit (.bool false)], args := [d1, d2, d3, d4, d5] }
  | _ => none }
def AnswerBytesWrongFalsely : Prop := answerBytesRow.holds Try.pinned (OpenSpec.ofChange answerBytesWrong)

/- THE SECOND FORM. 'bulk': how many values and letters a reading holds, each counted each time it is reached (what is shared counts as often as it is met; a slice's spare places count too). A statement '..UptoSaid' is the law's where the arguments, and the package variables that the reading takes, are together of bulk at most 1048576: NARROWER than '..Said'. Prove '..Said' where nothing that the law and all that it calls make is longer than what came in: it says more and counts as full. Else prove '..UptoSaid'. A law counts once. -/
mutual
def uptoBulk {H : Type} : DataW H → Nat
  | .lit (.string bytes) => bytes.length + 1
  | .lit _ => 1
  | .nil => 1
  | .ptr d => uptoBulk d + 1
  | .slice elems spare => uptoBulkAll elems + uptoBulkAll spare + 1
  | .agg parts => uptoBulkAll parts + 1
  | .iface _ d => uptoBulk d + 1
  | .map entries => uptoBulkEntries entries + 1
  | .held _ => 1
def uptoBulkAll {H : Type} : List (DataW H) → Nat
  | [] => 0
  | d :: r => uptoBulk d + uptoBulkAll r
def uptoBulkEntries {H : Type} : List (Lit × DataW H) → Nat
  | [] => 0
  | x :: r => uptoBulkEntry x + uptoBulkEntries r
def uptoBulkEntry {H : Type} : Lit × DataW H → Nat
  | (.string bytes, d) => bytes.length + uptoBulk d + 1
  | (_, d) => uptoBulk d + 1
 end
def uptoSmall : (H : Type) → List (DataW H) → Bool := fun _ ds => decide (uptoBulkAll ds ≤ 1048576)
def OpenSpec.upto (s : _root_.Go.ChangeSpec) : _root_.Go.OpenSpec := { _root_.Go.OpenSpec.ofChange s with cond := some uptoSmall }

/-- 'skifflaw0.SkiffNames', WHERE WHAT IT READS IS OF BULK AT MOST 1048576: true; the input reads as it did. -/
def skiffNamesUptoRow : OpenClaim := { program := "ytnbbbpeelplfoaa", sum := "237f6f2c0e40cd5d2d119470a7b2bd6893189ed711432555864e458ec0a98970", func := "skiff/skifflaw0.SkiffNames", spec := "skiffNames", plainKeys := false, apart := false, narrowed := true }
def SkiffNamesUptoSaid : Prop := skiffNamesUptoRow.holds Try.pinned (OpenSpec.upto skiffNamesSpec)

/-- 'skifflaw12.Idents', WHERE WHAT IT READS IS OF BULK AT MOST 1048576: true; the input reads as it did. -/
def identsUptoRow : OpenClaim := { program := "ytnbbbpeelplfoaa", sum := "237f6f2c0e40cd5d2d119470a7b2bd6893189ed711432555864e458ec0a98970", func := "skiff/skifflaw12.Idents", spec := "idents", plainKeys := false, apart := false, narrowed := true }
def IdentsUptoSaid : Prop := identsUptoRow.holds Try.pinned (OpenSpec.upto identsSpec)

/-- 'skifflaw12.IdentForms', WHERE WHAT IT READS IS OF BULK AT MOST 1048576: true; the input reads as it did. -/
def identFormsUptoRow : OpenClaim := { program := "ytnbbbpeelplfoaa", sum := "237f6f2c0e40cd5d2d119470a7b2bd6893189ed711432555864e458ec0a98970", func := "skiff/skifflaw12.IdentForms", spec := "identForms", plainKeys := false, apart := false, narrowed := true }
def IdentFormsUptoSaid : Prop := identFormsUptoRow.holds Try.pinned (OpenSpec.upto identFormsSpec)

/-- 'skifflaw12.IdentAny', WHERE WHAT IT READS IS OF BULK AT MOST 1048576: true; the input reads as it did. -/
def identAnyUptoRow : OpenClaim := { program := "ytnbbbpeelplfoaa", sum := "237f6f2c0e40cd5d2d119470a7b2bd6893189ed711432555864e458ec0a98970", func := "skiff/skifflaw12.IdentAny", spec := "identAny", plainKeys := false, apart := false, narrowed := true }
def IdentAnyUptoSaid : Prop := identAnyUptoRow.holds Try.pinned (OpenSpec.upto identAnySpec)

/-- 'skifflaw12.IdentSame', WHERE WHAT IT READS IS OF BULK AT MOST 1048576: true; the input reads as it did. -/
def identSameUptoRow : OpenClaim := { program := "ytnbbbpeelplfoaa", sum := "237f6f2c0e40cd5d2d119470a7b2bd6893189ed711432555864e458ec0a98970", func := "skiff/skifflaw12.IdentSame", spec := "identSame", plainKeys := false, apart := false, narrowed := true }
def IdentSameUptoSaid : Prop := identSameUptoRow.holds Try.pinned (OpenSpec.upto identSameSpec)

/-- 'skifflaw15.Tables', WHERE WHAT IT READS IS OF BULK AT MOST 1048576: true; the input reads as it did. -/
def tablesUptoRow : OpenClaim := { program := "ytnbbbpeelplfoaa", sum := "237f6f2c0e40cd5d2d119470a7b2bd6893189ed711432555864e458ec0a98970", func := "skiff/skifflaw15.Tables", spec := "tables", plainKeys := false, apart := false, narrowed := true }
def TablesUptoSaid : Prop := tablesUptoRow.holds Try.pinned (OpenSpec.upto tablesSpec)

/-- 'skifflaw15.TableAll', WHERE WHAT IT READS IS OF BULK AT MOST 1048576: true; the input reads as it did. -/
def tableAllUptoRow : OpenClaim := { program := "ytnbbbpeelplfoaa", sum := "237f6f2c0e40cd5d2d119470a7b2bd6893189ed711432555864e458ec0a98970", func := "skiff/skifflaw15.TableAll", spec := "tableAll", plainKeys := false, apart := false, narrowed := true }
def TableAllUptoSaid : Prop := tableAllUptoRow.holds Try.pinned (OpenSpec.upto tableAllSpec)

/-- 'skifflaw15.TableWays', WHERE WHAT IT READS IS OF BULK AT MOST 1048576: true; the input reads as it did. -/
def tableWaysUptoRow : OpenClaim := { program := "ytnbbbpeelplfoaa", sum := "237f6f2c0e40cd5d2d119470a7b2bd6893189ed711432555864e458ec0a98970", func := "skiff/skifflaw15.TableWays", spec := "tableWays", plainKeys := false, apart := false, narrowed := true }
def TableWaysUptoSaid : Prop := tableWaysUptoRow.holds Try.pinned (OpenSpec.upto tableWaysSpec)

/-- 'skifflaw14.Answers', WHERE WHAT IT READS IS OF BULK AT MOST 1048576: true; the input reads as it did. -/
def answersUptoRow : OpenClaim := { program := "ytnbbbpeelplfoaa", sum := "237f6f2c0e40cd5d2d119470a7b2bd6893189ed711432555864e458ec0a98970", func := "skiff/skifflaw14.Answers", spec := "answers", plainKeys := false, apart := false, narrowed := true }
def AnswersUptoSaid : Prop := answersUptoRow.holds Try.pinned (OpenSpec.upto answersSpec)

/-- 'skifflaw14.AnswerForms', WHERE WHAT IT READS IS OF BULK AT MOST 1048576: true; the input reads as it did. -/
def answerFormsUptoRow : OpenClaim := { program := "ytnbbbpeelplfoaa", sum := "237f6f2c0e40cd5d2d119470a7b2bd6893189ed711432555864e458ec0a98970", func := "skiff/skifflaw14.AnswerForms", spec := "answerForms", plainKeys := false, apart := false, narrowed := true }
def AnswerFormsUptoSaid : Prop := answerFormsUptoRow.holds Try.pinned (OpenSpec.upto answerFormsSpec)

/-- 'skifflaw14.AnswerBack', WHERE WHAT IT READS IS OF BULK AT MOST 1048576: true; the input reads as it did. -/
def answerBackUptoRow : OpenClaim := { program := "ytnbbbpeelplfoaa", sum := "237f6f2c0e40cd5d2d119470a7b2bd6893189ed711432555864e458ec0a98970", func := "skiff/skifflaw14.AnswerBack", spec := "answerBack", plainKeys := false, apart := false, narrowed := true }
def AnswerBackUptoSaid : Prop := answerBackUptoRow.holds Try.pinned (OpenSpec.upto answerBackSpec)

/-- 'skifflaw14.AnswerBytes', WHERE WHAT IT READS IS OF BULK AT MOST 1048576: true; the input reads as it did. -/
def answerBytesUptoRow : OpenClaim := { program := "ytnbbbpeelplfoaa", sum := "237f6f2c0e40cd5d2d119470a7b2bd6893189ed711432555864e458ec0a98970", func := "skiff/skifflaw14.AnswerBytes", spec := "answerBytes", plainKeys := false, apart := false, narrowed := true }
def AnswerBytesUptoSaid : Prop := answerBytesUptoRow.holds Try.pinned (OpenSpec.upto answerBytesSpec)

end Rows
end Go.Proofs.Ytnbbbpeelplfoaa

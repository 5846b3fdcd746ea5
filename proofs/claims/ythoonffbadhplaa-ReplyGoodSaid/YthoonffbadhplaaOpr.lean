/- Arguments opened: replies. -/
import Derived.Test.YthoonffbadhplaaKit
import Derived.Test.YthoonffbadhplaaRow
import Derived.Deep.Fields
import Derived.SizedLaws
namespace Go.Proofs.Ythoonffbadhplaa.On
open Go.ChangeShapes Go.WideShapes Go.ChangeAt Go.RowKit Go.Joins Go.Deep Go.Proofs.Ythoonffbadhplaa.Kt
set_option linter.unusedVariables false
set_option linter.unusedSimpArgs false
section
variable {H : Type} {enc : TypeId × Value → H} {w : World} {base : Nat} {spare : Nat → Bool} {held : Bool}
theorem cells_reply : Try.prog.cellsOf 25 = 3 := by kernel_rfl
theorem reply_open {t0 : Nat} {v : Value} {d : DataW H} {p : List MemPlace} (hv : Value.okWide Try.prog w .any t0 25 v) (h : DataW.Trod enc Try.prog w base spare held 25 v d p)
    (hsz : ∀ m ∈ d.weights Try.prog 25, m ≤ reachBytes) :
    ∃ a0 a1 a2, v = .agg #[.bool a0, .bool a1, .string a2] ∧ a2.size ≤ 140737488351232 := by
  obtain ⟨cs, rfl, hcs⟩ := okWide_struct Try.underlying25 hv
  rw [cells_reply] at hcs
  obtain ⟨l⟩ := cs
  match l, hcs with
  | [c0, c1, c2], _ =>
    obtain ⟨fuel, hf⟩ := h
    obtain ⟨xs, n, _, hx, hl, hlen, hg⟩ := DataW.trod_struct Try.underlying25 hf
    match xs, hlen with
    | [y0, y1, y2], _ =>
      have g0 : DataW.trod enc Try.prog w base spare held n 4 [c0] = some y0 := hg 0 _ rfl
      have g1 : DataW.trod enc Try.prog w base spare held n 4 [c1] = some y1 := hg 1 _ rfl
      have g2 : DataW.trod enc Try.prog w base spare held n 9 [c2] = some y2 := hg 2 _ rfl
      obtain ⟨a0, e0, _⟩ := DataW.trod_bool Try.underlying4 g0
      obtain ⟨a1, e1, _⟩ := DataW.trod_bool Try.underlying4 g1
      obtain ⟨a2, e2, r2, _⟩ := DataW.trod_string Try.underlying9 g2
      injection e0 with e0
      injection e1 with e1
      injection e2 with e2
      have hd : d = .agg [y0.1, y1.1, y2.1] := by
        have := congrArg Prod.fst hx
        simpa using this
      have hw := hsz
      rw [hd, r2] at hw
      simp only [DataW.weights, Try.underlying25, DataW.weightsEach, List.map_cons, List.map_nil] at hw
      have hr : reachBytes = 140737488351232 := rfl
      refine ⟨a0, a1, a2, by rw [e0, e1, e2], ?_⟩
      · have := hw a2.data.toList.length (by simp)
        rw [hr] at this
        simpa using this
end
end Go.Proofs.Ythoonffbadhplaa.On

/- Arguments opened: hosts. -/
import Derived.Test.YthoonffbadhplaaKit
import Derived.Test.YthoonffbadhplaaRow
import Derived.Deep.Fields
import Derived.SizedLaws
namespace Go.Proofs.Ythoonffbadhplaa.On
open Go.ChangeShapes Go.WideShapes Go.ChangeAt Go.RowKit Go.Joins Go.Deep Go.Proofs.Ythoonffbadhplaa.Kt
set_option linter.unusedVariables false
set_option linter.unusedSimpArgs false
section
variable {H : Type} {enc : TypeId × Value → H} {w : World} {base : Nat} {spare : Nat → Bool} {held : Bool}
theorem cells_host : Try.prog.cellsOf 23 = 7 := by kernel_rfl
theorem host_open {t0 : Nat} {v : Value} {d : DataW H} {p : List MemPlace} (hv : Value.okWide Try.prog w .any t0 23 v) (h : DataW.Trod enc Try.prog w base spare held 23 v d p)
    (hsz : ∀ m ∈ d.weights Try.prog 23, m ≤ reachBytes) :
    ∃ a0 a1 a2 a3 a4 a5 a6, v = .agg #[.int .i64 a0, .string a1, .int .i64 a2, .bool a3, .int .i64 a4, .string a5, .int .i64 a6] ∧ a1.size ≤ 140737488351232 ∧ a5.size ≤ 140737488351232 := by
  obtain ⟨cs, rfl, hcs⟩ := okWide_struct Try.underlying23 hv
  rw [cells_host] at hcs
  obtain ⟨l⟩ := cs
  match l, hcs with
  | [c0, c1, c2, c3, c4, c5, c6], _ =>
    obtain ⟨fuel, hf⟩ := h
    obtain ⟨xs, n, _, hx, hl, hlen, hg⟩ := DataW.trod_struct Try.underlying23 hf
    match xs, hlen with
    | [y0, y1, y2, y3, y4, y5, y6], _ =>
      have g0 : DataW.trod enc Try.prog w base spare held n 3 [c0] = some y0 := hg 0 _ rfl
      have g1 : DataW.trod enc Try.prog w base spare held n 9 [c1] = some y1 := hg 1 _ rfl
      have g2 : DataW.trod enc Try.prog w base spare held n 3 [c2] = some y2 := hg 2 _ rfl
      have g3 : DataW.trod enc Try.prog w base spare held n 4 [c3] = some y3 := hg 3 _ rfl
      have g4 : DataW.trod enc Try.prog w base spare held n 3 [c4] = some y4 := hg 4 _ rfl
      have g5 : DataW.trod enc Try.prog w base spare held n 9 [c5] = some y5 := hg 5 _ rfl
      have g6 : DataW.trod enc Try.prog w base spare held n 3 [c6] = some y6 := hg 6 _ rfl
      obtain ⟨a0, e0, _⟩ := DataW.trod_int Try.underlying3 g0
      obtain ⟨a1, e1, r1, _⟩ := DataW.trod_string Try.underlying9 g1
      obtain ⟨a2, e2, _⟩ := DataW.trod_int Try.underlying3 g2
      obtain ⟨a3, e3, _⟩ := DataW.trod_bool Try.underlying4 g3
      obtain ⟨a4, e4, _⟩ := DataW.trod_int Try.underlying3 g4
      obtain ⟨a5, e5, r5, _⟩ := DataW.trod_string Try.underlying9 g5
      obtain ⟨a6, e6, _⟩ := DataW.trod_int Try.underlying3 g6
      injection e0 with e0
      injection e1 with e1
      injection e2 with e2
      injection e3 with e3
      injection e4 with e4
      injection e5 with e5
      injection e6 with e6
      have hd : d = .agg [y0.1, y1.1, y2.1, y3.1, y4.1, y5.1, y6.1] := by
        have := congrArg Prod.fst hx
        simpa using this
      have hw := hsz
      rw [hd, r1, r5] at hw
      simp only [DataW.weights, Try.underlying23, DataW.weightsEach, List.map_cons, List.map_nil] at hw
      have hr : reachBytes = 140737488351232 := rfl
      refine ⟨a0, a1, a2, a3, a4, a5, a6, by rw [e0, e1, e2, e3, e4, e5, e6], ?_, ?_⟩
      · have := hw a1.data.toList.length (by simp)
        rw [hr] at this
        simpa using this
      · have := hw a5.data.toList.length (by simp)
        rw [hr] at this
        simpa using this
end
end Go.Proofs.Ythoonffbadhplaa.On

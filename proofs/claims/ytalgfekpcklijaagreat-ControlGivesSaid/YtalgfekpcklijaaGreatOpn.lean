/- Arguments opened: rows of steps, devices. -/
import Derived.Test.YtalgfekpcklijaaGreatGb
import Derived.Test.YtalgfekpcklijaaGreatRow
import Derived.Deep.Slices
import Derived.Deep.Fields
import Derived.SizedLaws
namespace Go.Proofs.YtalgfekpcklijaaGreat.On
open Go.ChangeShapes Go.WideShapes Go.ChangeAt Go.RowKit Go.Joins Go.Deep Go.Proofs.YtalgfekpcklijaaGreat.Kt Go.Proofs.YtalgfekpcklijaaGreat.Sl
set_option linter.unusedVariables false
set_option maxRecDepth 100000
set_option linter.unusedSimpArgs false
section
variable {H : Type} {enc : TypeId × Value → H} {P : Program} {w : World} {base : Nat} {spare : Nat → Bool} {held : Bool} {α : Type} {en : α → List Value} {Q : α → Prop}
theorem pick_list {R : Nat → α → Prop} : ∀ n, (∀ i, i < n → ∃ o, R i o) → ∃ xs : List α, xs.length = n ∧ ∀ j x, xs[j]? = some x → R j x
  | 0, _ => ⟨[], rfl, fun j x h => by simp at h⟩
  | n + 1, h => by
    obtain ⟨xs, hl, hx⟩ := pick_list n (fun i hi => h i (by omega))
    obtain ⟨o, ho⟩ := h n (by omega)
    refine ⟨xs ++ [o], by simp [hl], fun j x hj => ?_⟩
    rcases Nat.lt_or_ge j xs.length with hlt | hge
    · rw [List.getElem?_append_left hlt] at hj
      exact hx j x hj
    · rw [List.getElem?_append_right hge] at hj
      have : j - xs.length = 0 := by
        rcases Nat.eq_zero_or_pos (j - xs.length) with h0 | h0
        · exact h0
        · rw [List.getElem?_eq_none (by simp; omega)] at hj; cases hj
      rw [this] at hj
      simp at hj
      subst hj
      have : j = n := by omega
      rw [this]
      exact ho
/-- a slice read as a list. -/
theorem slice_rd {t e : TypeId} {k fuel : Nat} {cs : List Value} {x : DataW H × List MemPlace} (ht : P.underlying t = some (.slice e)) (hk : P.cellsOf e = k) (hpos : 0 < k) (hlen : ∀ o, (en o).length = k)
    (hrd : ∀ n cs' y, DataW.trod enc P w base spare held n e cs' = some y → ∃ o, cs' = en o ∧ Q o) (h : DataW.trod enc P w base spare held fuel t cs = some x) :
    ∃ A n c xs, cs = [.slice A n c] ∧ xs.length = n ∧ Lies en k w A xs ∧ (∀ o ∈ xs, Q o) ∧ n ≤ 9223372036854775807 ∧ ((x.1 = .nil ∧ n = 0) ∨ ∃ elems sp, x.1 = .slice elems sp ∧ elems.length = n) := by
  rcases open_slice ht h with ⟨h1, h2⟩ | ⟨a, len, cap, m, n, D, Pl, hcs, hb, hl, hm, hmm, hx, hi⟩
  · exact ⟨none, 0, 0, [], h1, rfl, .inl rfl, by simp, by omega, .inl ⟨by rw [h2], rfl⟩⟩
  · have hlm : len ≤ m := by rw [hmm]; split <;> omega
    have hex : ∀ i, i < len → ∃ o, Q o ∧ ∀ j v, (en o)[j]? = some v → w.cell? ((a.add (i * k)).add j) = some v := by
      intro i hil
      obtain ⟨cs', hc, ht'⟩ := hi i (by omega)
      obtain ⟨o, rfl, hq⟩ := hrd _ _ _ ht'
      rw [hk] at hc
      obtain ⟨_, hcl, hat⟩ := World.cells?_some hc
      refine ⟨o, hq, fun j v hv => ?_⟩
      have hj : j < k := by
        rcases Nat.lt_or_ge j (en o).length with hlt | hge
        · rw [hlen] at hlt; exact hlt
        · rw [List.getElem?_eq_none hge] at hv; cases hv
      rw [hat j hj, hv]
    obtain ⟨xs, hxl, hxs⟩ := pick_list len hex
    refine ⟨some a, len, cap, xs, hcs, hxl, ?_, ?_, by simp only [maxLen] at hm; omega, .inr ⟨_, _, by rw [hx], by simp⟩⟩
    · rcases Nat.eq_zero_or_pos len with h0 | h0
      · left
        exact List.eq_nil_of_length_eq_zero (by omega)
      · right
        have hx0 : xs[0]? = some (xs[0]'(by omega)) := List.getElem?_eq_getElem (by omega)
        have hv0 : (en (xs[0]'(by omega)))[0]? = some ((en (xs[0]'(by omega)))[0]'(by rw [hlen]; exact hpos)) := List.getElem?_eq_getElem _
        have hc0 := (hxs 0 _ hx0).2 0 _ hv0
        rw [Nat.zero_mul] at hc0
        have e0 : (a.add 0).add 0 = a := rfl
        rw [e0] at hc0
        obtain ⟨b, off, sp⟩ := a
        have hs : sp = none := World.cell?_spot hc0
        subst hs
        refine ⟨b, off, rfl, World.block_lt_of_cell? w _ hc0, fun j x hj i v hv => ?_⟩
        have h1 := (hxs j x hj).2 i v hv
        rw [add_add, add_off] at h1
        rwa [Nat.add_assoc]
    · intro o ho
      obtain ⟨j, hj, rfl⟩ := List.mem_iff_getElem.1 ho
      exact (hxs j _ (List.getElem?_eq_getElem hj)).1
end
theorem i64_of {n : Int} (h : (Lit.int .i64 n).wf = true) : -9223372036854775808 ≤ n ∧ n ≤ 9223372036854775807 := by
  simp only [Lit.wf, Bool.and_eq_true, decide_eq_true_eq] at h
  exact h
section
open Go.Proofs.YtalgfekpcklijaaGreat.Ops
variable {H : Type} {enc : TypeId × Value → H} {w : World} {base : Nat} {spare : Nat → Bool} {held : Bool}
theorem cells_op : Tryz.prog.cellsOf 118 = 3 := by kernel_rfl
theorem op_rd (fuel : Nat) (cs : List Value) (y : DataW H × List MemPlace) (h : DataW.trod enc Tryz.prog w base spare held fuel 118 cs = some y) : ∃ o : OpV, cs = encOp o ∧ OpOk o := by
  obtain ⟨xs, n, _, hx, hl, hlen, hg⟩ := DataW.trod_struct Tryz.underlying118 h
  rw [cells_op] at hl
  match cs, hl with
  | [c0, c1, c2], _ =>
    match xs, hlen with
    | [y0, y1, y2], _ =>
      have g0 : DataW.trod enc Tryz.prog w base spare held n 4 [c0] = some y0 := hg 0 _ rfl
      have g1 : DataW.trod enc Tryz.prog w base spare held n 3 [c1] = some y1 := hg 1 _ rfl
      have g2 : DataW.trod enc Tryz.prog w base spare held n 9 [c2] = some y2 := hg 2 _ rfl
      obtain ⟨b, e0, _⟩ := DataW.trod_bool Tryz.underlying4 g0
      obtain ⟨a, e1, _, hw⟩ := DataW.trod_int Tryz.underlying3 g1
      obtain ⟨t, e2, _, hs⟩ := DataW.trod_string Tryz.underlying9 g2
      have hb := i64_of hw
      refine ⟨(b, a, t), ?_, hb.1, hb.2, by simp only [maxLen] at hs; exact hs⟩
      injection e0 with e0
      injection e1 with e1
      injection e2 with e2
      rw [e0, e1, e2]
      rfl
theorem cells_dev : Tryz.prog.cellsOf 24 = 6 := by kernel_rfl
theorem dev_open {t0 : Nat} {v : Value} {d : DataW H} {p : List MemPlace} (hv : Value.okWide Tryz.prog w .any t0 24 v) (h : DataW.Trod enc Tryz.prog w base spare held 24 v d p)
    (hsz : ∀ m ∈ d.weights Tryz.prog 24, m ≤ reachBytes) :
    ∃ s st nx g sl A n c xs, v = .agg #[.int .i64 s, .int .i64 st, .int .i64 nx, .int .i64 g, .int .i64 sl, .slice A n c] ∧ Row w A xs ∧ xs.length = n ∧ n * 32 ≤ 140737488355328 := by
  obtain ⟨cs, rfl, hcs⟩ := okWide_struct Tryz.underlying24 hv
  rw [cells_dev] at hcs
  obtain ⟨l⟩ := cs
  match l, hcs with
  | [c0, c1, c2, c3, c4, c5], _ =>
    obtain ⟨fuel, hf⟩ := h
    obtain ⟨xs, n, _, hx, hl, hlen, hg⟩ := DataW.trod_struct Tryz.underlying24 hf
    match xs, hlen with
    | [y0, y1, y2, y3, y4, y5], _ =>
      have g0 : DataW.trod enc Tryz.prog w base spare held n 3 [c0] = some y0 := hg 0 _ rfl
      have g1 : DataW.trod enc Tryz.prog w base spare held n 3 [c1] = some y1 := hg 1 _ rfl
      have g2 : DataW.trod enc Tryz.prog w base spare held n 3 [c2] = some y2 := hg 2 _ rfl
      have g3 : DataW.trod enc Tryz.prog w base spare held n 3 [c3] = some y3 := hg 3 _ rfl
      have g4 : DataW.trod enc Tryz.prog w base spare held n 3 [c4] = some y4 := hg 4 _ rfl
      have g5 : DataW.trod enc Tryz.prog w base spare held n 22 [c5] = some y5 := hg 5 _ rfl
      obtain ⟨a0, e0, _⟩ := DataW.trod_int Tryz.underlying3 g0
      obtain ⟨a1, e1, _⟩ := DataW.trod_int Tryz.underlying3 g1
      obtain ⟨a2, e2, _⟩ := DataW.trod_int Tryz.underlying3 g2
      obtain ⟨a3, e3, _⟩ := DataW.trod_int Tryz.underlying3 g3
      obtain ⟨a4, e4, _⟩ := DataW.trod_int Tryz.underlying3 g4
      obtain ⟨A, m, c, xs, e5, hm, hli, hq, hb, hd⟩ := slice_rd Tryz.underlying22 cells_op (by decide) (fun o => rfl) op_rd g5
      injection e0 with e0
      injection e1 with e1
      injection e2 with e2
      injection e3 with e3
      injection e4 with e4
      injection e5 with e5
      refine ⟨a0, a1, a2, a3, a4, A, m, c, xs, by rw [e0, e1, e2, e3, e4, e5], ⟨hli, by omega, hq⟩, hm, ?_⟩
      rcases hd with ⟨_, h0⟩ | ⟨elems, sp, hy, he⟩
      · subst h0; decide
      · have hd : d = .agg [y0.1, y1.1, y2.1, y3.1, y4.1, y5.1] := by
          have := congrArg Prod.fst hx
          simpa using this
        have hw : (elems.length + sp.length) * Tryz.prog.bytesOf 118 ≤ reachBytes := by
          apply hsz
          rw [hd, hy]
          simp only [DataW.weights, Tryz.underlying24, DataW.weightsEach, Tryz.underlying22, List.map_cons, List.map_nil]
          simp
        rw [show Tryz.prog.bytesOf 118 = 32 by kernel_rfl] at hw
        have : reachBytes = 140737488351232 := rfl
        omega
end
end Go.Proofs.YtalgfekpcklijaaGreat.On

/- Texts laid as one: Row Opn Opw. -/
import Derived.Test.YtccblleobcidfaaGreatRows
import Derived.WalkKit
import Derived.ProofKit
import Derived.OpenShut
import Derived.ShutString
import Derived.ChangeOld
import Derived.Below
import Derived.SizedLaws
import Derived.Lib.SmallJoins
import Derived.Carry
import Derived.Test.YtccblleobcidfaaGreatGb
import Derived.Deep.Slices
import Derived.Deep.Fields
import Derived.Test.YtccblleobcidfaaGreatGi
/- How a law's row is closed: its arguments read behind the call as they did, since elder memory is as it was. -/
section
namespace Go.Proofs.YtccblleobcidfaaGreat.Rw
open Go.ChangeShapes Go.WideShapes Go.ChangeAt Go.RowKit Go.Joins
open Go.ChangeMaps (open_string shut_string)
set_option linter.unusedVariables false
set_option linter.unusedSimpArgs false

theorem own : ownKnob Tryz.prog.godebug = none := by kernel_rfl
theorem laidOut : laidOutB Tryz.prog = true := by kernel_rfl

theorem trodAll_below {H : Type} {enc : TypeId × Value → H} {P : Program} (hl : laidOutB P = true) {W W' : World} (hb : Below W.heap.size W W') :
    ∀ {ts : List TypeId} {vs : List Value} {ds : List (DataW H)} {ps : List MemPlace}, ts.all (fun t => P.readableRec t && decide (t < P.types.size)) = true →
      (∀ p ∈ ps, p.block < W.heap.size) → DataW.TrodAll enc P W 0 (fun _ => true) true ts vs ds ps → DataW.TrodAll enc P W' 0 (fun b => decide (b < W.heap.size)) true ts vs ds ps
  | [], vs, ds, ps, _, _, h => by
    obtain ⟨rfl, rfl, rfl⟩ := trodAll_nil h
    exact trodAll_mk0
  | t :: ts, vs, ds, ps, ht, hlt, h => by
    obtain ⟨v, vs', d, ds', p, q, rfl, rfl, rfl, h0, h1⟩ := trodAll_cons h
    simp only [List.all_cons, Bool.and_eq_true, decide_eq_true_eq] at ht
    exact trodAll_cons_mk (Below.trod hl ht.1.1 ht.1.2 h0 hb (fun x hx => hlt x (by simp [hx]))) (trodAll_below hl hb ht.2 (fun x hx => hlt x (by simp [hx])) h1)

/-- the law has returned true and left elder memory alone: that is what its row asks. -/
theorem row_close {H : Type} {enc : TypeId × Value → H} {P : Program} {fn : Func} {s : ChangeSpec} (hl : laidOutB P = true)
    (hp : fn.params.toList.all (fun t => P.readableRec t && decide (t < P.types.size)) = true) {tb : TypeId} (hr : fn.resultTypes = #[tb]) (hb : P.underlying tb = some .bool) (hv : s.vars = [])
    {W : World} {args : Array Value} {ds gs : List (DataW H)} {before : List MemPlace} (hW : DataW.Whole enc P fn.params.toList s.vars false W args.toList ds gs before)
    (hs : s.fn H (ds ++ gs) = { results := [.lit (.bool true)], args := ds }) {e : Ending} {W' : World} (he : e = .returned (.bool true)) (bel : Below W.heap.size W W') :
    ∃ v, e = .returned v ∧ s.post enc P fn false true false false W args v W' := by
  have hW' := hW
  obtain ⟨p, q, hA, hV, rfl, hfz, hnd⟩ := hW
  rw [hv] at hV
  obtain ⟨rfl, rfl⟩ := trodVars_none hV
  have hlt := hA.lt
  have hsl : (s.fn H (ds ++ [])).results = [.lit (.bool true)] := by rw [hs]
  have hsa : (s.fn H (ds ++ [])).args = ds := by rw [hs]
  have hsv : (s.fn H (ds ++ [])).vars = [] := by rw [hs]
  refine ⟨_, he, ds, [], p ++ [], [], p, [], hW', ?_, ?_, ?_, bel.frame _, fun h => by cases h⟩
  · rw [hsl, hr]; exact trodAll_mk1 (shut_bool hb _)
  · rw [hsa]; exact trodAll_below hl bel hp (by simpa using hlt) hA
  · rw [hsv, hv]; rfl
end Go.Proofs.YtccblleobcidfaaGreat.Rw
end
/- Arguments opened: rows of steps, devices. -/
section
namespace Go.Proofs.YtccblleobcidfaaGreat.On
open Go.ChangeShapes Go.WideShapes Go.ChangeAt Go.RowKit Go.Joins Go.Deep Go.Proofs.YtccblleobcidfaaGreat.Kt Go.Proofs.YtccblleobcidfaaGreat.Sl
set_option linter.unusedVariables false
set_option maxRecDepth 100000
set_option linter.unusedSimpArgs false
section
variable {H : Type} {enc : TypeId × Value → H} {P : Program} {w : World} {base : Nat} {spare : Nat → Bool} {held : Bool} {α : Type} {en : α → List Value} {Q : α → Prop}
theorem pick_list {R : Nat → α → Prop} : ∀ n, (∀ i, i < n → ∃ o, R i o) → ∃ xs : List α, xs.length = n ∧ ∀ j x, xs[j]? = some x → R j x
  | 0, _ => ⟨[], rfl, fun j x h => by simp at h⟩
  | n + 1, h => by
    obtain ⟨xs, hl, hx⟩ := pick_list n (fun i hi => h i (by omega))
    obtain ⟨o, ho⟩ := h n (by omega)
    refine ⟨xs ++ [o], by simp [hl], fun j x hj => ?_⟩
    rcases Nat.lt_or_ge j xs.length with hlt | hge
    · rw [List.getElem?_append_left hlt] at hj
      exact hx j x hj
    · rw [List.getElem?_append_right hge] at hj
      have : j - xs.length = 0 := by
        rcases Nat.eq_zero_or_pos (j - xs.length) with h0 | h0
        · exact h0
        · rw [List.getElem?_eq_none (by simp; omega)] at hj; cases hj
      rw [this] at hj
      simp at hj
      subst hj
      have : j = n := by omega
      rw [this]
      exact ho
/-- a slice read as a list. -/
theorem slice_rd {t e : TypeId} {k fuel : Nat} {cs : List Value} {x : DataW H × List MemPlace} (ht : P.underlying t = some (.slice e)) (hk : P.cellsOf e = k) (hpos : 0 < k) (hlen : ∀ o, (en o).length = k)
    (hrd : ∀ n cs' y, DataW.trod enc P w base spare held n e cs' = some y → ∃ o, cs' = en o ∧ Q o) (h : DataW.trod enc P w base spare held fuel t cs = some x) :
    ∃ A n c xs, cs = [.slice A n c] ∧ xs.length = n ∧ Lies en k w A xs ∧ (∀ o ∈ xs, Q o) ∧ n ≤ 9223372036854775807 ∧ ((x.1 = .nil ∧ n = 0) ∨ ∃ elems sp, x.1 = .slice elems sp ∧ elems.length = n) := by
  rcases open_slice ht h with ⟨h1, h2⟩ | ⟨a, len, cap, m, n, D, Pl, hcs, hb, hl, hm, hmm, hx, hi⟩
  · exact ⟨none, 0, 0, [], h1, rfl, .inl rfl, by simp, by omega, .inl ⟨by rw [h2], rfl⟩⟩
  · have hlm : len ≤ m := by rw [hmm]; split <;> omega
    have hex : ∀ i, i < len → ∃ o, Q o ∧ ∀ j v, (en o)[j]? = some v → w.cell? ((a.add (i * k)).add j) = some v := by
      intro i hil
      obtain ⟨cs', hc, ht'⟩ := hi i (by omega)
      obtain ⟨o, rfl, hq⟩ := hrd _ _ _ ht'
      rw [hk] at hc
      obtain ⟨_, hcl, hat⟩ := World.cells?_some hc
      refine ⟨o, hq, fun j v hv => ?_⟩
      have hj : j < k := by
        rcases Nat.lt_or_ge j (en o).length with hlt | hge
        · rw [hlen] at hlt; exact hlt
        · rw [List.getElem?_eq_none hge] at hv; cases hv
      rw [hat j hj, hv]
    obtain ⟨xs, hxl, hxs⟩ := pick_list len hex
    refine ⟨some a, len, cap, xs, hcs, hxl, ?_, ?_, by simp only [maxLen] at hm; omega, .inr ⟨_, _, by rw [hx], by simp⟩⟩
    · rcases Nat.eq_zero_or_pos len with h0 | h0
      · left
        exact List.eq_nil_of_length_eq_zero (by omega)
      · right
        have hx0 : xs[0]? = some (xs[0]'(by omega)) := List.getElem?_eq_getElem (by omega)
        have hv0 : (en (xs[0]'(by omega)))[0]? = some ((en (xs[0]'(by omega)))[0]'(by rw [hlen]; exact hpos)) := List.getElem?_eq_getElem _
        have hc0 := (hxs 0 _ hx0).2 0 _ hv0
        rw [Nat.zero_mul] at hc0
        have e0 : (a.add 0).add 0 = a := rfl
        rw [e0] at hc0
        obtain ⟨b, off, sp⟩ := a
        have hs : sp = none := World.cell?_spot hc0
        subst hs
        refine ⟨b, off, rfl, World.block_lt_of_cell? w _ hc0, fun j x hj i v hv => ?_⟩
        have h1 := (hxs j x hj).2 i v hv
        rw [add_add, add_off] at h1
        rwa [Nat.add_assoc]
    · intro o ho
      obtain ⟨j, hj, rfl⟩ := List.mem_iff_getElem.1 ho
      exact (hxs j _ (List.getElem?_eq_getElem hj)).1
end
theorem i64_of {n : Int} (h : (Lit.int .i64 n).wf = true) : -9223372036854775808 ≤ n ∧ n ≤ 9223372036854775807 := by
  simp only [Lit.wf, Bool.and_eq_true, decide_eq_true_eq] at h
  exact h
section
open Go.Proofs.YtccblleobcidfaaGreat.Ops
variable {H : Type} {enc : TypeId × Value → H} {w : World} {base : Nat} {spare : Nat → Bool} {held : Bool}
theorem cells_op : Tryz.prog.cellsOf 183 = 3 := by kernel_rfl
theorem op_rd (fuel : Nat) (cs : List Value) (y : DataW H × List MemPlace) (h : DataW.trod enc Tryz.prog w base spare held fuel 183 cs = some y) : ∃ o : OpV, cs = encOp o ∧ OpOk o := by
  obtain ⟨xs, n, _, hx, hl, hlen, hg⟩ := DataW.trod_struct Tryz.underlying183 h
  rw [cells_op] at hl
  match cs, hl with
  | [c0, c1, c2], _ =>
    match xs, hlen with
    | [y0, y1, y2], _ =>
      have g0 : DataW.trod enc Tryz.prog w base spare held n 4 [c0] = some y0 := hg 0 _ rfl
      have g1 : DataW.trod enc Tryz.prog w base spare held n 3 [c1] = some y1 := hg 1 _ rfl
      have g2 : DataW.trod enc Tryz.prog w base spare held n 9 [c2] = some y2 := hg 2 _ rfl
      obtain ⟨b, e0, _⟩ := DataW.trod_bool Tryz.underlying4 g0
      obtain ⟨a, e1, _, hw⟩ := DataW.trod_int Tryz.underlying3 g1
      obtain ⟨t, e2, _, hs⟩ := DataW.trod_string Tryz.underlying9 g2
      have hb := i64_of hw
      refine ⟨(b, a, t), ?_, hb.1, hb.2, by simp only [maxLen] at hs; exact hs⟩
      injection e0 with e0
      injection e1 with e1
      injection e2 with e2
      rw [e0, e1, e2]
      rfl
end
end Go.Proofs.YtccblleobcidfaaGreat.On
end
/- Arguments opened: worlds, acts, rows of acts. -/
section
namespace Go.Proofs.YtccblleobcidfaaGreat.On
open Go.ChangeShapes Go.WideShapes Go.ChangeAt Go.RowKit Go.Joins Go.Deep Go.Proofs.YtccblleobcidfaaGreat.Kt Go.Proofs.YtccblleobcidfaaGreat.Sl Go.Proofs.YtccblleobcidfaaGreat.Ops Go.Proofs.YtccblleobcidfaaGreat.Wo
set_option linter.unusedVariables false
set_option maxRecDepth 100000
set_option linter.unusedSimpArgs false
section
variable {H : Type} {enc : TypeId × Value → H} {w : World} {base : Nat} {spare : Nat → Bool} {held : Bool}
theorem cells_world : Tryz.prog.cellsOf 32 = 17 := by kernel_rfl
theorem cells_act : Tryz.prog.cellsOf 41 = 4 := by kernel_rfl
set_option maxHeartbeats 3200000 in
theorem world_open {t0 : Nat} {v : Value} {d : DataW H} {p : List MemPlace} (hv : Value.okWide Tryz.prog w .any t0 32 v) (h : DataW.Trod enc Tryz.prog w base spare held 32 v d p)
    (hsz : ∀ m ∈ d.weights Tryz.prog 32, m ≤ reachBytes) :
    ∃ (x : WS) (A : Option Addr) (n c : Nat), v = .agg (x.cs A n c) ∧ Row w A x.d.ops ∧ x.d.ops.length = n ∧ n * 32 ≤ 140737488355328 ∧ x.Fits := by
  obtain ⟨cs, rfl, hcs⟩ := okWide_struct Tryz.underlying32 hv
  rw [cells_world] at hcs
  obtain ⟨l⟩ := cs
  match l, hcs with
  | [c0, c1, c2, c3, c4, c5, c6, c7, c8, c9, c10, c11, c12, c13, c14, c15, c16], _ =>
    obtain ⟨fuel, hf⟩ := h
    obtain ⟨xs, n, _, hx, hl, hlen, hg⟩ := DataW.trod_struct Tryz.underlying32 hf
    match xs, hlen with
    | [y0, y1, y2, y3], _ =>
      have g0 : DataW.trod enc Tryz.prog w base spare held n 9 [c0] = some y0 := hg 0 _ rfl
      have g1 : DataW.trod enc Tryz.prog w base spare held n 25 [c1, c2, c3] = some y1 := hg 1 _ rfl
      have g2 : DataW.trod enc Tryz.prog w base spare held n 28 [c4, c5, c6, c7, c8, c9] = some y2 := hg 2 _ rfl
      have g3 : DataW.trod enc Tryz.prog w base spare held n 30 [c10, c11, c12, c13, c14, c15, c16] = some y3 := hg 3 _ rfl
      obtain ⟨a0, e0, r0, _⟩ := DataW.trod_string Tryz.underlying9 g0
      obtain ⟨xi, ni, _, hxi, _, hleni, hgi⟩ := DataW.trod_struct Tryz.underlying25 g1
      obtain ⟨xd, nd, _, hxd, _, hlend, hgd⟩ := DataW.trod_struct Tryz.underlying28 g2
      obtain ⟨xh, nh, _, hxh, _, hlenh, hgh⟩ := DataW.trod_struct Tryz.underlying30 g3
      match xi, hleni with
      | [i0, i1, i2], _ =>
        match xd, hlend with
        | [d0, d1, d2, d3, d4, d5], _ =>
          match xh, hlenh with
          | [h0, h1, h2, h3, h4, h5, h6], _ =>
            have gi0 : DataW.trod enc Tryz.prog w base spare held ni 3 [c1] = some i0 := hgi 0 _ rfl
            have gi1 : DataW.trod enc Tryz.prog w base spare held ni 3 [c2] = some i1 := hgi 1 _ rfl
            have gi2 : DataW.trod enc Tryz.prog w base spare held ni 3 [c3] = some i2 := hgi 2 _ rfl
            have gd0 : DataW.trod enc Tryz.prog w base spare held nd 3 [c4] = some d0 := hgd 0 _ rfl
            have gd1 : DataW.trod enc Tryz.prog w base spare held nd 3 [c5] = some d1 := hgd 1 _ rfl
            have gd2 : DataW.trod enc Tryz.prog w base spare held nd 3 [c6] = some d2 := hgd 2 _ rfl
            have gd3 : DataW.trod enc Tryz.prog w base spare held nd 3 [c7] = some d3 := hgd 3 _ rfl
            have gd4 : DataW.trod enc Tryz.prog w base spare held nd 3 [c8] = some d4 := hgd 4 _ rfl
            have gd5 : DataW.trod enc Tryz.prog w base spare held nd 26 [c9] = some d5 := hgd 5 _ rfl
            have gh0 : DataW.trod enc Tryz.prog w base spare held nh 3 [c10] = some h0 := hgh 0 _ rfl
            have gh1 : DataW.trod enc Tryz.prog w base spare held nh 9 [c11] = some h1 := hgh 1 _ rfl
            have gh2 : DataW.trod enc Tryz.prog w base spare held nh 3 [c12] = some h2 := hgh 2 _ rfl
            have gh3 : DataW.trod enc Tryz.prog w base spare held nh 4 [c13] = some h3 := hgh 3 _ rfl
            have gh4 : DataW.trod enc Tryz.prog w base spare held nh 3 [c14] = some h4 := hgh 4 _ rfl
            have gh5 : DataW.trod enc Tryz.prog w base spare held nh 9 [c15] = some h5 := hgh 5 _ rfl
            have gh6 : DataW.trod enc Tryz.prog w base spare held nh 3 [c16] = some h6 := hgh 6 _ rfl
            obtain ⟨b1, e1, _⟩ := DataW.trod_int Tryz.underlying3 gi0
            obtain ⟨b2, e2, _⟩ := DataW.trod_int Tryz.underlying3 gi1
            obtain ⟨b3, e3, _⟩ := DataW.trod_int Tryz.underlying3 gi2
            obtain ⟨b4, e4, _⟩ := DataW.trod_int Tryz.underlying3 gd0
            obtain ⟨b5, e5, _⟩ := DataW.trod_int Tryz.underlying3 gd1
            obtain ⟨b6, e6, _⟩ := DataW.trod_int Tryz.underlying3 gd2
            obtain ⟨b7, e7, _⟩ := DataW.trod_int Tryz.underlying3 gd3
            obtain ⟨b8, e8, _⟩ := DataW.trod_int Tryz.underlying3 gd4
            obtain ⟨A, m, c, os, e9, hm, hli, hq, hb, hd⟩ := slice_rd Tryz.underlying26 cells_op (by decide) (fun o => rfl) op_rd gd5
            obtain ⟨b10, e10, _⟩ := DataW.trod_int Tryz.underlying3 gh0
            obtain ⟨b11, e11, r11, _⟩ := DataW.trod_string Tryz.underlying9 gh1
            obtain ⟨b12, e12, _⟩ := DataW.trod_int Tryz.underlying3 gh2
            obtain ⟨b13, e13, _⟩ := DataW.trod_bool Tryz.underlying4 gh3
            obtain ⟨b14, e14, _⟩ := DataW.trod_int Tryz.underlying3 gh4
            obtain ⟨b15, e15, r15, _⟩ := DataW.trod_string Tryz.underlying9 gh5
            obtain ⟨b16, e16, _⟩ := DataW.trod_int Tryz.underlying3 gh6
            injection e0 with e0
            injection e1 with e1
            injection e2 with e2
            injection e3 with e3
            injection e4 with e4
            injection e5 with e5
            injection e6 with e6
            injection e7 with e7
            injection e8 with e8
            injection e9 with e9
            injection e10 with e10
            injection e11 with e11
            injection e12 with e12
            injection e13 with e13
            injection e14 with e14
            injection e15 with e15
            injection e16 with e16
            have hd0 : d = .agg [y0.1, y1.1, y2.1, y3.1] := by
              have := congrArg Prod.fst hx
              simpa using this
            have hd2 : y2.1 = .agg [d0.1, d1.1, d2.1, d3.1, d4.1, d5.1] := by
              have := congrArg Prod.fst hxd
              simpa using this
            have hd3 : y3.1 = .agg [h0.1, h1.1, h2.1, h3.1, h4.1, h5.1, h6.1] := by
              have := congrArg Prod.fst hxh
              simpa using this
            have hw := hsz
            rw [hd0, hd2, hd3, r0, r11, r15] at hw
            have hr : reachBytes = 140737488351232 := rfl
            simp only [DataW.weights, Tryz.underlying32, Tryz.underlying28, Tryz.underlying30, DataW.weightsEach, List.map_cons, List.map_nil] at hw
            have z0 : a0.data.toList.length ≤ reachBytes := hw _ (by simp)
            have z11 : b11.data.toList.length ≤ reachBytes := hw _ (by simp)
            have z15 : b15.data.toList.length ≤ reachBytes := hw _ (by simp)
            have q0 : a0.size ≤ 140737488351232 := by rw [hr] at z0; simpa using z0
            have q11 : b11.size ≤ 140737488351232 := by rw [hr] at z11; simpa using z11
            have q15 : b15.size ≤ 140737488351232 := by rw [hr] at z15; simpa using z15
            refine ⟨⟨a0, b1, b2, b3, ⟨b4, b5, b6, b7, b8, os⟩, ⟨b10, b11, b12, b13, b14, b15, b16⟩⟩, A, m, c, ?_, ⟨hli, (by show os.length ≤ _; omega), hq⟩, hm, ?_, ⟨?_, ?_, ?_⟩⟩
            · rw [e0, e1, e2, e3, e4, e5, e6, e7, e8, e9, e10, e11, e12, e13, e14, e15, e16]
            · rcases hd with ⟨_, k0⟩ | ⟨elems, sp, hy, he⟩
              · subst k0; decide
              · rw [hy] at hw
                have hq2 : (elems.length + sp.length) * Tryz.prog.bytesOf 183 ≤ reachBytes := hw _ (by simp [DataW.weights, Tryz.underlying26])
                rw [show Tryz.prog.bytesOf 183 = 32 by kernel_rfl] at hq2
                omega
            · show a0.size ≤ _
              omega
            · show b11.size ≤ _
              omega
            · show b15.size ≤ _
              omega
theorem act_rd (fuel : Nat) (cs : List Value) (y : DataW H × List MemPlace) (h : DataW.trod enc Tryz.prog w base spare held fuel 41 cs = some y) : ∃ a : AS, cs = [.int .i64 a.k, .string a.fi, .int .i64 a.lo, .int .i64 a.cu] ∧ a.fi.size ≤ 9223372036854775807 := by
  obtain ⟨xs, n, _, hx, hl, hlen, hg⟩ := DataW.trod_struct Tryz.underlying41 h
  rw [cells_act] at hl
  match cs, hl with
  | [c0, c1, c2, c3], _ =>
    match xs, hlen with
    | [y0, y1, y2, y3], _ =>
      have g0 : DataW.trod enc Tryz.prog w base spare held n 3 [c0] = some y0 := hg 0 _ rfl
      have g1 : DataW.trod enc Tryz.prog w base spare held n 9 [c1] = some y1 := hg 1 _ rfl
      have g2 : DataW.trod enc Tryz.prog w base spare held n 3 [c2] = some y2 := hg 2 _ rfl
      have g3 : DataW.trod enc Tryz.prog w base spare held n 3 [c3] = some y3 := hg 3 _ rfl
      obtain ⟨k, e0, _⟩ := DataW.trod_int Tryz.underlying3 g0
      obtain ⟨fi, e1, _, hs⟩ := DataW.trod_string Tryz.underlying9 g1
      obtain ⟨lo, e2, _⟩ := DataW.trod_int Tryz.underlying3 g2
      obtain ⟨cu, e3, _⟩ := DataW.trod_int Tryz.underlying3 g3
      injection e0 with e0
      injection e1 with e1
      injection e2 with e2
      injection e3 with e3
      refine ⟨⟨k, fi, lo, cu⟩, by rw [e0, e1, e2, e3], by simp only [maxLen] at hs; exact hs⟩
theorem act_open {t0 : Nat} {v : Value} {d : DataW H} {p : List MemPlace} (hv : Value.okWide Tryz.prog w .any t0 41 v) (h : DataW.Trod enc Tryz.prog w base spare held 41 v d p) :
    ∃ a : AS, v = .agg a.cs ∧ a.fi.size ≤ 9223372036854775807 := by
  obtain ⟨cs, rfl, hcs⟩ := okWide_struct Tryz.underlying41 hv
  obtain ⟨fuel, hf⟩ := h
  obtain ⟨l⟩ := cs
  obtain ⟨a, e, ha⟩ := act_rd fuel l _ hf
  exact ⟨a, by rw [e], ha⟩
end
end Go.Proofs.YtccblleobcidfaaGreat.On
end

/- Devices copied: the program's Copy, the references' copyDevice. -/
import Derived.Test.YtccblleobcidfaaGreatGa
import Derived.Maps.AppendAt
import Derived.WalkSpells
namespace Go.Proofs.YtccblleobcidfaaGreat.Dv
open Go.RowKit Go.Proofs.YtccblleobcidfaaGreat.Kt Go.Proofs.YtccblleobcidfaaGreat.Lw Go.Proofs.YtccblleobcidfaaGreat.St Go.Proofs.YtccblleobcidfaaGreat.Nm Go.Proofs.YtccblleobcidfaaGreat.Es Go.Proofs.YtccblleobcidfaaGreat.Sl Go.Proofs.YtccblleobcidfaaGreat.Gr Go.Proofs.YtccblleobcidfaaGreat.Ops Go.Proofs.YtccblleobcidfaaGreat.Pl
set_option linter.unusedVariables false
set_option linter.unusedSimpArgs false
theorem Own.set {w : World} {base : Nat} {A : Option Addr} {xs : List OpV} (h : Own w base A xs) {p : Addr} (hp : p.block < base) (v : Value) : Own (w.setCell p v) base A xs := by
  rcases h.2 with hx | ⟨g, off, rfl, h1, h2, h3⟩
  · subst hx
    exact Own.nil
  · refine ⟨⟨h.1.1.set (fun b off he => by injection he with he; injection he with h4 _ _; omega) v, h.1.2⟩, .inr ⟨g, off, rfl, h1, by simpa [World.setCell] using h2, fun j => ?_⟩⟩
    rw [World.frozen?_setCell]
    exact h3 j
theorem own_lit0 (w : World) (e : TypeId) : (w.alloc (.cells #[] e)).ownsRow w.heap.size e 3 (.slice (some ⟨w.heap.size, 0, none⟩) 0 0) 0 [] := own_empty w w.heap.size e 3 (Nat.le_refl _)
set_option maxRecDepth 100000 in
set_option maxHeartbeats 1600000 in
theorem clone_c (A : Option Addr) (c n : Nat) (xs : List OpV) (w : World) (hl : Row w A xs) (hn : xs.length = n) (hby : n * 32 ≤ 140737488355328) :
    Calls Tryz.prog 154 #[.slice A n c] w fun e w' => (∃ A' c', e = .returned (.slice A' n c') ∧ Own w' w.heap.size A' xs) ∧ Below w.heap.size w w' := by
  obtain ⟨i0, hi0, hz0, hz1, hz2⟩ := info_parts op_info
  have q0 := fun (w : World) => Lib.run_eql_slice_nil (P := Tryz.prog) w 26 183 A n c 0 0 Tryz.underlying26
  cases A with
  | none =>
    have hx : xs = [] := by
      rcases hl.1 with h | ⟨b, off, h, _⟩
      · exact h
      · cases h
    subst hx
    have : n = 0 := by rw [← hn]; rfl
    subst this
    go_enter Tryz.func154, Tryz.ntmps154
    go_wp2
    exact bodyPost_ret (v := .slice none 0 0) (by simp [results, Tryz.results154, go_sem]) rfl ⟨⟨none, 0, rfl, Own.nil⟩, Below.refl _ _⟩
  | some a =>
    have HL := Lib.hid (hl.1.below (bl_alloc (Below.refl _ _) (.cells #[] 183)))
    have HO := Lib.hid hl.2.2
    have hl2 := hl.2.1
    clear hl
    go_enter Tryz.func154, Tryz.ntmps154
    go_wp2_with (first | (at_builtin; go_must (refine wpList_grow (k := 3) (enc := encOp) (xs := xs) rfl _ _ 26 rfl _ w.heap.size 183 i0 _ 32 Tryz.underlying26 hi0 hz0 hz1 hz2 rfl (by decide) encOp_len encOp_one (.slice (some ⟨w.heap.size, 0, none⟩) 0 0) rfl 0 [] (own_lit0 _ _) (some a) n c rfl HL.out hn (by simp only [maxLen]; omega) (by omega) (by simp) ?_); intro A' c' w2 hown hg hat; simp only [Nat.zero_add, List.nil_append] at hown hat) | fail)
    refine bodyPost_ret (v := .slice A' n c') (by simp [results, Tryz.results154, go_sem]) rfl ?_
    refine ⟨⟨A', c', rfl, own_of hown hn (by omega) HO.out⟩, bl_grown (bl_alloc (Below.refl _ _) _) hg (fun g h => ?_)⟩
    have : w.heap.size = g := by simpa [Value.ownBlock] using h
    omega
set_option maxRecDepth 100000 in
set_option maxHeartbeats 1600000 in
theorem dcopy_c (d : DS) (A : Option Addr) (c n : Nat) (w : World) (hl : Row w A d.ops) (hn : d.ops.length = n) (hby : n * 32 ≤ 140737488355328) :
    Calls Tryz.prog 85 #[(.agg #[.int .i64 d.st, .int .i64 d.su, .int .i64 d.nx, .int .i64 d.go, .int .i64 d.sl, .slice A n c])] w fun e w' => (∃ A' c', e = .returned (.agg #[.int .i64 d.st, .int .i64 d.su, .int .i64 d.nx, .int .i64 d.go, .int .i64 d.sl, .slice A' n c']) ∧ Own w' w.heap.size A' d.ops) ∧ Below w.heap.size w w' := by
  obtain ⟨s, st, nx, g, sl, xs⟩ := d
  simp only at hl hn ⊢
  have HB := Below.refl w.heap.size w
  have K0 := Blk.new w #[.int .i64 s, .int .i64 st, .int .i64 nx, .int .i64 g, .int .i64 sl, .slice A n c] 28
  have K1 := fun cs0 => Blk.new1 w (.cells cs0 28) #[.int .i64 0, .int .i64 0, .int .i64 0, .int .i64 0, .int .i64 0, .slice none 0 0] 28
  have cc := Lib.hid (fun W (h : Below w.heap.size w W) => clone_c A c n xs W (hl.below h) hn hby)
  clear hl
  go_enter Tryz.func85, Tryz.ntmps85
  go_wp2_with (first | (go_at_call 154; (with_reducible refine (cc.out _ zq1).mono ?_); rintro e w2 ⟨⟨A', c', rfl, HO⟩, hb⟩; have HO := HO.mono (base' := w.heap.size + 2) (by simp); have HB := bl_step (w := w) zq0 hb; have hzB := HB.size; have K0 := Blk.on zq3 zq5 hb; (try clear cK0_0 cK0_1 cK0_2 cK0_3 cK0_4 cK0_5 fK0 lK0 nK0 mK0); obtain ⟨cK0_0, cK0_1, cK0_2, cK0_3, cK0_4, cK0_5, fK0, lK0, nK0, mK0⟩ := Blk.all6 K0; have K1 := Blk.on zq6 zq12 hb; (try clear cK1_0 cK1_1 cK1_2 cK1_3 cK1_4 cK1_5 fK1 lK1 nK1 mK1); obtain ⟨cK1_0, cK1_1, cK1_2, cK1_3, cK1_4, cK1_5, fK1, lK1, nK1, mK1⟩ := Blk.all6 K1) | fail)
  exact bodyPost_ret (v := .agg #[.int .i64 s, .int .i64 st, .int .i64 nx, .int .i64 g, .int .i64 sl, .slice A' n c']) (by simp [results, Tryz.results85, go_sem, *]) rfl ⟨⟨A', c', rfl, by (refine Own.mono ?_ (show w.heap.size ≤ w.heap.size + 2 by omega)); (repeat (with_reducible refine Own.set ?_ (by dsimp only; omega) _)); exact HO⟩, zq1⟩
end Go.Proofs.YtccblleobcidfaaGreat.Dv

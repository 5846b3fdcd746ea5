/- Devices copied: the program's Copy, the references' copyDevice. -/
import Derived.Test.YtalgfekpcklijaaGreatDca
import Derived.Maps.AppendAt
import Derived.WalkSpells
namespace Go.Proofs.YtalgfekpcklijaaGreat.Dv
open Go.RowKit Go.Proofs.YtalgfekpcklijaaGreat.Kt Go.Proofs.YtalgfekpcklijaaGreat.Lw Go.Proofs.YtalgfekpcklijaaGreat.St Go.Proofs.YtalgfekpcklijaaGreat.Nm Go.Proofs.YtalgfekpcklijaaGreat.Es Go.Proofs.YtalgfekpcklijaaGreat.Sl Go.Proofs.YtalgfekpcklijaaGreat.Gr Go.Proofs.YtalgfekpcklijaaGreat.Ops Go.Proofs.YtalgfekpcklijaaGreat.Pl
set_option linter.unusedVariables false
set_option linter.unusedSimpArgs false
theorem Own.set {w : World} {base : Nat} {A : Option Addr} {xs : List OpV} (h : Own w base A xs) {p : Addr} (hp : p.block < base) (v : Value) : Own (w.setCell p v) base A xs := by
  rcases h.2 with hx | ⟨g, off, rfl, h1, h2, h3⟩
  · subst hx
    exact Own.nil
  · refine ⟨⟨h.1.1.set (fun b off he => by injection he with he; injection he with h4 _ _; omega) v, h.1.2⟩, .inr ⟨g, off, rfl, h1, by simpa [World.setCell] using h2, fun j => ?_⟩⟩
    rw [World.frozen?_setCell]
    exact h3 j
theorem own_lit0 (w : World) (e : TypeId) : (w.alloc (.cells #[] e)).ownsRow w.heap.size e 3 (.slice (some ⟨w.heap.size, 0, none⟩) 0 0) 0 [] := own_empty w w.heap.size e 3 (Nat.le_refl _)
set_option maxRecDepth 100000 in
set_option maxHeartbeats 1600000 in
theorem clone_c (A : Option Addr) (c n : Nat) (xs : List OpV) (w : World) (hl : Row w A xs) (hn : xs.length = n) (hby : n * 32 ≤ 140737488355328) :
    Calls Tryz.prog 118 #[.slice A n c] w fun e w' => (∃ A' c', e = .returned (.slice A' n c') ∧ Own w' w.heap.size A' xs) ∧ Below w.heap.size w w' := by
  obtain ⟨i0, hi0, hz0, hz1, hz2⟩ := info_parts op_info
  have q0 := fun (w : World) => Lib.run_eql_slice_nil (P := Tryz.prog) w 22 118 A n c 0 0 Tryz.underlying22
  cases A with
  | none =>
    have hx : xs = [] := by
      rcases hl.1 with h | ⟨b, off, h, _⟩
      · exact h
      · cases h
    subst hx
    have : n = 0 := by rw [← hn]; rfl
    subst this
    go_enter Tryz.func118, Tryz.ntmps118
    go_wp2
    exact bodyPost_ret (v := .slice none 0 0) (by simp [results, Tryz.results118, go_sem]) rfl ⟨⟨none, 0, rfl, Own.nil⟩, Below.refl _ _⟩
  | some a =>
    have HL := Lib.hid (hl.1.below (bl_alloc (Below.refl _ _) (.cells #[] 118)))
    have HO := Lib.hid hl.2.2
    have hl2 := hl.2.1
    clear hl
    go_enter Tryz.func118, Tryz.ntmps118
    go_wp2_with (first | (at_builtin; go_must (refine wpList_grow (k := 3) (enc := encOp) (xs := xs) rfl _ _ 22 rfl _ w.heap.size 118 i0 _ 32 Tryz.underlying22 hi0 hz0 hz1 hz2 rfl (by decide) encOp_len encOp_one (.slice (some ⟨w.heap.size, 0, none⟩) 0 0) rfl 0 [] (own_lit0 _ _) (some a) n c rfl HL.out hn (by simp only [maxLen]; omega) (by omega) (by simp) ?_); intro A' c' w2 hown hg hat; simp only [Nat.zero_add, List.nil_append] at hown hat) | fail)
    refine bodyPost_ret (v := .slice A' n c') (by simp [results, Tryz.results118, go_sem]) rfl ?_
    refine ⟨⟨A', c', rfl, own_of hown hn (by omega) HO.out⟩, bl_grown (bl_alloc (Below.refl _ _) _) hg (fun g h => ?_)⟩
    have : w.heap.size = g := by simpa [Value.ownBlock] using h
    omega
set_option maxRecDepth 100000 in
set_option maxHeartbeats 1600000 in
theorem dcopy_c (d : DS) (A : Option Addr) (c n : Nat) (w : World) (hl : Row w A d.ops) (hn : d.ops.length = n) (hby : n * 32 ≤ 140737488355328) :
    Calls Tryz.prog 71 #[(.agg #[.int .i64 d.st, .int .i64 d.su, .int .i64 d.nx, .int .i64 d.go, .int .i64 d.sl, .slice A n c])] w fun e w' => (∃ A' c', e = .returned (.agg #[.int .i64 d.st, .int .i64 d.su, .int .i64 d.nx, .int .i64 d.go, .int .i64 d.sl, .slice A' n c']) ∧ Own w' w.heap.size A' d.ops) ∧ Below w.heap.size w w' := by
  obtain ⟨s, st, nx, g, sl, xs⟩ := d
  simp only at hl hn ⊢
  have HB := Below.refl w.heap.size w
  have K0 := Blk.new w #[.int .i64 s, .int .i64 st, .int .i64 nx, .int .i64 g, .int .i64 sl, .slice A n c] 24
  have K1 := fun cs0 => Blk.new1 w (.cells cs0 24) #[.int .i64 0, .int .i64 0, .int .i64 0, .int .i64 0, .int .i64 0, .slice none 0 0] 24
  have cc := Lib.hid (fun W (h : Below w.heap.size w W) => clone_c A c n xs W (hl.below h) hn hby)
  clear hl
  go_enter Tryz.func71, Tryz.ntmps71
  go_wp2_with (first | (go_at_call 118; (with_reducible refine (cc.out _ (by repeat (with_reducible first | exact Below.refl _ _ | assumption | (refine bl_set ?_ (by omega)) | apply bl_alloc | apply bl_drewN | apply bl_drew | (refine bl_step ?_ (by assumption)) | fail))).mono ?_); rintro e w2 ⟨⟨A', c', rfl, HO⟩, hb⟩; have HO := HO.mono (base' := w.heap.size + 2) (by simp); have HB := bl_step (w := w) (by repeat (with_reducible first | exact HB | (refine bl_set ?_ (by omega)) | apply bl_alloc | apply bl_drew | apply bl_drewN | fail)) hb; have hzB := HB.size; have K0 := Blk.on (by first | exact K0 | exact K0 #[] | exact K0 (.cells #[] 0) #[] | exact K0 #[] #[]) (by repeat (with_reducible first | exact K0 | exact K0 _ | exact K0 _ _ | apply Blk.alloc | apply Blk.drew | apply Blk.drewN | apply Blk.set6_0 | apply Blk.set6_1 | apply Blk.set6_2 | apply Blk.set6_3 | apply Blk.set6_4 | apply Blk.set6_5 | (apply Blk.off; (first | assumption | omega | (simp; omega))) | fail)) hb; (try clear cK0_0 cK0_1 cK0_2 cK0_3 cK0_4 cK0_5 fK0 lK0 nK0 mK0); obtain ⟨cK0_0, cK0_1, cK0_2, cK0_3, cK0_4, cK0_5, fK0, lK0, nK0, mK0⟩ := Blk.all6 K0; have K1 := Blk.on (by first | exact K1 | exact K1 #[] | exact K1 (.cells #[] 0) #[] | exact K1 #[] #[]) (by repeat (with_reducible first | exact K1 | exact K1 _ | exact K1 _ _ | apply Blk.alloc | apply Blk.drew | apply Blk.drewN | apply Blk.set6_0 | apply Blk.set6_1 | apply Blk.set6_2 | apply Blk.set6_3 | apply Blk.set6_4 | apply Blk.set6_5 | (apply Blk.off; (first | assumption | omega | (simp; omega))) | fail)) hb; (try clear cK1_0 cK1_1 cK1_2 cK1_3 cK1_4 cK1_5 fK1 lK1 nK1 mK1); obtain ⟨cK1_0, cK1_1, cK1_2, cK1_3, cK1_4, cK1_5, fK1, lK1, nK1, mK1⟩ := Blk.all6 K1) | fail)
  exact bodyPost_ret (v := .agg #[.int .i64 s, .int .i64 st, .int .i64 nx, .int .i64 g, .int .i64 sl, .slice A' n c']) (by simp [results, Tryz.results71, go_sem, *]) rfl ⟨⟨A', c', rfl, by (refine Own.mono ?_ (show w.heap.size ≤ w.heap.size + 2 by omega)); (repeat (with_reducible refine Own.set ?_ (by dsimp only; omega) _)); exact HO⟩, (by repeat (with_reducible first | exact Below.refl _ _ | assumption | (refine bl_set ?_ (by omega)) | apply bl_alloc | apply bl_drewN | apply bl_drew | (refine bl_step ?_ (by assumption)) | fail))⟩
set_option maxHeartbeats 1600000 in
theorem rcopy_c (d : DS) (A : Option Addr) (c n : Nat) (w : World) (hl : Row w A d.ops) (hn : d.ops.length = n) (hby : n * 32 ≤ 140737488355328) :
    Calls Tryz.prog 55 #[(.agg #[.int .i64 d.st, .int .i64 d.su, .int .i64 d.nx, .int .i64 d.go, .int .i64 d.sl, .slice A n c])] w fun e w' => (∃ A' c', e = .returned (.agg #[.int .i64 d.st, .int .i64 d.su, .int .i64 d.nx, .int .i64 d.go, .int .i64 d.sl, .slice A' n c']) ∧ Own w' w.heap.size A' d.ops) ∧ Below w.heap.size w w' := by
  obtain ⟨s, st, nx, g, sl, xs⟩ := d
  simp only at hl hn ⊢
  obtain ⟨i0, hi0, hz0, hz1, hz2⟩ := info_parts op_info
  go_enter Tryz.func55, Tryz.ntmps55
  go_wp2_with (first | (at_builtin; go_must (refine wpList_grow (k := 3) (enc := encOp) (xs := xs) rfl _ _ 22 rfl _ (w.heap.size + 2) 118 i0 _ 32 Tryz.underlying22 hi0 hz0 hz1 hz2 rfl (by decide) encOp_len encOp_one (.slice (some ⟨w.heap.size + 1 + 1, 0, none⟩) 0 0) rfl 0 [] (own_empty2 _ _ _ _ _) A n c rfl (hl.1.below (bl_alloc (bl_alloc (bl_alloc (Below.refl _ _) _) _) _)) hn (by simp only [maxLen]; omega) (by omega) (by simp) ?_); intro A' c' w2 hown hg hat; simp only [Nat.zero_add, List.nil_append] at hown hat; obtain ⟨HB, K0, K1, hA⟩ := after2 hg hat; obtain ⟨_, _, _, _, _, _, _, _, _, _⟩ := Blk.all6 K0; obtain ⟨_, _, _, _, _, _, _, _, _, _⟩ := Blk.all6 K1) | fail)
  have KF : Blk _ (w.heap.size + 1) #[.int .i64 s, .int .i64 st, .int .i64 nx, .int .i64 g, .int .i64 sl, .slice A' n c'] _ := blk_set (blk_set (blk_set (blk_set (blk_set (blk_set (K1.far (p := ⟨w.heap.size, 5, none⟩) (by simp) (.slice A' n c')) 0 (.int .i64 s)) 1 (.int .i64 st)) 2 (.int .i64 nx)) 3 (.int .i64 g)) 4 (.int .i64 sl)) 5 (.slice A' n c')
  obtain ⟨d0, d1, d2, d3, d4, d5, _⟩ := Blk.all6 KF
  have HO := (own_of hown hn (by omega) hl.2.2).mono (base' := w.heap.size + 2) (by simp)
  exact bodyPost_ret (v := .agg #[.int .i64 s, .int .i64 st, .int .i64 nx, .int .i64 g, .int .i64 sl, .slice A' n c']) (by simp [results, Tryz.results55, go_sem, d0, d1, d2, d3, d4, d5]) rfl ⟨⟨A', c', rfl, by (refine Own.mono ?_ (show w.heap.size ≤ w.heap.size + 2 by omega)); (repeat (with_reducible refine Own.set ?_ (by dsimp only; omega) _)); exact HO⟩, (by repeat (with_reducible first | exact Below.refl _ _ | assumption | (refine bl_set ?_ (by omega)) | apply bl_alloc | apply bl_drewN | apply bl_drew | (refine bl_step ?_ (by assumption)) | fail))⟩
end Go.Proofs.YtalgfekpcklijaaGreat.Dv

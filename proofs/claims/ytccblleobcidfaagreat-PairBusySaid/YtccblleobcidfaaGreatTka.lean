/- Layer 18: ticks, cuts: what the program's Step, Cut answer. -/
import Derived.Test.YtccblleobcidfaaGreatGm
import Derived.Test.YtccblleobcidfaaGreatUpa
import Derived.Test.YtccblleobcidfaaGreatGy
namespace Go.Proofs.YtccblleobcidfaaGreat.Dv
open Go.RowKit Go.Proofs.YtccblleobcidfaaGreat.Kt Go.Proofs.YtccblleobcidfaaGreat.Lw Go.Proofs.YtccblleobcidfaaGreat.St Go.Proofs.YtccblleobcidfaaGreat.Nm Go.Proofs.YtccblleobcidfaaGreat.Es Go.Proofs.YtccblleobcidfaaGreat.By Go.Proofs.YtccblleobcidfaaGreat.En Go.Proofs.YtccblleobcidfaaGreat.Jr Go.Proofs.YtccblleobcidfaaGreat.Im Go.Proofs.YtccblleobcidfaaGreat.Sl Go.Proofs.YtccblleobcidfaaGreat.Gr Go.Proofs.YtccblleobcidfaaGreat.Ops Go.Proofs.YtccblleobcidfaaGreat.Ch Go.Proofs.YtccblleobcidfaaGreat.Fl Go.Proofs.YtccblleobcidfaaGreat.Pl
set_option linter.unusedVariables false
set_option linter.unusedSimpArgs false
attribute [local irreducible] gotB goodB Cr.crcB nQ nS nZ nM placeB wholeB devMay
theorem works_c (g : Nat) (s : Int) (w : World) (hc : w.cell? ⟨g, 0, none⟩ = some (.int .i64 s)) : Calls Tryz.prog 139 #[.pointer (some ⟨g, 0, none⟩)] w fun e w' => e = .returned (.bool (s == 2 || s == 5)) ∧ w = w' := by
  go_enter Tryz.func139, Tryz.ntmps139
  go_wp2
  all_goals (go_ret; exact ⟨by simp_all, rfl⟩)
theorem own_some {w : World} {base : Nat} {A : Option Addr} {o : OpV} {os : List OpV} (h : Own w base A (o :: os)) : ∃ b off, A = some ⟨b, off, none⟩ ∧ base ≤ b ∧ b < w.heap.size := by
  rcases h.2 with e | ⟨g, off, e, h1, h2, _⟩
  · cases e
  · exact ⟨g, off, e, h1, h2⟩
theorem row_head {w : World} {b off : Nat} {o : OpV} {os : List OpV} (h : Row w (some ⟨b, off, none⟩) (o :: os)) : w.cell? ⟨b, off, none⟩ = some (.bool o.1) ∧ w.cell? ⟨b, off + 1, none⟩ = some (.int .i64 o.2.1) ∧ w.cell? ⟨b, off + 2, none⟩ = some (.string o.2.2) := by
  obtain ⟨b', off', x, e, _, hx, _, c0, c1, c2⟩ := h.at_ (j := 0) (by simp)
  simp only [List.getElem?_cons_zero, Option.some.injEq] at hx
  subst hx
  cases e
  simp only [Nat.zero_mul, Nat.add_zero] at c0 c1 c2
  exact ⟨c0, c1, c2⟩
theorem own_cap {w : World} {base k n c : Nat} {T : TypeId} {A : Option Addr} {xs : List Value} (h : w.ownsRow base T k (.slice A n c) n xs) : n ≤ c := by
  obtain ⟨_, h⟩ := h
  rcases h with ⟨e, h⟩ | ⟨g, cap, cur, e, _, _, h, _⟩
  · cases e
    omega
  · cases e
    exact h
set_option maxRecDepth 100000 in
set_option maxHeartbeats 1600000 in
theorem cclone_c (A : Option Addr) (c n : Nat) (xs : List OpV) (w : World) (hl : Row w A xs) (hn : xs.length = n) (hby : n * 32 ≤ 140737488355328) :
    Calls Tryz.prog 154 #[.slice A n c] w fun e w' => (∃ A' c', e = .returned (.slice A' n c') ∧ Own w' w.heap.size A' xs ∧ n ≤ c') ∧ Below w.heap.size w w' := by
  obtain ⟨i0, hi0, hz0, hz1, hz2⟩ := info_parts op_info
  have q0 := fun (w : World) => Lib.run_eql_slice_nil (P := Tryz.prog) w 26 183 A n c 0 0 Tryz.underlying26
  cases A with
  | none =>
    have hx : xs = [] := by
      rcases hl.1 with h | ⟨b, off, h, _⟩
      · exact h
      · cases h
    subst hx
    have : n = 0 := by rw [← hn]; rfl
    subst this
    go_enter Tryz.func154, Tryz.ntmps154
    go_wp2
    exact bodyPost_ret (v := .slice none 0 0) (by simp [results, Tryz.results154, go_sem]) rfl ⟨⟨none, 0, rfl, Own.nil, Nat.le_refl _⟩, Below.refl _ _⟩
  | some a =>
    have HL := Lib.hid (hl.1.below (bl_alloc (Below.refl _ _) (.cells #[] 183)))
    have HO := Lib.hid hl.2.2
    have hl2 := hl.2.1
    clear hl
    go_enter Tryz.func154, Tryz.ntmps154
    go_wp2_with (first | (at_builtin; go_must (refine wpList_grow (k := 3) (enc := encOp) (xs := xs) rfl _ _ 26 rfl _ w.heap.size 183 i0 _ 32 Tryz.underlying26 hi0 hz0 hz1 hz2 rfl (by decide) encOp_len encOp_one (.slice (some ⟨w.heap.size, 0, none⟩) 0 0) rfl 0 [] (own_lit0 _ _) (some a) n c rfl HL.out hn (by simp only [maxLen]; omega) (by omega) (by simp) ?_); intro A' c' w2 hown hg hat; simp only [Nat.zero_add, List.nil_append] at hown hat) | fail)
    refine bodyPost_ret (v := .slice A' n c') (by simp [results, Tryz.results154, go_sem]) rfl ?_
    refine ⟨⟨A', c', rfl, own_of hown hn (by omega) HO.out, own_cap hown⟩, bl_grown (bl_alloc (Below.refl _ _) _) hg (fun g h => ?_)⟩
    have : w.heap.size = g := by simpa [Value.ownBlock] using h
    omega
set_option maxRecDepth 100000 in
set_option maxHeartbeats 1600000 in
theorem ccopy_c (d : DS) (A : Option Addr) (c n : Nat) (w : World) (hl : Row w A d.ops) (hn : d.ops.length = n) (hby : n * 32 ≤ 140737488355328) :
    Calls Tryz.prog 85 #[(.agg #[.int .i64 d.st, .int .i64 d.su, .int .i64 d.nx, .int .i64 d.go, .int .i64 d.sl, .slice A n c])] w fun e w' => (∃ A' c', e = .returned (.agg #[.int .i64 d.st, .int .i64 d.su, .int .i64 d.nx, .int .i64 d.go, .int .i64 d.sl, .slice A' n c']) ∧ Own w' w.heap.size A' d.ops ∧ n ≤ c') ∧ Below w.heap.size w w' := by
  obtain ⟨s, st, nx, g, sl, xs⟩ := d
  simp only at hl hn ⊢
  have HB := Below.refl w.heap.size w
  have K0 := Blk.new w #[.int .i64 s, .int .i64 st, .int .i64 nx, .int .i64 g, .int .i64 sl, .slice A n c] 28
  have K1 := fun cs0 => Blk.new1 w (.cells cs0 28) #[.int .i64 0, .int .i64 0, .int .i64 0, .int .i64 0, .int .i64 0, .slice none 0 0] 28
  have cc := Lib.hid (fun W (h : Below w.heap.size w W) => cclone_c A c n xs W (hl.below h) hn hby)
  clear hl
  go_enter Tryz.func85, Tryz.ntmps85
  go_wp2_with (first | (go_at_call 154; (with_reducible refine (cc.out _ zq1).mono ?_); rintro e w2 ⟨⟨A', c', rfl, HO, hcap⟩, hb⟩; have HO := HO.mono (base' := w.heap.size + 2) (by simp); have HB := bl_step (w := w) zq0 hb; have hzB := HB.size; have K0 := Blk.on zq3 zq5 hb; (try clear cK0_0 cK0_1 cK0_2 cK0_3 cK0_4 cK0_5 fK0 lK0 nK0 mK0); obtain ⟨cK0_0, cK0_1, cK0_2, cK0_3, cK0_4, cK0_5, fK0, lK0, nK0, mK0⟩ := Blk.all6 K0; have K1 := Blk.on zq6 zq12 hb; (try clear cK1_0 cK1_1 cK1_2 cK1_3 cK1_4 cK1_5 fK1 lK1 nK1 mK1); obtain ⟨cK1_0, cK1_1, cK1_2, cK1_3, cK1_4, cK1_5, fK1, lK1, nK1, mK1⟩ := Blk.all6 K1) | fail)
  exact bodyPost_ret (v := .agg #[.int .i64 s, .int .i64 st, .int .i64 nx, .int .i64 g, .int .i64 sl, .slice A' n c']) (by simp [results, Tryz.results85, go_sem, *]) rfl ⟨⟨A', c', rfl, (by (refine Own.mono ?_ (show w.heap.size ≤ w.heap.size + 2 by omega)); (repeat (with_reducible refine Own.set ?_ (by dsimp only; omega) _)); exact HO), hcap⟩, zq1⟩
theorem OwnT.nil {w : World} {base top : Nat} {A : Option Addr} : OwnT w base top A [] := ⟨Own.nil, .inl rfl⟩
theorem OwnT.tail {w : World} {base top : Nat} {x : OpV} {xs : List OpV} {g off : Nat} (h : OwnT w base top (some ⟨g, off, none⟩) (x :: xs)) : OwnT w base top (some ⟨g, off + 3, none⟩) xs := by
  refine ⟨h.1.tail (A := none), .inr ⟨g, off + 3, rfl, ?_⟩⟩
  rcases h.2 with e | ⟨g', off', e, h1⟩
  · cases e
  · cases e
    exact h1
theorem letter {M : World → Prop} {W : World} {F : World → Prop} (hF : F W) (h : ∀ X, F X → M X) : M W := h W hF
theorem body_tick {P : Program} {f : Func} {Q : Ending → World → Prop} {e : Exit} {a : Act} {w W : World} {g1 b : Nat} {cs1 : Array Value} {t1 : TypeId} {A : Option Addr} {xs : List OpV} (L1 : Blk W g1 cs1 t1) (O : Own W b A xs) (B : Below w.heap.size w W)
    (h : ∀ W', Blk W' g1 cs1 t1 → Own W' b A xs → Below w.heap.size w W' → bodyPost P f Q e a W') : bodyPost P f Q e a W := h W L1 O B
set_option maxRecDepth 100000 in
set_option maxHeartbeats 12800000 in
theorem tstep_i (f : ByteArray) (s st nx g sl : Int) (xs : List OpV) (A : Option Addr) (c n : Nat) (w : World) (h : f.size ≤ 9223372036854775807) (hl : Row w A xs) (hn : xs.length = n) (hb : f.size = 768) (hm : devMay s st nx g sl xs = true ∧ n ≤ 768) (hw : (s == 2 || s == 5) = false) : Calls Tryz.prog 73 #[.string f, .agg #[.int .i64 s, .int .i64 st, .int .i64 nx, .int .i64 g, .int .i64 sl, .slice A n c]] w (FlashE w f ⟨s, st, nx, g, sl, xs⟩ 0) := by
  have HB := Below.refl w.heap.size w
  have K0 := Blk.new w #[.int .i64 s, .int .i64 st, .int .i64 nx, .int .i64 g, .int .i64 sl, .slice A n c] 28
  have K1 := fun cs0 => Blk.new1 w (.cells cs0 28) #[.int .i64 0, .int .i64 0, .int .i64 0, .int .i64 0, .int .i64 0, .slice none 0 0] 28
  have mm := Lib.hid (fun W : World => may_c f W h)
  have dm := Lib.hid (fun W (h : Below w.heap.size w W) => devMay_c s st nx g sl A c n xs W (hl.below h) hn)
  rw [decide_eq_true hb] at mm
  rw [hm.1] at dm
  have cp := Lib.hid (fun W (h : Below w.heap.size w W) => ccopy_c ⟨s, st, nx, g, sl, xs⟩ A c n W (hl.below h) hn (by omega))
  simp only at cp
  have HN := Lib.hid hn
  have hm2 := hm.2
  clear hb hm hl hn h
  go_enter Tryz.func73, Tryz.ntmps73
  go_upto_region 4 with (first | (go_at_call 76; with_reducible refine (mm.out _).mono ?_; rintro e w' ⟨rfl, rfl⟩) | (go_at_call 104; with_reducible refine (dm.out _ zq1).mono ?_; rintro e w' ⟨rfl, hb⟩; have HB := bl_step (w := w) zq0 hb; have hzB := HB.size; have K0 := Blk.on zq3 zq5 hb; (try clear cK0_0 cK0_1 cK0_2 cK0_3 cK0_4 cK0_5 fK0 lK0 nK0 mK0); obtain ⟨cK0_0, cK0_1, cK0_2, cK0_3, cK0_4, cK0_5, fK0, lK0, nK0, mK0⟩ := Blk.all6 K0; have K1 := Blk.on zq6 zq12 hb; (try clear cK1_0 cK1_1 cK1_2 cK1_3 cK1_4 cK1_5 fK1 lK1 nK1 mK1); obtain ⟨cK1_0, cK1_1, cK1_2, cK1_3, cK1_4, cK1_5, fK1, lK1, nK1, mK1⟩ := Blk.all6 K1) | (go_at_call 85; (with_reducible refine (cp.out _ zq1).mono ?_); rintro e w2 ⟨⟨A', c', rfl, HO, hcap⟩, hb⟩; have HO := HO.mono (base' := w.heap.size + 2) (by first | omega | (simp; done) | (simp; omega)); have hg2 : w.heap.size + 2 ≤ w2.heap.size := (by have := hb.size; first | omega | (simp at this; omega)); have HB := bl_step (w := w) zq0 hb; have hzB := HB.size; have K0 := Blk.on zq3 zq5 hb; (try clear cK0_0 cK0_1 cK0_2 cK0_3 cK0_4 cK0_5 fK0 lK0 nK0 mK0); obtain ⟨cK0_0, cK0_1, cK0_2, cK0_3, cK0_4, cK0_5, fK0, lK0, nK0, mK0⟩ := Blk.all6 K0; have K1 := Blk.on zq6 zq12 hb; (try clear cK1_0 cK1_1 cK1_2 cK1_3 cK1_4 cK1_5 fK1 lK1 nK1 mK1); obtain ⟨cK1_0, cK1_1, cK1_2, cK1_3, cK1_4, cK1_5, fK1, lK1, nK1, mK1⟩ := Blk.all6 K1; have K2 := fun cs => Blk.new w2 cs 28) | fail)
  have HO2 := HO.top
  have hz2 : w2.heap.size = w2.heap.size := rfl
  obtain ⟨g3, hg3⟩ : ∃ g3, w2.heap.size = g3 := ⟨_, rfl⟩
  rw [hg3] at HO2 hg2
  simp only [hg3] at K2 ⊢
  refine letter (M := fun X => Code.wp _ _ _ _ X) (F := fun X => Blk X w.heap.size #[.int .i64 s, .int .i64 st, .int .i64 nx, .int .i64 g, .int .i64 sl, .slice A n c] 28 ∧ Blk X (w.heap.size + 1) #[.int .i64 0, .int .i64 0, .int .i64 0, .int .i64 0, .int .i64 0, .slice none 0 0] 28 ∧ Blk X g3 #[.int .i64 (s), .int .i64 (st), .int .i64 (nx), .int .i64 (g), .int .i64 (sl), .slice A' n c'] 28 ∧ OwnT X (w.heap.size + 2) g3 A' xs ∧ Below w.heap.size w X) ⟨(by repeat (with_reducible first | exact K0 | exact K0 _ | exact K0 _ _ | apply Blk.alloc | apply Blk.drew | apply Blk.set6_0 | apply Blk.set6_1 | apply Blk.set6_2 | apply Blk.set6_3 | apply Blk.set6_4 | apply Blk.set6_5 | (apply Blk.off; (first | assumption | omega | (simp; omega))) | fail)), zq24, (by repeat (with_reducible first | exact K2 | exact K2 _ | exact K2 _ _ | apply Blk.alloc | apply Blk.drew | apply Blk.set6_0 | apply Blk.set6_1 | apply Blk.set6_2 | apply Blk.set6_3 | apply Blk.set6_4 | apply Blk.set6_5 | (apply Blk.off; (first | assumption | omega | (simp; omega))) | fail)), (by repeat (with_reducible first | exact HO2 | (refine OwnT.set ?_ (by dsimp only; omega) _) | (refine OwnT.alloc ?_ _) | (refine OwnT.drewn ?_) | fail)), zq1⟩ ?_
  rintro wz ⟨K0, K1, K2, HO2, HB⟩
  obtain ⟨cK0_0, cK0_1, cK0_2, cK0_3, cK0_4, cK0_5, fK0, lK0, nK0, mK0⟩ := Blk.all6 K0
  obtain ⟨cK1_0, cK1_1, cK1_2, cK1_3, cK1_4, cK1_5, fK1, lK1, nK1, mK1⟩ := Blk.all6 K1
  obtain ⟨cK2_0, cK2_1, cK2_2, cK2_3, cK2_4, cK2_5, fK2, lK2, nK2, mK2⟩ := Blk.all6 K2
  have z1 : g3 ≠ w.heap.size := by omega
  have z2 : g3 ≠ w.heap.size + 1 := by omega
  have z3 : w.heap.size ≠ g3 := by omega
  have z4 : w.heap.size + 1 ≠ g3 := by omega
  have wk := Lib.hid (fun W hc => works_c g3 s W hc)
  rw [hw] at wk
  go_upto_region 5 with (first | (go_at_call 139; with_reducible refine (wk.out _ cK2_0).mono ?_; rintro e w' ⟨rfl, rfl⟩) | fail)
  have HC : wz.cell? ⟨g3, 0, none⟩ = some (.int .i64 (s)) ∧ wz.cell? ⟨g3, 1, none⟩ = some (.int .i64 (st)) ∧ wz.cell? ⟨g3, 2, none⟩ = some (.int .i64 (nx)) ∧ wz.cell? ⟨g3, 3, none⟩ = some (.int .i64 (g)) ∧ wz.cell? ⟨g3, 4, none⟩ = some (.int .i64 (sl)) ∧ wz.cell? ⟨g3, 5, none⟩ = some (.slice A' n c') := ⟨cK2_0, cK2_1, cK2_2, cK2_3, cK2_4, cK2_5⟩
  go_region_held3 (fun W => W.cell? ⟨g3, 0, none⟩ = some (.int .i64 (s)) ∧ W.cell? ⟨g3, 1, none⟩ = some (.int .i64 (st)) ∧ W.cell? ⟨g3, 2, none⟩ = some (.int .i64 (nx)) ∧ W.cell? ⟨g3, 3, none⟩ = some (.int .i64 (g)) ∧ W.cell? ⟨g3, 4, none⟩ = some (.int .i64 (sl)) ∧ W.cell? ⟨g3, 5, none⟩ = some (.slice A' n c')) (first | ((repeat (with_reducible first | exact HC | (refine drew6 ?_) | (refine far6 rfl (by assumption) ?_) | fail)); done) | fail) (fail)
  all_goals (go_wp2_with fail; refine body_tick (g1 := w.heap.size + 1) (cs1 := #[.int .i64 (s), .int .i64 (st), .int .i64 (nx), .int .i64 (g), .int .i64 (sl), .slice A' n c']) (t1 := 28) (b := w.heap.size) (A := A') (xs := xs) (w := w) zq24 (by (refine Own.mono (base := w.heap.size + 2) ?_ (by omega)); refine OwnT.own (top := g3) ?_; (repeat (with_reducible first | exact HO2 | (refine OwnT.set ?_ (by dsimp only; omega) _) | (refine OwnT.alloc ?_ _) | (refine OwnT.drewn ?_) | (refine OwnT.below ?_ (by assumption)) | fail))) zq1 ?_; intro wf L1 HOf HBf; obtain ⟨e0, e1, e2, e3, e4, e5, _⟩ := Blk.all6 L1; exact bodyPost_ret (v := .tuple #[.string f, .agg #[.int .i64 (s), .int .i64 (st), .int .i64 (nx), .int .i64 (g), .int .i64 (sl), .slice A' n c'], .int .i64 0]) (by simp [results, Tryz.results73, go_sem, e0, e1, e2, e3, e4, e5]) rfl ⟨⟨A', n, c', rfl, HN.out, HOf⟩, HBf⟩)
set_option maxRecDepth 100000 in
set_option maxHeartbeats 12800000 in
theorem tstep_w5 (f : ByteArray) (s st nx g sl : Int) (xs : List OpV) (A : Option Addr) (c n : Nat) (w : World) (h : f.size ≤ 9223372036854775807) (hl : Row w A xs) (hn : xs.length = n) (hb : f.size = 768) (hm : devMay s st nx g sl xs = true ∧ n ≤ 768) (hx : xs = []) (hs : s = 5) : Calls Tryz.prog 73 #[.string f, .agg #[.int .i64 s, .int .i64 st, .int .i64 nx, .int .i64 g, .int .i64 sl, .slice A n c]] w (FlashE w f DS.zero 0) := by
  have HB := Below.refl w.heap.size w
  have K0 := Blk.new w #[.int .i64 s, .int .i64 st, .int .i64 nx, .int .i64 g, .int .i64 sl, .slice A n c] 28
  have K1 := fun cs0 => Blk.new1 w (.cells cs0 28) #[.int .i64 0, .int .i64 0, .int .i64 0, .int .i64 0, .int .i64 0, .slice none 0 0] 28
  have mm := Lib.hid (fun W : World => may_c f W h)
  have dm := Lib.hid (fun W (h : Below w.heap.size w W) => devMay_c s st nx g sl A c n xs W (hl.below h) hn)
  rw [decide_eq_true hb] at mm
  rw [hm.1] at dm
  have cp := Lib.hid (fun W (h : Below w.heap.size w W) => ccopy_c ⟨s, st, nx, g, sl, xs⟩ A c n W (hl.below h) hn (by omega))
  simp only at cp
  have HN := Lib.hid hn
  have hm2 := hm.2
  subst hs
  subst hx
  obtain rfl : n = 0 := hn.symm
  clear hb hm hl hn h
  go_enter Tryz.func73, Tryz.ntmps73
  go_upto_region 4 with (first | (go_at_call 76; with_reducible refine (mm.out _).mono ?_; rintro e w' ⟨rfl, rfl⟩) | (go_at_call 104; with_reducible refine (dm.out _ zq1).mono ?_; rintro e w' ⟨rfl, hb⟩; have HB := bl_step (w := w) zq0 hb; have hzB := HB.size; have K0 := Blk.on zq3 zq5 hb; (try clear cK0_0 cK0_1 cK0_2 cK0_3 cK0_4 cK0_5 fK0 lK0 nK0 mK0); obtain ⟨cK0_0, cK0_1, cK0_2, cK0_3, cK0_4, cK0_5, fK0, lK0, nK0, mK0⟩ := Blk.all6 K0; have K1 := Blk.on zq6 zq12 hb; (try clear cK1_0 cK1_1 cK1_2 cK1_3 cK1_4 cK1_5 fK1 lK1 nK1 mK1); obtain ⟨cK1_0, cK1_1, cK1_2, cK1_3, cK1_4, cK1_5, fK1, lK1, nK1, mK1⟩ := Blk.all6 K1) | (go_at_call 85; (with_reducible refine (cp.out _ zq1).mono ?_); rintro e w2 ⟨⟨A', c', rfl, HO, hcap⟩, hb⟩; have HO := HO.mono (base' := w.heap.size + 2) (by first | omega | (simp; done) | (simp; omega)); have hg2 : w.heap.size + 2 ≤ w2.heap.size := (by have := hb.size; first | omega | (simp at this; omega)); have HB := bl_step (w := w) zq0 hb; have hzB := HB.size; have K0 := Blk.on zq3 zq5 hb; (try clear cK0_0 cK0_1 cK0_2 cK0_3 cK0_4 cK0_5 fK0 lK0 nK0 mK0); obtain ⟨cK0_0, cK0_1, cK0_2, cK0_3, cK0_4, cK0_5, fK0, lK0, nK0, mK0⟩ := Blk.all6 K0; have K1 := Blk.on zq6 zq12 hb; (try clear cK1_0 cK1_1 cK1_2 cK1_3 cK1_4 cK1_5 fK1 lK1 nK1 mK1); obtain ⟨cK1_0, cK1_1, cK1_2, cK1_3, cK1_4, cK1_5, fK1, lK1, nK1, mK1⟩ := Blk.all6 K1; have K2 := fun cs => Blk.new w2 cs 28) | fail)
  have HO2 := HO.top
  have hz2 : w2.heap.size = w2.heap.size := rfl
  obtain ⟨g3, hg3⟩ : ∃ g3, w2.heap.size = g3 := ⟨_, rfl⟩
  rw [hg3] at HO2 hg2
  simp only [hg3] at K2 ⊢
  refine letter (M := fun X => Code.wp _ _ _ _ X) (F := fun X => Blk X w.heap.size #[.int .i64 5, .int .i64 st, .int .i64 nx, .int .i64 g, .int .i64 sl, .slice A 0 c] 28 ∧ Blk X (w.heap.size + 1) #[.int .i64 0, .int .i64 0, .int .i64 0, .int .i64 0, .int .i64 0, .slice none 0 0] 28 ∧ Blk X g3 #[.int .i64 (5), .int .i64 (st), .int .i64 (nx), .int .i64 (g), .int .i64 (sl), .slice A' 0 c'] 28 ∧ OwnT X (w.heap.size + 2) g3 A' [] ∧ Below w.heap.size w X) ⟨(by repeat (with_reducible first | exact K0 | exact K0 _ | exact K0 _ _ | apply Blk.alloc | apply Blk.drew | apply Blk.set6_0 | apply Blk.set6_1 | apply Blk.set6_2 | apply Blk.set6_3 | apply Blk.set6_4 | apply Blk.set6_5 | (apply Blk.off; (first | assumption | omega | (simp; omega))) | fail)), zq24, (by repeat (with_reducible first | exact K2 | exact K2 _ | exact K2 _ _ | apply Blk.alloc | apply Blk.drew | apply Blk.set6_0 | apply Blk.set6_1 | apply Blk.set6_2 | apply Blk.set6_3 | apply Blk.set6_4 | apply Blk.set6_5 | (apply Blk.off; (first | assumption | omega | (simp; omega))) | fail)), (by repeat (with_reducible first | exact HO2 | (refine OwnT.set ?_ (by dsimp only; omega) _) | (refine OwnT.alloc ?_ _) | (refine OwnT.drewn ?_) | fail)), zq1⟩ ?_
  rintro wz ⟨K0, K1, K2, HO2, HB⟩
  obtain ⟨cK0_0, cK0_1, cK0_2, cK0_3, cK0_4, cK0_5, fK0, lK0, nK0, mK0⟩ := Blk.all6 K0
  obtain ⟨cK1_0, cK1_1, cK1_2, cK1_3, cK1_4, cK1_5, fK1, lK1, nK1, mK1⟩ := Blk.all6 K1
  obtain ⟨cK2_0, cK2_1, cK2_2, cK2_3, cK2_4, cK2_5, fK2, lK2, nK2, mK2⟩ := Blk.all6 K2
  have z1 : g3 ≠ w.heap.size := by omega
  have z2 : g3 ≠ w.heap.size + 1 := by omega
  have z3 : w.heap.size ≠ g3 := by omega
  have z4 : w.heap.size + 1 ≠ g3 := by omega
  have wk := Lib.hid (fun W hc => works_c g3 5 W hc)
  go_upto_region 13 with (first | (go_at_call 139; with_reducible refine (wk.out _ cK2_0).mono ?_; rintro e w' ⟨rfl, rfl⟩) | (go_at_call 78; with_reducible refine (new_c _).mono ?_; rintro e w5 ⟨rfl, hb⟩; have HO2 := OwnT.below (base := w.heap.size + 2) (top := g3) (by repeat (with_reducible first | exact HO2 | (refine OwnT.set ?_ (by dsimp only; omega) _) | (refine OwnT.alloc ?_ _) | (refine OwnT.drewn ?_) | fail)) hb; have HB := bl_step (w := w) zq0 hb; have hzB := HB.size; have K0 := Blk.on zq3 zq5 hb; (try clear cK0_0 cK0_1 cK0_2 cK0_3 cK0_4 cK0_5 fK0 lK0 nK0 mK0); obtain ⟨cK0_0, cK0_1, cK0_2, cK0_3, cK0_4, cK0_5, fK0, lK0, nK0, mK0⟩ := Blk.all6 K0; have K1 := Blk.on zq6 zq12 hb; (try clear cK1_0 cK1_1 cK1_2 cK1_3 cK1_4 cK1_5 fK1 lK1 nK1 mK1); obtain ⟨cK1_0, cK1_1, cK1_2, cK1_3, cK1_4, cK1_5, fK1, lK1, nK1, mK1⟩ := Blk.all6 K1; have K2 := Blk.on zq15 zq32 hb; (try clear cK2_0 cK2_1 cK2_2 cK2_3 cK2_4 cK2_5 fK2 lK2 nK2 mK2); obtain ⟨cK2_0, cK2_1, cK2_2, cK2_3, cK2_4, cK2_5, fK2, lK2, nK2, mK2⟩ := Blk.all6 K2) | fail)
  refine letter (M := fun X => Code.wp _ _ _ _ X) (F := fun X => Blk X w.heap.size #[.int .i64 5, .int .i64 st, .int .i64 nx, .int .i64 g, .int .i64 sl, .slice A 0 c] 28 ∧ Blk X (w.heap.size + 1) #[.int .i64 0, .int .i64 0, .int .i64 0, .int .i64 0, .int .i64 0, .slice none 0 0] 28 ∧ Blk X g3 #[.int .i64 0, .int .i64 0, .int .i64 0, .int .i64 0, .int .i64 0, .slice none 0 0] 28 ∧ OwnT X (w.heap.size + 2) g3 A' [] ∧ Below w.heap.size w X) ⟨(by repeat (with_reducible first | exact K0 | exact K0 _ | exact K0 _ _ | apply Blk.alloc | apply Blk.drew | apply Blk.set6_0 | apply Blk.set6_1 | apply Blk.set6_2 | apply Blk.set6_3 | apply Blk.set6_4 | apply Blk.set6_5 | (apply Blk.off; (first | assumption | omega | (simp; omega))) | fail)), zq24, (by repeat (with_reducible first | exact K2 | exact K2 _ | exact K2 _ _ | apply Blk.alloc | apply Blk.drew | apply Blk.set6_0 | apply Blk.set6_1 | apply Blk.set6_2 | apply Blk.set6_3 | apply Blk.set6_4 | apply Blk.set6_5 | (apply Blk.off; (first | assumption | omega | (simp; omega))) | fail)), (by repeat (with_reducible first | exact HO2 | (refine OwnT.set ?_ (by dsimp only; omega) _) | (refine OwnT.alloc ?_ _) | (refine OwnT.drewn ?_) | fail)), zq1⟩ ?_
  rintro wz ⟨K0, K1, K2, HO2, HB⟩
  obtain ⟨cK0_0, cK0_1, cK0_2, cK0_3, cK0_4, cK0_5, fK0, lK0, nK0, mK0⟩ := Blk.all6 K0
  obtain ⟨cK1_0, cK1_1, cK1_2, cK1_3, cK1_4, cK1_5, fK1, lK1, nK1, mK1⟩ := Blk.all6 K1
  obtain ⟨cK2_0, cK2_1, cK2_2, cK2_3, cK2_4, cK2_5, fK2, lK2, nK2, mK2⟩ := Blk.all6 K2
  have HC : wz.cell? ⟨g3, 0, none⟩ = some (.int .i64 0) ∧ wz.cell? ⟨g3, 1, none⟩ = some (.int .i64 0) ∧ wz.cell? ⟨g3, 2, none⟩ = some (.int .i64 0) ∧ wz.cell? ⟨g3, 3, none⟩ = some (.int .i64 0) ∧ wz.cell? ⟨g3, 4, none⟩ = some (.int .i64 0) ∧ wz.cell? ⟨g3, 5, none⟩ = some (.slice none 0 0) := ⟨cK2_0, cK2_1, cK2_2, cK2_3, cK2_4, cK2_5⟩
  go_region_held3 (fun W => W.cell? ⟨g3, 0, none⟩ = some (.int .i64 0) ∧ W.cell? ⟨g3, 1, none⟩ = some (.int .i64 0) ∧ W.cell? ⟨g3, 2, none⟩ = some (.int .i64 0) ∧ W.cell? ⟨g3, 3, none⟩ = some (.int .i64 0) ∧ W.cell? ⟨g3, 4, none⟩ = some (.int .i64 0) ∧ W.cell? ⟨g3, 5, none⟩ = some (.slice none 0 0)) (first | ((repeat (with_reducible first | exact HC | (refine drew6 ?_) | (refine far6 rfl (by assumption) ?_) | fail)); done) | fail) (fail)
  all_goals (go_wp2_with fail; refine body_tick (g1 := w.heap.size + 1) (cs1 := #[.int .i64 0, .int .i64 0, .int .i64 0, .int .i64 0, .int .i64 0, .slice none 0 0]) (t1 := 28) (b := w.heap.size) (A := none) (xs := []) (w := w) zq24 Own.nil zq1 ?_; intro wf L1 HOf HBf; obtain ⟨e0, e1, e2, e3, e4, e5, _⟩ := Blk.all6 L1; exact bodyPost_ret (v := .tuple #[.string f, .agg #[.int .i64 0, .int .i64 0, .int .i64 0, .int .i64 0, .int .i64 0, .slice none 0 0], .int .i64 0]) (by simp [results, Tryz.results73, go_sem, e0, e1, e2, e3, e4, e5]) rfl ⟨⟨none, 0, 0, rfl, rfl, HOf⟩, HBf⟩)
set_option maxRecDepth 100000 in
set_option maxHeartbeats 12800000 in
theorem tstep_w2 (f : ByteArray) (s st nx g sl : Int) (xs : List OpV) (A : Option Addr) (c n : Nat) (w : World) (h : f.size ≤ 9223372036854775807) (hl : Row w A xs) (hn : xs.length = n) (hb : f.size = 768) (hm : devMay s st nx g sl xs = true ∧ n ≤ 768) (hx : xs = []) (hs : s = 2) : Calls Tryz.prog 73 #[.string f, .agg #[.int .i64 s, .int .i64 st, .int .i64 nx, .int .i64 g, .int .i64 sl, .slice A n c]] w (FlashE w f ⟨1, st, nx, g, sl, []⟩ 0) := by
  have HB := Below.refl w.heap.size w
  have K0 := Blk.new w #[.int .i64 s, .int .i64 st, .int .i64 nx, .int .i64 g, .int .i64 sl, .slice A n c] 28
  have K1 := fun cs0 => Blk.new1 w (.cells cs0 28) #[.int .i64 0, .int .i64 0, .int .i64 0, .int .i64 0, .int .i64 0, .slice none 0 0] 28
  have mm := Lib.hid (fun W : World => may_c f W h)
  have dm := Lib.hid (fun W (h : Below w.heap.size w W) => devMay_c s st nx g sl A c n xs W (hl.below h) hn)
  rw [decide_eq_true hb] at mm
  rw [hm.1] at dm
  have cp := Lib.hid (fun W (h : Below w.heap.size w W) => ccopy_c ⟨s, st, nx, g, sl, xs⟩ A c n W (hl.below h) hn (by omega))
  simp only at cp
  have HN := Lib.hid hn
  have hm2 := hm.2
  subst hs
  subst hx
  obtain rfl : n = 0 := hn.symm
  clear hb hm hl hn h
  go_enter Tryz.func73, Tryz.ntmps73
  go_upto_region 4 with (first | (go_at_call 76; with_reducible refine (mm.out _).mono ?_; rintro e w' ⟨rfl, rfl⟩) | (go_at_call 104; with_reducible refine (dm.out _ zq1).mono ?_; rintro e w' ⟨rfl, hb⟩; have HB := bl_step (w := w) zq0 hb; have hzB := HB.size; have K0 := Blk.on zq3 zq5 hb; (try clear cK0_0 cK0_1 cK0_2 cK0_3 cK0_4 cK0_5 fK0 lK0 nK0 mK0); obtain ⟨cK0_0, cK0_1, cK0_2, cK0_3, cK0_4, cK0_5, fK0, lK0, nK0, mK0⟩ := Blk.all6 K0; have K1 := Blk.on zq6 zq12 hb; (try clear cK1_0 cK1_1 cK1_2 cK1_3 cK1_4 cK1_5 fK1 lK1 nK1 mK1); obtain ⟨cK1_0, cK1_1, cK1_2, cK1_3, cK1_4, cK1_5, fK1, lK1, nK1, mK1⟩ := Blk.all6 K1) | (go_at_call 85; (with_reducible refine (cp.out _ zq1).mono ?_); rintro e w2 ⟨⟨A', c', rfl, HO, hcap⟩, hb⟩; have HO := HO.mono (base' := w.heap.size + 2) (by first | omega | (simp; done) | (simp; omega)); have hg2 : w.heap.size + 2 ≤ w2.heap.size := (by have := hb.size; first | omega | (simp at this; omega)); have HB := bl_step (w := w) zq0 hb; have hzB := HB.size; have K0 := Blk.on zq3 zq5 hb; (try clear cK0_0 cK0_1 cK0_2 cK0_3 cK0_4 cK0_5 fK0 lK0 nK0 mK0); obtain ⟨cK0_0, cK0_1, cK0_2, cK0_3, cK0_4, cK0_5, fK0, lK0, nK0, mK0⟩ := Blk.all6 K0; have K1 := Blk.on zq6 zq12 hb; (try clear cK1_0 cK1_1 cK1_2 cK1_3 cK1_4 cK1_5 fK1 lK1 nK1 mK1); obtain ⟨cK1_0, cK1_1, cK1_2, cK1_3, cK1_4, cK1_5, fK1, lK1, nK1, mK1⟩ := Blk.all6 K1; have K2 := fun cs => Blk.new w2 cs 28) | fail)
  have HO2 := HO.top
  have hz2 : w2.heap.size = w2.heap.size := rfl
  obtain ⟨g3, hg3⟩ : ∃ g3, w2.heap.size = g3 := ⟨_, rfl⟩
  rw [hg3] at HO2 hg2
  simp only [hg3] at K2 ⊢
  refine letter (M := fun X => Code.wp _ _ _ _ X) (F := fun X => Blk X w.heap.size #[.int .i64 2, .int .i64 st, .int .i64 nx, .int .i64 g, .int .i64 sl, .slice A 0 c] 28 ∧ Blk X (w.heap.size + 1) #[.int .i64 0, .int .i64 0, .int .i64 0, .int .i64 0, .int .i64 0, .slice none 0 0] 28 ∧ Blk X g3 #[.int .i64 (2), .int .i64 (st), .int .i64 (nx), .int .i64 (g), .int .i64 (sl), .slice A' 0 c'] 28 ∧ OwnT X (w.heap.size + 2) g3 A' [] ∧ Below w.heap.size w X) ⟨(by repeat (with_reducible first | exact K0 | exact K0 _ | exact K0 _ _ | apply Blk.alloc | apply Blk.drew | apply Blk.set6_0 | apply Blk.set6_1 | apply Blk.set6_2 | apply Blk.set6_3 | apply Blk.set6_4 | apply Blk.set6_5 | (apply Blk.off; (first | assumption | omega | (simp; omega))) | fail)), zq24, (by repeat (with_reducible first | exact K2 | exact K2 _ | exact K2 _ _ | apply Blk.alloc | apply Blk.drew | apply Blk.set6_0 | apply Blk.set6_1 | apply Blk.set6_2 | apply Blk.set6_3 | apply Blk.set6_4 | apply Blk.set6_5 | (apply Blk.off; (first | assumption | omega | (simp; omega))) | fail)), (by repeat (with_reducible first | exact HO2 | (refine OwnT.set ?_ (by dsimp only; omega) _) | (refine OwnT.alloc ?_ _) | (refine OwnT.drewn ?_) | fail)), zq1⟩ ?_
  rintro wz ⟨K0, K1, K2, HO2, HB⟩
  obtain ⟨cK0_0, cK0_1, cK0_2, cK0_3, cK0_4, cK0_5, fK0, lK0, nK0, mK0⟩ := Blk.all6 K0
  obtain ⟨cK1_0, cK1_1, cK1_2, cK1_3, cK1_4, cK1_5, fK1, lK1, nK1, mK1⟩ := Blk.all6 K1
  obtain ⟨cK2_0, cK2_1, cK2_2, cK2_3, cK2_4, cK2_5, fK2, lK2, nK2, mK2⟩ := Blk.all6 K2
  have z1 : g3 ≠ w.heap.size := by omega
  have z2 : g3 ≠ w.heap.size + 1 := by omega
  have z3 : w.heap.size ≠ g3 := by omega
  have z4 : w.heap.size + 1 ≠ g3 := by omega
  have wk := Lib.hid (fun W hc => works_c g3 2 W hc)
  go_upto_region 13 with (first | (go_at_call 139; with_reducible refine (wk.out _ cK2_0).mono ?_; rintro e w' ⟨rfl, rfl⟩) | (go_at_call 78; with_reducible refine (new_c _).mono ?_; rintro e w5 ⟨rfl, hb⟩; have HO2 := OwnT.below (base := w.heap.size + 2) (top := g3) (by repeat (with_reducible first | exact HO2 | (refine OwnT.set ?_ (by dsimp only; omega) _) | (refine OwnT.alloc ?_ _) | (refine OwnT.drewn ?_) | fail)) hb; have HB := bl_step (w := w) zq0 hb; have hzB := HB.size; have K0 := Blk.on zq3 zq5 hb; (try clear cK0_0 cK0_1 cK0_2 cK0_3 cK0_4 cK0_5 fK0 lK0 nK0 mK0); obtain ⟨cK0_0, cK0_1, cK0_2, cK0_3, cK0_4, cK0_5, fK0, lK0, nK0, mK0⟩ := Blk.all6 K0; have K1 := Blk.on zq6 zq12 hb; (try clear cK1_0 cK1_1 cK1_2 cK1_3 cK1_4 cK1_5 fK1 lK1 nK1 mK1); obtain ⟨cK1_0, cK1_1, cK1_2, cK1_3, cK1_4, cK1_5, fK1, lK1, nK1, mK1⟩ := Blk.all6 K1; have K2 := Blk.on zq15 zq32 hb; (try clear cK2_0 cK2_1 cK2_2 cK2_3 cK2_4 cK2_5 fK2 lK2 nK2 mK2); obtain ⟨cK2_0, cK2_1, cK2_2, cK2_3, cK2_4, cK2_5, fK2, lK2, nK2, mK2⟩ := Blk.all6 K2) | fail)
  refine letter (M := fun X => Code.wp _ _ _ _ X) (F := fun X => Blk X w.heap.size #[.int .i64 2, .int .i64 st, .int .i64 nx, .int .i64 g, .int .i64 sl, .slice A 0 c] 28 ∧ Blk X (w.heap.size + 1) #[.int .i64 0, .int .i64 0, .int .i64 0, .int .i64 0, .int .i64 0, .slice none 0 0] 28 ∧ Blk X g3 #[.int .i64 (1), .int .i64 (st), .int .i64 (nx), .int .i64 (g), .int .i64 (sl), .slice A' 0 c'] 28 ∧ OwnT X (w.heap.size + 2) g3 A' [] ∧ Below w.heap.size w X) ⟨(by repeat (with_reducible first | exact K0 | exact K0 _ | exact K0 _ _ | apply Blk.alloc | apply Blk.drew | apply Blk.set6_0 | apply Blk.set6_1 | apply Blk.set6_2 | apply Blk.set6_3 | apply Blk.set6_4 | apply Blk.set6_5 | (apply Blk.off; (first | assumption | omega | (simp; omega))) | fail)), zq24, (by repeat (with_reducible first | exact K2 | exact K2 _ | exact K2 _ _ | apply Blk.alloc | apply Blk.drew | apply Blk.set6_0 | apply Blk.set6_1 | apply Blk.set6_2 | apply Blk.set6_3 | apply Blk.set6_4 | apply Blk.set6_5 | (apply Blk.off; (first | assumption | omega | (simp; omega))) | fail)), (by repeat (with_reducible first | exact HO2 | (refine OwnT.set ?_ (by dsimp only; omega) _) | (refine OwnT.alloc ?_ _) | (refine OwnT.drewn ?_) | fail)), zq1⟩ ?_
  rintro wz ⟨K0, K1, K2, HO2, HB⟩
  obtain ⟨cK0_0, cK0_1, cK0_2, cK0_3, cK0_4, cK0_5, fK0, lK0, nK0, mK0⟩ := Blk.all6 K0
  obtain ⟨cK1_0, cK1_1, cK1_2, cK1_3, cK1_4, cK1_5, fK1, lK1, nK1, mK1⟩ := Blk.all6 K1
  obtain ⟨cK2_0, cK2_1, cK2_2, cK2_3, cK2_4, cK2_5, fK2, lK2, nK2, mK2⟩ := Blk.all6 K2
  have HC : wz.cell? ⟨g3, 0, none⟩ = some (.int .i64 (1)) ∧ wz.cell? ⟨g3, 1, none⟩ = some (.int .i64 (st)) ∧ wz.cell? ⟨g3, 2, none⟩ = some (.int .i64 (nx)) ∧ wz.cell? ⟨g3, 3, none⟩ = some (.int .i64 (g)) ∧ wz.cell? ⟨g3, 4, none⟩ = some (.int .i64 (sl)) ∧ wz.cell? ⟨g3, 5, none⟩ = some (.slice A' 0 c') := ⟨cK2_0, cK2_1, cK2_2, cK2_3, cK2_4, cK2_5⟩
  go_region_held3 (fun W => W.cell? ⟨g3, 0, none⟩ = some (.int .i64 (1)) ∧ W.cell? ⟨g3, 1, none⟩ = some (.int .i64 (st)) ∧ W.cell? ⟨g3, 2, none⟩ = some (.int .i64 (nx)) ∧ W.cell? ⟨g3, 3, none⟩ = some (.int .i64 (g)) ∧ W.cell? ⟨g3, 4, none⟩ = some (.int .i64 (sl)) ∧ W.cell? ⟨g3, 5, none⟩ = some (.slice A' 0 c')) (first | ((repeat (with_reducible first | exact HC | (refine drew6 ?_) | (refine far6 rfl (by assumption) ?_) | fail)); done) | fail) (fail)
  all_goals (go_wp2_with fail; refine body_tick (g1 := w.heap.size + 1) (cs1 := #[.int .i64 (1), .int .i64 (st), .int .i64 (nx), .int .i64 (g), .int .i64 (sl), .slice A' 0 c']) (t1 := 28) (b := w.heap.size) (A := A') (xs := []) (w := w) zq24 Own.nil zq1 ?_; intro wf L1 HOf HBf; obtain ⟨e0, e1, e2, e3, e4, e5, _⟩ := Blk.all6 L1; exact bodyPost_ret (v := .tuple #[.string f, .agg #[.int .i64 (1), .int .i64 (st), .int .i64 (nx), .int .i64 (g), .int .i64 (sl), .slice A' 0 c'], .int .i64 0]) (by simp [results, Tryz.results73, go_sem, e0, e1, e2, e3, e4, e5]) rfl ⟨⟨A', 0, c', rfl, rfl, HOf⟩, HBf⟩)
set_option maxRecDepth 100000 in
set_option maxHeartbeats 12800000 in
theorem tstep_s5 (f : ByteArray) (s st nx g sl : Int) (xs : List OpV) (A : Option Addr) (c n : Nat) (w : World) (h : f.size ≤ 9223372036854775807) (hl : Row w A xs) (hn : xs.length = n) (hb : f.size = 768) (hm : devMay s st nx g sl xs = true ∧ n ≤ 768) (hs : s = 5) (o : OpV) (os : List OpV) (hx : xs = o :: os) (ho : opMay o = true ∧ OpOk o) (hy : os = []) : Calls Tryz.prog 73 #[.string f, .agg #[.int .i64 s, .int .i64 st, .int .i64 nx, .int .i64 g, .int .i64 sl, .slice A n c]] w (FlashE w (doB f o) DS.zero 0) := by
  have HB := Below.refl w.heap.size w
  have K0 := Blk.new w #[.int .i64 s, .int .i64 st, .int .i64 nx, .int .i64 g, .int .i64 sl, .slice A n c] 28
  have K1 := fun cs0 => Blk.new1 w (.cells cs0 28) #[.int .i64 0, .int .i64 0, .int .i64 0, .int .i64 0, .int .i64 0, .slice none 0 0] 28
  have mm := Lib.hid (fun W : World => may_c f W h)
  have dm := Lib.hid (fun W (h : Below w.heap.size w W) => devMay_c s st nx g sl A c n xs W (hl.below h) hn)
  rw [decide_eq_true hb] at mm
  rw [hm.1] at dm
  have cp := Lib.hid (fun W (h : Below w.heap.size w W) => ccopy_c ⟨s, st, nx, g, sl, xs⟩ A c n W (hl.below h) hn (by omega))
  simp only at cp
  have HN := Lib.hid hn
  subst hs
  have hm2 := hm.2
  subst hx
  obtain ⟨m, rfl⟩ : ∃ m, n = m + 1 := ⟨os.length, by rw [← hn]; rfl⟩
  have hmo : os.length = m := by simpa using hn
  have HM := Lib.hid hmo
  have dd := Lib.hid (fun W => doo_c f o W hb ho.1 ho.2)
  have hlo : (1 : Int) ≤ ((m : Nat) : Int) + 1 := by omega
  subst hy
  obtain rfl : m = 0 := hmo.symm
  clear hb hm hl hn h hmo ho
  generalize doB f o = F at *
  go_enter Tryz.func73, Tryz.ntmps73
  go_upto_region 4 with (first | (go_at_call 76; with_reducible refine (mm.out _).mono ?_; rintro e w' ⟨rfl, rfl⟩) | (go_at_call 104; with_reducible refine (dm.out _ zq1).mono ?_; rintro e w' ⟨rfl, hb⟩; have HB := bl_step (w := w) zq0 hb; have hzB := HB.size; have K0 := Blk.on zq3 zq5 hb; (try clear cK0_0 cK0_1 cK0_2 cK0_3 cK0_4 cK0_5 fK0 lK0 nK0 mK0); obtain ⟨cK0_0, cK0_1, cK0_2, cK0_3, cK0_4, cK0_5, fK0, lK0, nK0, mK0⟩ := Blk.all6 K0; have K1 := Blk.on zq6 zq12 hb; (try clear cK1_0 cK1_1 cK1_2 cK1_3 cK1_4 cK1_5 fK1 lK1 nK1 mK1); obtain ⟨cK1_0, cK1_1, cK1_2, cK1_3, cK1_4, cK1_5, fK1, lK1, nK1, mK1⟩ := Blk.all6 K1) | (go_at_call 85; (with_reducible refine (cp.out _ zq1).mono ?_); rintro e w2 ⟨⟨A', c', rfl, HO, hcap⟩, hb⟩; obtain ⟨b, off, rfl, hb1, hb2⟩ := own_some HO; have HO := HO.mono (base' := w.heap.size + 2) (by first | omega | (simp; done) | (simp; omega)); have hg2 : w.heap.size + 2 ≤ w2.heap.size := (by have := hb.size; first | omega | (simp at this; omega)); have HB := bl_step (w := w) zq0 hb; have hzB := HB.size; have K0 := Blk.on zq3 zq5 hb; (try clear cK0_0 cK0_1 cK0_2 cK0_3 cK0_4 cK0_5 fK0 lK0 nK0 mK0); obtain ⟨cK0_0, cK0_1, cK0_2, cK0_3, cK0_4, cK0_5, fK0, lK0, nK0, mK0⟩ := Blk.all6 K0; have K1 := Blk.on zq6 zq12 hb; (try clear cK1_0 cK1_1 cK1_2 cK1_3 cK1_4 cK1_5 fK1 lK1 nK1 mK1); obtain ⟨cK1_0, cK1_1, cK1_2, cK1_3, cK1_4, cK1_5, fK1, lK1, nK1, mK1⟩ := Blk.all6 K1; have K2 := fun cs => Blk.new w2 cs 28) | fail)
  have HO2 := HO.top
  have hz2 : w2.heap.size = w2.heap.size := rfl
  obtain ⟨g3, hg3⟩ : ∃ g3, w2.heap.size = g3 := ⟨_, rfl⟩
  rw [hg3] at HO2 hg2
  simp only [hg3] at K2 ⊢
  refine letter (M := fun X => Code.wp _ _ _ _ X) (F := fun X => Blk X w.heap.size #[.int .i64 5, .int .i64 st, .int .i64 nx, .int .i64 g, .int .i64 sl, .slice A (0 + 1) c] 28 ∧ Blk X (w.heap.size + 1) #[.int .i64 0, .int .i64 0, .int .i64 0, .int .i64 0, .int .i64 0, .slice none 0 0] 28 ∧ Blk X g3 #[.int .i64 (5), .int .i64 (st), .int .i64 (nx), .int .i64 (g), .int .i64 (sl), .slice (some ⟨b, off, none⟩) (0 + 1) c'] 28 ∧ OwnT X (w.heap.size + 2) g3 (some ⟨b, off, none⟩) (o :: []) ∧ Below w.heap.size w X) ⟨(by repeat (with_reducible first | exact K0 | exact K0 _ | exact K0 _ _ | apply Blk.alloc | apply Blk.drew | apply Blk.set6_0 | apply Blk.set6_1 | apply Blk.set6_2 | apply Blk.set6_3 | apply Blk.set6_4 | apply Blk.set6_5 | (apply Blk.off; (first | assumption | omega | (simp; omega))) | fail)), zq24, (by repeat (with_reducible first | exact K2 | exact K2 _ | exact K2 _ _ | apply Blk.alloc | apply Blk.drew | apply Blk.set6_0 | apply Blk.set6_1 | apply Blk.set6_2 | apply Blk.set6_3 | apply Blk.set6_4 | apply Blk.set6_5 | (apply Blk.off; (first | assumption | omega | (simp; omega))) | fail)), (by repeat (with_reducible first | exact HO2 | (refine OwnT.set ?_ (by dsimp only; omega) _) | (refine OwnT.alloc ?_ _) | (refine OwnT.drewn ?_) | fail)), zq1⟩ ?_
  rintro wz ⟨K0, K1, K2, HO2, HB⟩
  obtain ⟨cK0_0, cK0_1, cK0_2, cK0_3, cK0_4, cK0_5, fK0, lK0, nK0, mK0⟩ := Blk.all6 K0
  obtain ⟨cK1_0, cK1_1, cK1_2, cK1_3, cK1_4, cK1_5, fK1, lK1, nK1, mK1⟩ := Blk.all6 K1
  obtain ⟨cK2_0, cK2_1, cK2_2, cK2_3, cK2_4, cK2_5, fK2, lK2, nK2, mK2⟩ := Blk.all6 K2
  have z1 : g3 ≠ w.heap.size := by omega
  have z2 : g3 ≠ w.heap.size + 1 := by omega
  have z3 : w.heap.size ≠ g3 := by omega
  have z4 : w.heap.size + 1 ≠ g3 := by omega
  have wk := Lib.hid (fun W hc => works_c g3 5 W hc)
  obtain ⟨q0, q1, q2⟩ := row_head HO2.1.1
  rcases Nat.eq_or_lt_of_le hcap with hc1 | hc1
  · obtain rfl : c' = 1 := hc1.symm
    go_upto_region 13 with (first | (go_at_call 139; with_reducible refine (wk.out _ cK2_0).mono ?_; rintro e w' ⟨rfl, rfl⟩) | (go_at_call 140; with_reducible refine (dd.out _).mono ?_; rintro e w4 ⟨rfl, hb⟩; have HB := bl_step (w := w) zq0 hb; have hzB := HB.size; have K0 := Blk.on zq3 zq5 hb; (try clear cK0_0 cK0_1 cK0_2 cK0_3 cK0_4 cK0_5 fK0 lK0 nK0 mK0); obtain ⟨cK0_0, cK0_1, cK0_2, cK0_3, cK0_4, cK0_5, fK0, lK0, nK0, mK0⟩ := Blk.all6 K0; have K1 := Blk.on zq6 zq12 hb; (try clear cK1_0 cK1_1 cK1_2 cK1_3 cK1_4 cK1_5 fK1 lK1 nK1 mK1); obtain ⟨cK1_0, cK1_1, cK1_2, cK1_3, cK1_4, cK1_5, fK1, lK1, nK1, mK1⟩ := Blk.all6 K1; have K2 := Blk.on zq15 zq32 hb; (try clear cK2_0 cK2_1 cK2_2 cK2_3 cK2_4 cK2_5 fK2 lK2 nK2 mK2); obtain ⟨cK2_0, cK2_1, cK2_2, cK2_3, cK2_4, cK2_5, fK2, lK2, nK2, mK2⟩ := Blk.all6 K2) | (go_at_call 78; with_reducible refine (new_c _).mono ?_; rintro e w5 ⟨rfl, hb⟩; have HB := bl_step (w := w) zq0 hb; have hzB := HB.size; have K0 := Blk.on zq3 zq5 hb; (try clear cK0_0 cK0_1 cK0_2 cK0_3 cK0_4 cK0_5 fK0 lK0 nK0 mK0); obtain ⟨cK0_0, cK0_1, cK0_2, cK0_3, cK0_4, cK0_5, fK0, lK0, nK0, mK0⟩ := Blk.all6 K0; have K1 := Blk.on zq6 zq12 hb; (try clear cK1_0 cK1_1 cK1_2 cK1_3 cK1_4 cK1_5 fK1 lK1 nK1 mK1); obtain ⟨cK1_0, cK1_1, cK1_2, cK1_3, cK1_4, cK1_5, fK1, lK1, nK1, mK1⟩ := Blk.all6 K1; have K2 := Blk.on zq15 zq32 hb; (try clear cK2_0 cK2_1 cK2_2 cK2_3 cK2_4 cK2_5 fK2 lK2 nK2 mK2); obtain ⟨cK2_0, cK2_1, cK2_2, cK2_3, cK2_4, cK2_5, fK2, lK2, nK2, mK2⟩ := Blk.all6 K2) | fail)
    refine letter (M := fun X => Code.wp _ _ _ _ X) (F := fun X => Blk X w.heap.size #[.int .i64 5, .int .i64 st, .int .i64 nx, .int .i64 g, .int .i64 sl, .slice A (0 + 1) c] 28 ∧ Blk X (w.heap.size + 1) #[.int .i64 0, .int .i64 0, .int .i64 0, .int .i64 0, .int .i64 0, .slice none 0 0] 28 ∧ Blk X g3 #[.int .i64 0, .int .i64 0, .int .i64 0, .int .i64 0, .int .i64 0, .slice none 0 0] 28 ∧ OwnT X (w.heap.size + 2) g3 (some ⟨b, off, none⟩) [] ∧ Below w.heap.size w X) ⟨(by repeat (with_reducible first | exact K0 | exact K0 _ | exact K0 _ _ | apply Blk.alloc | apply Blk.drew | apply Blk.set6_0 | apply Blk.set6_1 | apply Blk.set6_2 | apply Blk.set6_3 | apply Blk.set6_4 | apply Blk.set6_5 | (apply Blk.off; (first | assumption | omega | (simp; omega))) | fail)), zq24, (by repeat (with_reducible first | exact K2 | exact K2 _ | exact K2 _ _ | apply Blk.alloc | apply Blk.drew | apply Blk.set6_0 | apply Blk.set6_1 | apply Blk.set6_2 | apply Blk.set6_3 | apply Blk.set6_4 | apply Blk.set6_5 | (apply Blk.off; (first | assumption | omega | (simp; omega))) | fail)), OwnT.nil, zq1⟩ ?_
    rintro wz ⟨K0, K1, K2, HO2, HB⟩
    obtain ⟨cK0_0, cK0_1, cK0_2, cK0_3, cK0_4, cK0_5, fK0, lK0, nK0, mK0⟩ := Blk.all6 K0
    obtain ⟨cK1_0, cK1_1, cK1_2, cK1_3, cK1_4, cK1_5, fK1, lK1, nK1, mK1⟩ := Blk.all6 K1
    obtain ⟨cK2_0, cK2_1, cK2_2, cK2_3, cK2_4, cK2_5, fK2, lK2, nK2, mK2⟩ := Blk.all6 K2
    have HC : wz.cell? ⟨g3, 0, none⟩ = some (.int .i64 0) ∧ wz.cell? ⟨g3, 1, none⟩ = some (.int .i64 0) ∧ wz.cell? ⟨g3, 2, none⟩ = some (.int .i64 0) ∧ wz.cell? ⟨g3, 3, none⟩ = some (.int .i64 0) ∧ wz.cell? ⟨g3, 4, none⟩ = some (.int .i64 0) ∧ wz.cell? ⟨g3, 5, none⟩ = some (.slice none 0 0) := ⟨cK2_0, cK2_1, cK2_2, cK2_3, cK2_4, cK2_5⟩
    go_region_held3 (fun W => W.cell? ⟨g3, 0, none⟩ = some (.int .i64 0) ∧ W.cell? ⟨g3, 1, none⟩ = some (.int .i64 0) ∧ W.cell? ⟨g3, 2, none⟩ = some (.int .i64 0) ∧ W.cell? ⟨g3, 3, none⟩ = some (.int .i64 0) ∧ W.cell? ⟨g3, 4, none⟩ = some (.int .i64 0) ∧ W.cell? ⟨g3, 5, none⟩ = some (.slice none 0 0)) (first | ((repeat (with_reducible first | exact HC | (refine drew6 ?_) | (refine far6 rfl (by assumption) ?_) | fail)); done) | fail) (fail)
    all_goals (go_wp2_with fail; refine body_tick (g1 := w.heap.size + 1) (cs1 := #[.int .i64 0, .int .i64 0, .int .i64 0, .int .i64 0, .int .i64 0, .slice none 0 0]) (t1 := 28) (b := w.heap.size) (A := none) (xs := []) (w := w) zq24 Own.nil zq1 ?_; intro wf L1 HOf HBf; obtain ⟨e0, e1, e2, e3, e4, e5, _⟩ := Blk.all6 L1; exact bodyPost_ret (v := .tuple #[.string F, .agg #[.int .i64 0, .int .i64 0, .int .i64 0, .int .i64 0, .int .i64 0, .slice none 0 0], .int .i64 0]) (by simp [results, Tryz.results73, go_sem, e0, e1, e2, e3, e4, e5]) rfl ⟨⟨none, 0, 0, rfl, rfl, HOf⟩, HBf⟩)
  · have hc2 : ¬ c' = 1 := by omega
    go_upto_region 13 with (first | (go_at_call 139; with_reducible refine (wk.out _ cK2_0).mono ?_; rintro e w' ⟨rfl, rfl⟩) | (go_at_call 140; with_reducible refine (dd.out _).mono ?_; rintro e w4 ⟨rfl, hb⟩; have HB := bl_step (w := w) zq0 hb; have hzB := HB.size; have K0 := Blk.on zq3 zq5 hb; (try clear cK0_0 cK0_1 cK0_2 cK0_3 cK0_4 cK0_5 fK0 lK0 nK0 mK0); obtain ⟨cK0_0, cK0_1, cK0_2, cK0_3, cK0_4, cK0_5, fK0, lK0, nK0, mK0⟩ := Blk.all6 K0; have K1 := Blk.on zq6 zq12 hb; (try clear cK1_0 cK1_1 cK1_2 cK1_3 cK1_4 cK1_5 fK1 lK1 nK1 mK1); obtain ⟨cK1_0, cK1_1, cK1_2, cK1_3, cK1_4, cK1_5, fK1, lK1, nK1, mK1⟩ := Blk.all6 K1; have K2 := Blk.on zq15 zq32 hb; (try clear cK2_0 cK2_1 cK2_2 cK2_3 cK2_4 cK2_5 fK2 lK2 nK2 mK2); obtain ⟨cK2_0, cK2_1, cK2_2, cK2_3, cK2_4, cK2_5, fK2, lK2, nK2, mK2⟩ := Blk.all6 K2) | (go_at_call 78; with_reducible refine (new_c _).mono ?_; rintro e w5 ⟨rfl, hb⟩; have HB := bl_step (w := w) zq0 hb; have hzB := HB.size; have K0 := Blk.on zq3 zq5 hb; (try clear cK0_0 cK0_1 cK0_2 cK0_3 cK0_4 cK0_5 fK0 lK0 nK0 mK0); obtain ⟨cK0_0, cK0_1, cK0_2, cK0_3, cK0_4, cK0_5, fK0, lK0, nK0, mK0⟩ := Blk.all6 K0; have K1 := Blk.on zq6 zq12 hb; (try clear cK1_0 cK1_1 cK1_2 cK1_3 cK1_4 cK1_5 fK1 lK1 nK1 mK1); obtain ⟨cK1_0, cK1_1, cK1_2, cK1_3, cK1_4, cK1_5, fK1, lK1, nK1, mK1⟩ := Blk.all6 K1; have K2 := Blk.on zq15 zq32 hb; (try clear cK2_0 cK2_1 cK2_2 cK2_3 cK2_4 cK2_5 fK2 lK2 nK2 mK2); obtain ⟨cK2_0, cK2_1, cK2_2, cK2_3, cK2_4, cK2_5, fK2, lK2, nK2, mK2⟩ := Blk.all6 K2) | fail)
    refine letter (M := fun X => Code.wp _ _ _ _ X) (F := fun X => Blk X w.heap.size #[.int .i64 5, .int .i64 st, .int .i64 nx, .int .i64 g, .int .i64 sl, .slice A (0 + 1) c] 28 ∧ Blk X (w.heap.size + 1) #[.int .i64 0, .int .i64 0, .int .i64 0, .int .i64 0, .int .i64 0, .slice none 0 0] 28 ∧ Blk X g3 #[.int .i64 0, .int .i64 0, .int .i64 0, .int .i64 0, .int .i64 0, .slice none 0 0] 28 ∧ OwnT X (w.heap.size + 2) g3 (some ⟨b, off + 3, none⟩) [] ∧ Below w.heap.size w X) ⟨(by repeat (with_reducible first | exact K0 | exact K0 _ | exact K0 _ _ | apply Blk.alloc | apply Blk.drew | apply Blk.set6_0 | apply Blk.set6_1 | apply Blk.set6_2 | apply Blk.set6_3 | apply Blk.set6_4 | apply Blk.set6_5 | (apply Blk.off; (first | assumption | omega | (simp; omega))) | fail)), zq24, (by repeat (with_reducible first | exact K2 | exact K2 _ | exact K2 _ _ | apply Blk.alloc | apply Blk.drew | apply Blk.set6_0 | apply Blk.set6_1 | apply Blk.set6_2 | apply Blk.set6_3 | apply Blk.set6_4 | apply Blk.set6_5 | (apply Blk.off; (first | assumption | omega | (simp; omega))) | fail)), OwnT.nil, zq1⟩ ?_
    rintro wz ⟨K0, K1, K2, HO2, HB⟩
    obtain ⟨cK0_0, cK0_1, cK0_2, cK0_3, cK0_4, cK0_5, fK0, lK0, nK0, mK0⟩ := Blk.all6 K0
    obtain ⟨cK1_0, cK1_1, cK1_2, cK1_3, cK1_4, cK1_5, fK1, lK1, nK1, mK1⟩ := Blk.all6 K1
    obtain ⟨cK2_0, cK2_1, cK2_2, cK2_3, cK2_4, cK2_5, fK2, lK2, nK2, mK2⟩ := Blk.all6 K2
    have HC : wz.cell? ⟨g3, 0, none⟩ = some (.int .i64 0) ∧ wz.cell? ⟨g3, 1, none⟩ = some (.int .i64 0) ∧ wz.cell? ⟨g3, 2, none⟩ = some (.int .i64 0) ∧ wz.cell? ⟨g3, 3, none⟩ = some (.int .i64 0) ∧ wz.cell? ⟨g3, 4, none⟩ = some (.int .i64 0) ∧ wz.cell? ⟨g3, 5, none⟩ = some (.slice none 0 0) := ⟨cK2_0, cK2_1, cK2_2, cK2_3, cK2_4, cK2_5⟩
    go_region_held3 (fun W => W.cell? ⟨g3, 0, none⟩ = some (.int .i64 0) ∧ W.cell? ⟨g3, 1, none⟩ = some (.int .i64 0) ∧ W.cell? ⟨g3, 2, none⟩ = some (.int .i64 0) ∧ W.cell? ⟨g3, 3, none⟩ = some (.int .i64 0) ∧ W.cell? ⟨g3, 4, none⟩ = some (.int .i64 0) ∧ W.cell? ⟨g3, 5, none⟩ = some (.slice none 0 0)) (first | ((repeat (with_reducible first | exact HC | (refine drew6 ?_) | (refine far6 rfl (by assumption) ?_) | fail)); done) | fail) (fail)
    all_goals (go_wp2_with fail; refine body_tick (g1 := w.heap.size + 1) (cs1 := #[.int .i64 0, .int .i64 0, .int .i64 0, .int .i64 0, .int .i64 0, .slice none 0 0]) (t1 := 28) (b := w.heap.size) (A := none) (xs := []) (w := w) zq24 Own.nil zq1 ?_; intro wf L1 HOf HBf; obtain ⟨e0, e1, e2, e3, e4, e5, _⟩ := Blk.all6 L1; exact bodyPost_ret (v := .tuple #[.string F, .agg #[.int .i64 0, .int .i64 0, .int .i64 0, .int .i64 0, .int .i64 0, .slice none 0 0], .int .i64 0]) (by simp [results, Tryz.results73, go_sem, e0, e1, e2, e3, e4, e5]) rfl ⟨⟨none, 0, 0, rfl, rfl, HOf⟩, HBf⟩)
set_option maxRecDepth 100000 in
set_option maxHeartbeats 12800000 in
theorem tstep_s2 (f : ByteArray) (s st nx g sl : Int) (xs : List OpV) (A : Option Addr) (c n : Nat) (w : World) (h : f.size ≤ 9223372036854775807) (hl : Row w A xs) (hn : xs.length = n) (hb : f.size = 768) (hm : devMay s st nx g sl xs = true ∧ n ≤ 768) (hs : s = 2) (o : OpV) (os : List OpV) (hx : xs = o :: os) (ho : opMay o = true ∧ OpOk o) (hy : os = []) : Calls Tryz.prog 73 #[.string f, .agg #[.int .i64 s, .int .i64 st, .int .i64 nx, .int .i64 g, .int .i64 sl, .slice A n c]] w (FlashE w (doB f o) ⟨1, st, nx, g, sl, []⟩ 0) := by
  have HB := Below.refl w.heap.size w
  have K0 := Blk.new w #[.int .i64 s, .int .i64 st, .int .i64 nx, .int .i64 g, .int .i64 sl, .slice A n c] 28
  have K1 := fun cs0 => Blk.new1 w (.cells cs0 28) #[.int .i64 0, .int .i64 0, .int .i64 0, .int .i64 0, .int .i64 0, .slice none 0 0] 28
  have mm := Lib.hid (fun W : World => may_c f W h)
  have dm := Lib.hid (fun W (h : Below w.heap.size w W) => devMay_c s st nx g sl A c n xs W (hl.below h) hn)
  rw [decide_eq_true hb] at mm
  rw [hm.1] at dm
  have cp := Lib.hid (fun W (h : Below w.heap.size w W) => ccopy_c ⟨s, st, nx, g, sl, xs⟩ A c n W (hl.below h) hn (by omega))
  simp only at cp
  have HN := Lib.hid hn
  subst hs
  have hm2 := hm.2
  subst hx
  obtain ⟨m, rfl⟩ : ∃ m, n = m + 1 := ⟨os.length, by rw [← hn]; rfl⟩
  have hmo : os.length = m := by simpa using hn
  have HM := Lib.hid hmo
  have dd := Lib.hid (fun W => doo_c f o W hb ho.1 ho.2)
  have hlo : (1 : Int) ≤ ((m : Nat) : Int) + 1 := by omega
  subst hy
  obtain rfl : m = 0 := hmo.symm
  clear hb hm hl hn h hmo ho
  generalize doB f o = F at *
  go_enter Tryz.func73, Tryz.ntmps73
  go_upto_region 4 with (first | (go_at_call 76; with_reducible refine (mm.out _).mono ?_; rintro e w' ⟨rfl, rfl⟩) | (go_at_call 104; with_reducible refine (dm.out _ zq1).mono ?_; rintro e w' ⟨rfl, hb⟩; have HB := bl_step (w := w) zq0 hb; have hzB := HB.size; have K0 := Blk.on zq3 zq5 hb; (try clear cK0_0 cK0_1 cK0_2 cK0_3 cK0_4 cK0_5 fK0 lK0 nK0 mK0); obtain ⟨cK0_0, cK0_1, cK0_2, cK0_3, cK0_4, cK0_5, fK0, lK0, nK0, mK0⟩ := Blk.all6 K0; have K1 := Blk.on zq6 zq12 hb; (try clear cK1_0 cK1_1 cK1_2 cK1_3 cK1_4 cK1_5 fK1 lK1 nK1 mK1); obtain ⟨cK1_0, cK1_1, cK1_2, cK1_3, cK1_4, cK1_5, fK1, lK1, nK1, mK1⟩ := Blk.all6 K1) | (go_at_call 85; (with_reducible refine (cp.out _ zq1).mono ?_); rintro e w2 ⟨⟨A', c', rfl, HO, hcap⟩, hb⟩; obtain ⟨b, off, rfl, hb1, hb2⟩ := own_some HO; have HO := HO.mono (base' := w.heap.size + 2) (by first | omega | (simp; done) | (simp; omega)); have hg2 : w.heap.size + 2 ≤ w2.heap.size := (by have := hb.size; first | omega | (simp at this; omega)); have HB := bl_step (w := w) zq0 hb; have hzB := HB.size; have K0 := Blk.on zq3 zq5 hb; (try clear cK0_0 cK0_1 cK0_2 cK0_3 cK0_4 cK0_5 fK0 lK0 nK0 mK0); obtain ⟨cK0_0, cK0_1, cK0_2, cK0_3, cK0_4, cK0_5, fK0, lK0, nK0, mK0⟩ := Blk.all6 K0; have K1 := Blk.on zq6 zq12 hb; (try clear cK1_0 cK1_1 cK1_2 cK1_3 cK1_4 cK1_5 fK1 lK1 nK1 mK1); obtain ⟨cK1_0, cK1_1, cK1_2, cK1_3, cK1_4, cK1_5, fK1, lK1, nK1, mK1⟩ := Blk.all6 K1; have K2 := fun cs => Blk.new w2 cs 28) | fail)
  have HO2 := HO.top
  have hz2 : w2.heap.size = w2.heap.size := rfl
  obtain ⟨g3, hg3⟩ : ∃ g3, w2.heap.size = g3 := ⟨_, rfl⟩
  rw [hg3] at HO2 hg2
  simp only [hg3] at K2 ⊢
  refine letter (M := fun X => Code.wp _ _ _ _ X) (F := fun X => Blk X w.heap.size #[.int .i64 2, .int .i64 st, .int .i64 nx, .int .i64 g, .int .i64 sl, .slice A (0 + 1) c] 28 ∧ Blk X (w.heap.size + 1) #[.int .i64 0, .int .i64 0, .int .i64 0, .int .i64 0, .int .i64 0, .slice none 0 0] 28 ∧ Blk X g3 #[.int .i64 (2), .int .i64 (st), .int .i64 (nx), .int .i64 (g), .int .i64 (sl), .slice (some ⟨b, off, none⟩) (0 + 1) c'] 28 ∧ OwnT X (w.heap.size + 2) g3 (some ⟨b, off, none⟩) (o :: []) ∧ Below w.heap.size w X) ⟨(by repeat (with_reducible first | exact K0 | exact K0 _ | exact K0 _ _ | apply Blk.alloc | apply Blk.drew | apply Blk.set6_0 | apply Blk.set6_1 | apply Blk.set6_2 | apply Blk.set6_3 | apply Blk.set6_4 | apply Blk.set6_5 | (apply Blk.off; (first | assumption | omega | (simp; omega))) | fail)), zq24, (by repeat (with_reducible first | exact K2 | exact K2 _ | exact K2 _ _ | apply Blk.alloc | apply Blk.drew | apply Blk.set6_0 | apply Blk.set6_1 | apply Blk.set6_2 | apply Blk.set6_3 | apply Blk.set6_4 | apply Blk.set6_5 | (apply Blk.off; (first | assumption | omega | (simp; omega))) | fail)), (by repeat (with_reducible first | exact HO2 | (refine OwnT.set ?_ (by dsimp only; omega) _) | (refine OwnT.alloc ?_ _) | (refine OwnT.drewn ?_) | fail)), zq1⟩ ?_
  rintro wz ⟨K0, K1, K2, HO2, HB⟩
  obtain ⟨cK0_0, cK0_1, cK0_2, cK0_3, cK0_4, cK0_5, fK0, lK0, nK0, mK0⟩ := Blk.all6 K0
  obtain ⟨cK1_0, cK1_1, cK1_2, cK1_3, cK1_4, cK1_5, fK1, lK1, nK1, mK1⟩ := Blk.all6 K1
  obtain ⟨cK2_0, cK2_1, cK2_2, cK2_3, cK2_4, cK2_5, fK2, lK2, nK2, mK2⟩ := Blk.all6 K2
  have z1 : g3 ≠ w.heap.size := by omega
  have z2 : g3 ≠ w.heap.size + 1 := by omega
  have z3 : w.heap.size ≠ g3 := by omega
  have z4 : w.heap.size + 1 ≠ g3 := by omega
  have wk := Lib.hid (fun W hc => works_c g3 2 W hc)
  obtain ⟨q0, q1, q2⟩ := row_head HO2.1.1
  rcases Nat.eq_or_lt_of_le hcap with hc1 | hc1
  · obtain rfl : c' = 1 := hc1.symm
    go_upto_region 13 with (first | (go_at_call 139; with_reducible refine (wk.out _ cK2_0).mono ?_; rintro e w' ⟨rfl, rfl⟩) | (go_at_call 140; with_reducible refine (dd.out _).mono ?_; rintro e w4 ⟨rfl, hb⟩; have HB := bl_step (w := w) zq0 hb; have hzB := HB.size; have K0 := Blk.on zq3 zq5 hb; (try clear cK0_0 cK0_1 cK0_2 cK0_3 cK0_4 cK0_5 fK0 lK0 nK0 mK0); obtain ⟨cK0_0, cK0_1, cK0_2, cK0_3, cK0_4, cK0_5, fK0, lK0, nK0, mK0⟩ := Blk.all6 K0; have K1 := Blk.on zq6 zq12 hb; (try clear cK1_0 cK1_1 cK1_2 cK1_3 cK1_4 cK1_5 fK1 lK1 nK1 mK1); obtain ⟨cK1_0, cK1_1, cK1_2, cK1_3, cK1_4, cK1_5, fK1, lK1, nK1, mK1⟩ := Blk.all6 K1; have K2 := Blk.on zq15 zq32 hb; (try clear cK2_0 cK2_1 cK2_2 cK2_3 cK2_4 cK2_5 fK2 lK2 nK2 mK2); obtain ⟨cK2_0, cK2_1, cK2_2, cK2_3, cK2_4, cK2_5, fK2, lK2, nK2, mK2⟩ := Blk.all6 K2) | (go_at_call 78; with_reducible refine (new_c _).mono ?_; rintro e w5 ⟨rfl, hb⟩; have HB := bl_step (w := w) zq0 hb; have hzB := HB.size; have K0 := Blk.on zq3 zq5 hb; (try clear cK0_0 cK0_1 cK0_2 cK0_3 cK0_4 cK0_5 fK0 lK0 nK0 mK0); obtain ⟨cK0_0, cK0_1, cK0_2, cK0_3, cK0_4, cK0_5, fK0, lK0, nK0, mK0⟩ := Blk.all6 K0; have K1 := Blk.on zq6 zq12 hb; (try clear cK1_0 cK1_1 cK1_2 cK1_3 cK1_4 cK1_5 fK1 lK1 nK1 mK1); obtain ⟨cK1_0, cK1_1, cK1_2, cK1_3, cK1_4, cK1_5, fK1, lK1, nK1, mK1⟩ := Blk.all6 K1; have K2 := Blk.on zq15 zq32 hb; (try clear cK2_0 cK2_1 cK2_2 cK2_3 cK2_4 cK2_5 fK2 lK2 nK2 mK2); obtain ⟨cK2_0, cK2_1, cK2_2, cK2_3, cK2_4, cK2_5, fK2, lK2, nK2, mK2⟩ := Blk.all6 K2) | fail)
    refine letter (M := fun X => Code.wp _ _ _ _ X) (F := fun X => Blk X w.heap.size #[.int .i64 2, .int .i64 st, .int .i64 nx, .int .i64 g, .int .i64 sl, .slice A (0 + 1) c] 28 ∧ Blk X (w.heap.size + 1) #[.int .i64 0, .int .i64 0, .int .i64 0, .int .i64 0, .int .i64 0, .slice none 0 0] 28 ∧ Blk X g3 #[.int .i64 (1), .int .i64 (st), .int .i64 (nx), .int .i64 (g), .int .i64 (sl), .slice (some ⟨b, off, none⟩) 0 0] 28 ∧ OwnT X (w.heap.size + 2) g3 (some ⟨b, off, none⟩) [] ∧ Below w.heap.size w X) ⟨(by repeat (with_reducible first | exact K0 | exact K0 _ | exact K0 _ _ | apply Blk.alloc | apply Blk.drew | apply Blk.set6_0 | apply Blk.set6_1 | apply Blk.set6_2 | apply Blk.set6_3 | apply Blk.set6_4 | apply Blk.set6_5 | (apply Blk.off; (first | assumption | omega | (simp; omega))) | fail)), zq24, (by repeat (with_reducible first | exact K2 | exact K2 _ | exact K2 _ _ | apply Blk.alloc | apply Blk.drew | apply Blk.set6_0 | apply Blk.set6_1 | apply Blk.set6_2 | apply Blk.set6_3 | apply Blk.set6_4 | apply Blk.set6_5 | (apply Blk.off; (first | assumption | omega | (simp; omega))) | fail)), OwnT.nil, zq1⟩ ?_
    rintro wz ⟨K0, K1, K2, HO2, HB⟩
    obtain ⟨cK0_0, cK0_1, cK0_2, cK0_3, cK0_4, cK0_5, fK0, lK0, nK0, mK0⟩ := Blk.all6 K0
    obtain ⟨cK1_0, cK1_1, cK1_2, cK1_3, cK1_4, cK1_5, fK1, lK1, nK1, mK1⟩ := Blk.all6 K1
    obtain ⟨cK2_0, cK2_1, cK2_2, cK2_3, cK2_4, cK2_5, fK2, lK2, nK2, mK2⟩ := Blk.all6 K2
    have HC : wz.cell? ⟨g3, 0, none⟩ = some (.int .i64 (1)) ∧ wz.cell? ⟨g3, 1, none⟩ = some (.int .i64 (st)) ∧ wz.cell? ⟨g3, 2, none⟩ = some (.int .i64 (nx)) ∧ wz.cell? ⟨g3, 3, none⟩ = some (.int .i64 (g)) ∧ wz.cell? ⟨g3, 4, none⟩ = some (.int .i64 (sl)) ∧ wz.cell? ⟨g3, 5, none⟩ = some (.slice (some ⟨b, off, none⟩) 0 0) := ⟨cK2_0, cK2_1, cK2_2, cK2_3, cK2_4, cK2_5⟩
    go_region_held3 (fun W => W.cell? ⟨g3, 0, none⟩ = some (.int .i64 (1)) ∧ W.cell? ⟨g3, 1, none⟩ = some (.int .i64 (st)) ∧ W.cell? ⟨g3, 2, none⟩ = some (.int .i64 (nx)) ∧ W.cell? ⟨g3, 3, none⟩ = some (.int .i64 (g)) ∧ W.cell? ⟨g3, 4, none⟩ = some (.int .i64 (sl)) ∧ W.cell? ⟨g3, 5, none⟩ = some (.slice (some ⟨b, off, none⟩) 0 0)) (first | ((repeat (with_reducible first | exact HC | (refine drew6 ?_) | (refine far6 rfl (by assumption) ?_) | fail)); done) | fail) (fail)
    all_goals (go_wp2_with fail; refine body_tick (g1 := w.heap.size + 1) (cs1 := #[.int .i64 (1), .int .i64 (st), .int .i64 (nx), .int .i64 (g), .int .i64 (sl), .slice (some ⟨b, off, none⟩) 0 0]) (t1 := 28) (b := w.heap.size) (A := (some ⟨b, off, none⟩)) (xs := []) (w := w) zq24 Own.nil zq1 ?_; intro wf L1 HOf HBf; obtain ⟨e0, e1, e2, e3, e4, e5, _⟩ := Blk.all6 L1; exact bodyPost_ret (v := .tuple #[.string F, .agg #[.int .i64 (1), .int .i64 (st), .int .i64 (nx), .int .i64 (g), .int .i64 (sl), .slice (some ⟨b, off, none⟩) 0 0], .int .i64 0]) (by simp [results, Tryz.results73, go_sem, e0, e1, e2, e3, e4, e5]) rfl ⟨⟨(some ⟨b, off, none⟩), 0, 0, rfl, rfl, HOf⟩, HBf⟩)
  · have hc2 : ¬ c' = 1 := by omega
    go_upto_region 13 with (first | (go_at_call 139; with_reducible refine (wk.out _ cK2_0).mono ?_; rintro e w' ⟨rfl, rfl⟩) | (go_at_call 140; with_reducible refine (dd.out _).mono ?_; rintro e w4 ⟨rfl, hb⟩; have HB := bl_step (w := w) zq0 hb; have hzB := HB.size; have K0 := Blk.on zq3 zq5 hb; (try clear cK0_0 cK0_1 cK0_2 cK0_3 cK0_4 cK0_5 fK0 lK0 nK0 mK0); obtain ⟨cK0_0, cK0_1, cK0_2, cK0_3, cK0_4, cK0_5, fK0, lK0, nK0, mK0⟩ := Blk.all6 K0; have K1 := Blk.on zq6 zq12 hb; (try clear cK1_0 cK1_1 cK1_2 cK1_3 cK1_4 cK1_5 fK1 lK1 nK1 mK1); obtain ⟨cK1_0, cK1_1, cK1_2, cK1_3, cK1_4, cK1_5, fK1, lK1, nK1, mK1⟩ := Blk.all6 K1; have K2 := Blk.on zq15 zq32 hb; (try clear cK2_0 cK2_1 cK2_2 cK2_3 cK2_4 cK2_5 fK2 lK2 nK2 mK2); obtain ⟨cK2_0, cK2_1, cK2_2, cK2_3, cK2_4, cK2_5, fK2, lK2, nK2, mK2⟩ := Blk.all6 K2) | (go_at_call 78; with_reducible refine (new_c _).mono ?_; rintro e w5 ⟨rfl, hb⟩; have HB := bl_step (w := w) zq0 hb; have hzB := HB.size; have K0 := Blk.on zq3 zq5 hb; (try clear cK0_0 cK0_1 cK0_2 cK0_3 cK0_4 cK0_5 fK0 lK0 nK0 mK0); obtain ⟨cK0_0, cK0_1, cK0_2, cK0_3, cK0_4, cK0_5, fK0, lK0, nK0, mK0⟩ := Blk.all6 K0; have K1 := Blk.on zq6 zq12 hb; (try clear cK1_0 cK1_1 cK1_2 cK1_3 cK1_4 cK1_5 fK1 lK1 nK1 mK1); obtain ⟨cK1_0, cK1_1, cK1_2, cK1_3, cK1_4, cK1_5, fK1, lK1, nK1, mK1⟩ := Blk.all6 K1; have K2 := Blk.on zq15 zq32 hb; (try clear cK2_0 cK2_1 cK2_2 cK2_3 cK2_4 cK2_5 fK2 lK2 nK2 mK2); obtain ⟨cK2_0, cK2_1, cK2_2, cK2_3, cK2_4, cK2_5, fK2, lK2, nK2, mK2⟩ := Blk.all6 K2) | fail)
    refine letter (M := fun X => Code.wp _ _ _ _ X) (F := fun X => Blk X w.heap.size #[.int .i64 2, .int .i64 st, .int .i64 nx, .int .i64 g, .int .i64 sl, .slice A (0 + 1) c] 28 ∧ Blk X (w.heap.size + 1) #[.int .i64 0, .int .i64 0, .int .i64 0, .int .i64 0, .int .i64 0, .slice none 0 0] 28 ∧ Blk X g3 #[.int .i64 (1), .int .i64 (st), .int .i64 (nx), .int .i64 (g), .int .i64 (sl), .slice (some ⟨b, off + 3, none⟩) 0 (c' - 1)] 28 ∧ OwnT X (w.heap.size + 2) g3 (some ⟨b, off + 3, none⟩) [] ∧ Below w.heap.size w X) ⟨(by repeat (with_reducible first | exact K0 | exact K0 _ | exact K0 _ _ | apply Blk.alloc | apply Blk.drew | apply Blk.set6_0 | apply Blk.set6_1 | apply Blk.set6_2 | apply Blk.set6_3 | apply Blk.set6_4 | apply Blk.set6_5 | (apply Blk.off; (first | assumption | omega | (simp; omega))) | fail)), zq24, (by repeat (with_reducible first | exact K2 | exact K2 _ | exact K2 _ _ | apply Blk.alloc | apply Blk.drew | apply Blk.set6_0 | apply Blk.set6_1 | apply Blk.set6_2 | apply Blk.set6_3 | apply Blk.set6_4 | apply Blk.set6_5 | (apply Blk.off; (first | assumption | omega | (simp; omega))) | fail)), OwnT.nil, zq1⟩ ?_
    rintro wz ⟨K0, K1, K2, HO2, HB⟩
    obtain ⟨cK0_0, cK0_1, cK0_2, cK0_3, cK0_4, cK0_5, fK0, lK0, nK0, mK0⟩ := Blk.all6 K0
    obtain ⟨cK1_0, cK1_1, cK1_2, cK1_3, cK1_4, cK1_5, fK1, lK1, nK1, mK1⟩ := Blk.all6 K1
    obtain ⟨cK2_0, cK2_1, cK2_2, cK2_3, cK2_4, cK2_5, fK2, lK2, nK2, mK2⟩ := Blk.all6 K2
    have HC : wz.cell? ⟨g3, 0, none⟩ = some (.int .i64 (1)) ∧ wz.cell? ⟨g3, 1, none⟩ = some (.int .i64 (st)) ∧ wz.cell? ⟨g3, 2, none⟩ = some (.int .i64 (nx)) ∧ wz.cell? ⟨g3, 3, none⟩ = some (.int .i64 (g)) ∧ wz.cell? ⟨g3, 4, none⟩ = some (.int .i64 (sl)) ∧ wz.cell? ⟨g3, 5, none⟩ = some (.slice (some ⟨b, off + 3, none⟩) 0 (c' - 1)) := ⟨cK2_0, cK2_1, cK2_2, cK2_3, cK2_4, cK2_5⟩
    go_region_held3 (fun W => W.cell? ⟨g3, 0, none⟩ = some (.int .i64 (1)) ∧ W.cell? ⟨g3, 1, none⟩ = some (.int .i64 (st)) ∧ W.cell? ⟨g3, 2, none⟩ = some (.int .i64 (nx)) ∧ W.cell? ⟨g3, 3, none⟩ = some (.int .i64 (g)) ∧ W.cell? ⟨g3, 4, none⟩ = some (.int .i64 (sl)) ∧ W.cell? ⟨g3, 5, none⟩ = some (.slice (some ⟨b, off + 3, none⟩) 0 (c' - 1))) (first | ((repeat (with_reducible first | exact HC | (refine drew6 ?_) | (refine far6 rfl (by assumption) ?_) | fail)); done) | fail) (fail)
    all_goals (go_wp2_with fail; refine body_tick (g1 := w.heap.size + 1) (cs1 := #[.int .i64 (1), .int .i64 (st), .int .i64 (nx), .int .i64 (g), .int .i64 (sl), .slice (some ⟨b, off + 3, none⟩) 0 (c' - 1)]) (t1 := 28) (b := w.heap.size) (A := (some ⟨b, off + 3, none⟩)) (xs := []) (w := w) zq24 Own.nil zq1 ?_; intro wf L1 HOf HBf; obtain ⟨e0, e1, e2, e3, e4, e5, _⟩ := Blk.all6 L1; exact bodyPost_ret (v := .tuple #[.string F, .agg #[.int .i64 (1), .int .i64 (st), .int .i64 (nx), .int .i64 (g), .int .i64 (sl), .slice (some ⟨b, off + 3, none⟩) 0 (c' - 1)], .int .i64 0]) (by simp [results, Tryz.results73, go_sem, e0, e1, e2, e3, e4, e5]) rfl ⟨⟨(some ⟨b, off + 3, none⟩), 0, (c' - 1), rfl, rfl, HOf⟩, HBf⟩)
set_option maxRecDepth 100000 in
set_option maxHeartbeats 12800000 in
theorem tstep_r5 (f : ByteArray) (s st nx g sl : Int) (xs : List OpV) (A : Option Addr) (c n : Nat) (w : World) (h : f.size ≤ 9223372036854775807) (hl : Row w A xs) (hn : xs.length = n) (hb : f.size = 768) (hm : devMay s st nx g sl xs = true ∧ n ≤ 768) (hs : s = 5) (o : OpV) (os : List OpV) (hx : xs = o :: os) (ho : opMay o = true ∧ OpOk o) (hy : os ≠ []) : Calls Tryz.prog 73 #[.string f, .agg #[.int .i64 s, .int .i64 st, .int .i64 nx, .int .i64 g, .int .i64 sl, .slice A n c]] w (FlashE w (doB f o) ⟨5, st, nx, g, sl, os⟩ 0) := by
  have HB := Below.refl w.heap.size w
  have K0 := Blk.new w #[.int .i64 s, .int .i64 st, .int .i64 nx, .int .i64 g, .int .i64 sl, .slice A n c] 28
  have K1 := fun cs0 => Blk.new1 w (.cells cs0 28) #[.int .i64 0, .int .i64 0, .int .i64 0, .int .i64 0, .int .i64 0, .slice none 0 0] 28
  have mm := Lib.hid (fun W : World => may_c f W h)
  have dm := Lib.hid (fun W (h : Below w.heap.size w W) => devMay_c s st nx g sl A c n xs W (hl.below h) hn)
  rw [decide_eq_true hb] at mm
  rw [hm.1] at dm
  have cp := Lib.hid (fun W (h : Below w.heap.size w W) => ccopy_c ⟨s, st, nx, g, sl, xs⟩ A c n W (hl.below h) hn (by omega))
  simp only at cp
  have HN := Lib.hid hn
  subst hs
  have hm2 := hm.2
  subst hx
  obtain ⟨m, rfl⟩ : ∃ m, n = m + 1 := ⟨os.length, by rw [← hn]; rfl⟩
  have hmo : os.length = m := by simpa using hn
  have HM := Lib.hid hmo
  have dd := Lib.hid (fun W => doo_c f o W hb ho.1 ho.2)
  have hlo : (1 : Int) ≤ ((m : Nat) : Int) + 1 := by omega
  have hpos : 0 < m := by rw [← hmo]; exact Nat.pos_of_ne_zero (fun e => hy (List.eq_nil_of_length_eq_zero e))
  have hpos2 : (0 : Int) < (m : Int) := by omega
  clear hb hm hl hn h hmo ho
  clear hy
  generalize doB f o = F at *
  go_enter Tryz.func73, Tryz.ntmps73
  go_upto_region 4 with (first | (go_at_call 76; with_reducible refine (mm.out _).mono ?_; rintro e w' ⟨rfl, rfl⟩) | (go_at_call 104; with_reducible refine (dm.out _ zq1).mono ?_; rintro e w' ⟨rfl, hb⟩; have HB := bl_step (w := w) zq0 hb; have hzB := HB.size; have K0 := Blk.on zq3 zq5 hb; (try clear cK0_0 cK0_1 cK0_2 cK0_3 cK0_4 cK0_5 fK0 lK0 nK0 mK0); obtain ⟨cK0_0, cK0_1, cK0_2, cK0_3, cK0_4, cK0_5, fK0, lK0, nK0, mK0⟩ := Blk.all6 K0; have K1 := Blk.on zq6 zq12 hb; (try clear cK1_0 cK1_1 cK1_2 cK1_3 cK1_4 cK1_5 fK1 lK1 nK1 mK1); obtain ⟨cK1_0, cK1_1, cK1_2, cK1_3, cK1_4, cK1_5, fK1, lK1, nK1, mK1⟩ := Blk.all6 K1) | (go_at_call 85; (with_reducible refine (cp.out _ zq1).mono ?_); rintro e w2 ⟨⟨A', c', rfl, HO, hcap⟩, hb⟩; obtain ⟨b, off, rfl, hb1, hb2⟩ := own_some HO; have HO := HO.mono (base' := w.heap.size + 2) (by first | omega | (simp; done) | (simp; omega)); have hg2 : w.heap.size + 2 ≤ w2.heap.size := (by have := hb.size; first | omega | (simp at this; omega)); have HB := bl_step (w := w) zq0 hb; have hzB := HB.size; have K0 := Blk.on zq3 zq5 hb; (try clear cK0_0 cK0_1 cK0_2 cK0_3 cK0_4 cK0_5 fK0 lK0 nK0 mK0); obtain ⟨cK0_0, cK0_1, cK0_2, cK0_3, cK0_4, cK0_5, fK0, lK0, nK0, mK0⟩ := Blk.all6 K0; have K1 := Blk.on zq6 zq12 hb; (try clear cK1_0 cK1_1 cK1_2 cK1_3 cK1_4 cK1_5 fK1 lK1 nK1 mK1); obtain ⟨cK1_0, cK1_1, cK1_2, cK1_3, cK1_4, cK1_5, fK1, lK1, nK1, mK1⟩ := Blk.all6 K1; have K2 := fun cs => Blk.new w2 cs 28) | fail)
  have HO2 := HO.top
  have hz2 : w2.heap.size = w2.heap.size := rfl
  obtain ⟨g3, hg3⟩ : ∃ g3, w2.heap.size = g3 := ⟨_, rfl⟩
  rw [hg3] at HO2 hg2
  simp only [hg3] at K2 ⊢
  refine letter (M := fun X => Code.wp _ _ _ _ X) (F := fun X => Blk X w.heap.size #[.int .i64 5, .int .i64 st, .int .i64 nx, .int .i64 g, .int .i64 sl, .slice A (m + 1) c] 28 ∧ Blk X (w.heap.size + 1) #[.int .i64 0, .int .i64 0, .int .i64 0, .int .i64 0, .int .i64 0, .slice none 0 0] 28 ∧ Blk X g3 #[.int .i64 (5), .int .i64 (st), .int .i64 (nx), .int .i64 (g), .int .i64 (sl), .slice (some ⟨b, off, none⟩) (m + 1) c'] 28 ∧ OwnT X (w.heap.size + 2) g3 (some ⟨b, off, none⟩) (o :: os) ∧ Below w.heap.size w X) ⟨(by repeat (with_reducible first | exact K0 | exact K0 _ | exact K0 _ _ | apply Blk.alloc | apply Blk.drew | apply Blk.set6_0 | apply Blk.set6_1 | apply Blk.set6_2 | apply Blk.set6_3 | apply Blk.set6_4 | apply Blk.set6_5 | (apply Blk.off; (first | assumption | omega | (simp; omega))) | fail)), zq24, (by repeat (with_reducible first | exact K2 | exact K2 _ | exact K2 _ _ | apply Blk.alloc | apply Blk.drew | apply Blk.set6_0 | apply Blk.set6_1 | apply Blk.set6_2 | apply Blk.set6_3 | apply Blk.set6_4 | apply Blk.set6_5 | (apply Blk.off; (first | assumption | omega | (simp; omega))) | fail)), (by repeat (with_reducible first | exact HO2 | (refine OwnT.set ?_ (by dsimp only; omega) _) | (refine OwnT.alloc ?_ _) | (refine OwnT.drewn ?_) | fail)), zq1⟩ ?_
  rintro wz ⟨K0, K1, K2, HO2, HB⟩
  obtain ⟨cK0_0, cK0_1, cK0_2, cK0_3, cK0_4, cK0_5, fK0, lK0, nK0, mK0⟩ := Blk.all6 K0
  obtain ⟨cK1_0, cK1_1, cK1_2, cK1_3, cK1_4, cK1_5, fK1, lK1, nK1, mK1⟩ := Blk.all6 K1
  obtain ⟨cK2_0, cK2_1, cK2_2, cK2_3, cK2_4, cK2_5, fK2, lK2, nK2, mK2⟩ := Blk.all6 K2
  have z1 : g3 ≠ w.heap.size := by omega
  have z2 : g3 ≠ w.heap.size + 1 := by omega
  have z3 : w.heap.size ≠ g3 := by omega
  have z4 : w.heap.size + 1 ≠ g3 := by omega
  have wk := Lib.hid (fun W hc => works_c g3 5 W hc)
  obtain ⟨q0, q1, q2⟩ := row_head HO2.1.1
  go_upto_region 13 with (first | (go_at_call 139; with_reducible refine (wk.out _ cK2_0).mono ?_; rintro e w' ⟨rfl, rfl⟩) | (go_at_call 140; with_reducible refine (dd.out _).mono ?_; rintro e w4 ⟨rfl, hb⟩; have HO2 := HO2.below hb; have HO2 := OwnT.tail HO2; have HB := bl_step (w := w) zq0 hb; have hzB := HB.size; have K0 := Blk.on zq3 zq5 hb; (try clear cK0_0 cK0_1 cK0_2 cK0_3 cK0_4 cK0_5 fK0 lK0 nK0 mK0); obtain ⟨cK0_0, cK0_1, cK0_2, cK0_3, cK0_4, cK0_5, fK0, lK0, nK0, mK0⟩ := Blk.all6 K0; have K1 := Blk.on zq6 zq12 hb; (try clear cK1_0 cK1_1 cK1_2 cK1_3 cK1_4 cK1_5 fK1 lK1 nK1 mK1); obtain ⟨cK1_0, cK1_1, cK1_2, cK1_3, cK1_4, cK1_5, fK1, lK1, nK1, mK1⟩ := Blk.all6 K1; have K2 := Blk.on zq15 zq32 hb; (try clear cK2_0 cK2_1 cK2_2 cK2_3 cK2_4 cK2_5 fK2 lK2 nK2 mK2); obtain ⟨cK2_0, cK2_1, cK2_2, cK2_3, cK2_4, cK2_5, fK2, lK2, nK2, mK2⟩ := Blk.all6 K2) | (go_at_call 78; with_reducible refine (new_c _).mono ?_; rintro e w5 ⟨rfl, hb⟩; have HO2 := OwnT.below (base := w.heap.size + 2) (top := g3) (by repeat (with_reducible first | exact HO2 | (refine OwnT.set ?_ (by dsimp only; omega) _) | (refine OwnT.alloc ?_ _) | (refine OwnT.drewn ?_) | fail)) hb; have HB := bl_step (w := w) zq0 hb; have hzB := HB.size; have K0 := Blk.on zq3 zq5 hb; (try clear cK0_0 cK0_1 cK0_2 cK0_3 cK0_4 cK0_5 fK0 lK0 nK0 mK0); obtain ⟨cK0_0, cK0_1, cK0_2, cK0_3, cK0_4, cK0_5, fK0, lK0, nK0, mK0⟩ := Blk.all6 K0; have K1 := Blk.on zq6 zq12 hb; (try clear cK1_0 cK1_1 cK1_2 cK1_3 cK1_4 cK1_5 fK1 lK1 nK1 mK1); obtain ⟨cK1_0, cK1_1, cK1_2, cK1_3, cK1_4, cK1_5, fK1, lK1, nK1, mK1⟩ := Blk.all6 K1; have K2 := Blk.on zq15 zq32 hb; (try clear cK2_0 cK2_1 cK2_2 cK2_3 cK2_4 cK2_5 fK2 lK2 nK2 mK2); obtain ⟨cK2_0, cK2_1, cK2_2, cK2_3, cK2_4, cK2_5, fK2, lK2, nK2, mK2⟩ := Blk.all6 K2) | fail)
  refine letter (M := fun X => Code.wp _ _ _ _ X) (F := fun X => Blk X w.heap.size #[.int .i64 5, .int .i64 st, .int .i64 nx, .int .i64 g, .int .i64 sl, .slice A (m + 1) c] 28 ∧ Blk X (w.heap.size + 1) #[.int .i64 0, .int .i64 0, .int .i64 0, .int .i64 0, .int .i64 0, .slice none 0 0] 28 ∧ Blk X g3 #[.int .i64 (5), .int .i64 (st), .int .i64 (nx), .int .i64 (g), .int .i64 (sl), .slice (some ⟨b, off + 3, none⟩) m (c' - 1)] 28 ∧ OwnT X (w.heap.size + 2) g3 (some ⟨b, off + 3, none⟩) os ∧ Below w.heap.size w X) ⟨(by repeat (with_reducible first | exact K0 | exact K0 _ | exact K0 _ _ | apply Blk.alloc | apply Blk.drew | apply Blk.set6_0 | apply Blk.set6_1 | apply Blk.set6_2 | apply Blk.set6_3 | apply Blk.set6_4 | apply Blk.set6_5 | (apply Blk.off; (first | assumption | omega | (simp; omega))) | fail)), zq24, (by repeat (with_reducible first | exact K2 | exact K2 _ | exact K2 _ _ | apply Blk.alloc | apply Blk.drew | apply Blk.set6_0 | apply Blk.set6_1 | apply Blk.set6_2 | apply Blk.set6_3 | apply Blk.set6_4 | apply Blk.set6_5 | (apply Blk.off; (first | assumption | omega | (simp; omega))) | fail)), (by repeat (with_reducible first | exact HO2 | (refine OwnT.set ?_ (by dsimp only; omega) _) | (refine OwnT.alloc ?_ _) | (refine OwnT.drewn ?_) | fail)), zq1⟩ ?_
  rintro wz ⟨K0, K1, K2, HO2, HB⟩
  obtain ⟨cK0_0, cK0_1, cK0_2, cK0_3, cK0_4, cK0_5, fK0, lK0, nK0, mK0⟩ := Blk.all6 K0
  obtain ⟨cK1_0, cK1_1, cK1_2, cK1_3, cK1_4, cK1_5, fK1, lK1, nK1, mK1⟩ := Blk.all6 K1
  obtain ⟨cK2_0, cK2_1, cK2_2, cK2_3, cK2_4, cK2_5, fK2, lK2, nK2, mK2⟩ := Blk.all6 K2
  have HC : wz.cell? ⟨g3, 0, none⟩ = some (.int .i64 (5)) ∧ wz.cell? ⟨g3, 1, none⟩ = some (.int .i64 (st)) ∧ wz.cell? ⟨g3, 2, none⟩ = some (.int .i64 (nx)) ∧ wz.cell? ⟨g3, 3, none⟩ = some (.int .i64 (g)) ∧ wz.cell? ⟨g3, 4, none⟩ = some (.int .i64 (sl)) ∧ wz.cell? ⟨g3, 5, none⟩ = some (.slice (some ⟨b, off + 3, none⟩) m (c' - 1)) := ⟨cK2_0, cK2_1, cK2_2, cK2_3, cK2_4, cK2_5⟩
  go_region_held3 (fun W => W.cell? ⟨g3, 0, none⟩ = some (.int .i64 (5)) ∧ W.cell? ⟨g3, 1, none⟩ = some (.int .i64 (st)) ∧ W.cell? ⟨g3, 2, none⟩ = some (.int .i64 (nx)) ∧ W.cell? ⟨g3, 3, none⟩ = some (.int .i64 (g)) ∧ W.cell? ⟨g3, 4, none⟩ = some (.int .i64 (sl)) ∧ W.cell? ⟨g3, 5, none⟩ = some (.slice (some ⟨b, off + 3, none⟩) m (c' - 1))) (first | ((repeat (with_reducible first | exact HC | (refine drew6 ?_) | (refine far6 rfl (by assumption) ?_) | fail)); done) | fail) (fail)
  all_goals (go_wp2_with fail; refine body_tick (g1 := w.heap.size + 1) (cs1 := #[.int .i64 (5), .int .i64 (st), .int .i64 (nx), .int .i64 (g), .int .i64 (sl), .slice (some ⟨b, off + 3, none⟩) m (c' - 1)]) (t1 := 28) (b := w.heap.size) (A := (some ⟨b, off + 3, none⟩)) (xs := os) (w := w) zq24 (by (refine Own.mono (base := w.heap.size + 2) ?_ (by omega)); refine OwnT.own (top := g3) ?_; (repeat (with_reducible first | exact HO2 | (refine OwnT.set ?_ (by dsimp only; omega) _) | (refine OwnT.alloc ?_ _) | (refine OwnT.drewn ?_) | (refine OwnT.below ?_ (by assumption)) | fail))) zq1 ?_; intro wf L1 HOf HBf; obtain ⟨e0, e1, e2, e3, e4, e5, _⟩ := Blk.all6 L1; exact bodyPost_ret (v := .tuple #[.string F, .agg #[.int .i64 (5), .int .i64 (st), .int .i64 (nx), .int .i64 (g), .int .i64 (sl), .slice (some ⟨b, off + 3, none⟩) m (c' - 1)], .int .i64 0]) (by simp [results, Tryz.results73, go_sem, e0, e1, e2, e3, e4, e5]) rfl ⟨⟨(some ⟨b, off + 3, none⟩), m, (c' - 1), rfl, HM.out, HOf⟩, HBf⟩)
set_option maxRecDepth 100000 in
set_option maxHeartbeats 12800000 in
theorem tstep_r2 (f : ByteArray) (s st nx g sl : Int) (xs : List OpV) (A : Option Addr) (c n : Nat) (w : World) (h : f.size ≤ 9223372036854775807) (hl : Row w A xs) (hn : xs.length = n) (hb : f.size = 768) (hm : devMay s st nx g sl xs = true ∧ n ≤ 768) (hs : s = 2) (o : OpV) (os : List OpV) (hx : xs = o :: os) (ho : opMay o = true ∧ OpOk o) (hy : os ≠ []) : Calls Tryz.prog 73 #[.string f, .agg #[.int .i64 s, .int .i64 st, .int .i64 nx, .int .i64 g, .int .i64 sl, .slice A n c]] w (FlashE w (doB f o) ⟨2, st, nx, g, sl, os⟩ 0) := by
  have HB := Below.refl w.heap.size w
  have K0 := Blk.new w #[.int .i64 s, .int .i64 st, .int .i64 nx, .int .i64 g, .int .i64 sl, .slice A n c] 28
  have K1 := fun cs0 => Blk.new1 w (.cells cs0 28) #[.int .i64 0, .int .i64 0, .int .i64 0, .int .i64 0, .int .i64 0, .slice none 0 0] 28
  have mm := Lib.hid (fun W : World => may_c f W h)
  have dm := Lib.hid (fun W (h : Below w.heap.size w W) => devMay_c s st nx g sl A c n xs W (hl.below h) hn)
  rw [decide_eq_true hb] at mm
  rw [hm.1] at dm
  have cp := Lib.hid (fun W (h : Below w.heap.size w W) => ccopy_c ⟨s, st, nx, g, sl, xs⟩ A c n W (hl.below h) hn (by omega))
  simp only at cp
  have HN := Lib.hid hn
  subst hs
  have hm2 := hm.2
  subst hx
  obtain ⟨m, rfl⟩ : ∃ m, n = m + 1 := ⟨os.length, by rw [← hn]; rfl⟩
  have hmo : os.length = m := by simpa using hn
  have HM := Lib.hid hmo
  have dd := Lib.hid (fun W => doo_c f o W hb ho.1 ho.2)
  have hlo : (1 : Int) ≤ ((m : Nat) : Int) + 1 := by omega
  have hpos : 0 < m := by rw [← hmo]; exact Nat.pos_of_ne_zero (fun e => hy (List.eq_nil_of_length_eq_zero e))
  have hpos2 : (0 : Int) < (m : Int) := by omega
  clear hb hm hl hn h hmo ho
  clear hy
  generalize doB f o = F at *
  go_enter Tryz.func73, Tryz.ntmps73
  go_upto_region 4 with (first | (go_at_call 76; with_reducible refine (mm.out _).mono ?_; rintro e w' ⟨rfl, rfl⟩) | (go_at_call 104; with_reducible refine (dm.out _ zq1).mono ?_; rintro e w' ⟨rfl, hb⟩; have HB := bl_step (w := w) zq0 hb; have hzB := HB.size; have K0 := Blk.on zq3 zq5 hb; (try clear cK0_0 cK0_1 cK0_2 cK0_3 cK0_4 cK0_5 fK0 lK0 nK0 mK0); obtain ⟨cK0_0, cK0_1, cK0_2, cK0_3, cK0_4, cK0_5, fK0, lK0, nK0, mK0⟩ := Blk.all6 K0; have K1 := Blk.on zq6 zq12 hb; (try clear cK1_0 cK1_1 cK1_2 cK1_3 cK1_4 cK1_5 fK1 lK1 nK1 mK1); obtain ⟨cK1_0, cK1_1, cK1_2, cK1_3, cK1_4, cK1_5, fK1, lK1, nK1, mK1⟩ := Blk.all6 K1) | (go_at_call 85; (with_reducible refine (cp.out _ zq1).mono ?_); rintro e w2 ⟨⟨A', c', rfl, HO, hcap⟩, hb⟩; obtain ⟨b, off, rfl, hb1, hb2⟩ := own_some HO; have HO := HO.mono (base' := w.heap.size + 2) (by first | omega | (simp; done) | (simp; omega)); have hg2 : w.heap.size + 2 ≤ w2.heap.size := (by have := hb.size; first | omega | (simp at this; omega)); have HB := bl_step (w := w) zq0 hb; have hzB := HB.size; have K0 := Blk.on zq3 zq5 hb; (try clear cK0_0 cK0_1 cK0_2 cK0_3 cK0_4 cK0_5 fK0 lK0 nK0 mK0); obtain ⟨cK0_0, cK0_1, cK0_2, cK0_3, cK0_4, cK0_5, fK0, lK0, nK0, mK0⟩ := Blk.all6 K0; have K1 := Blk.on zq6 zq12 hb; (try clear cK1_0 cK1_1 cK1_2 cK1_3 cK1_4 cK1_5 fK1 lK1 nK1 mK1); obtain ⟨cK1_0, cK1_1, cK1_2, cK1_3, cK1_4, cK1_5, fK1, lK1, nK1, mK1⟩ := Blk.all6 K1; have K2 := fun cs => Blk.new w2 cs 28) | fail)
  have HO2 := HO.top
  have hz2 : w2.heap.size = w2.heap.size := rfl
  obtain ⟨g3, hg3⟩ : ∃ g3, w2.heap.size = g3 := ⟨_, rfl⟩
  rw [hg3] at HO2 hg2
  simp only [hg3] at K2 ⊢
  refine letter (M := fun X => Code.wp _ _ _ _ X) (F := fun X => Blk X w.heap.size #[.int .i64 2, .int .i64 st, .int .i64 nx, .int .i64 g, .int .i64 sl, .slice A (m + 1) c] 28 ∧ Blk X (w.heap.size + 1) #[.int .i64 0, .int .i64 0, .int .i64 0, .int .i64 0, .int .i64 0, .slice none 0 0] 28 ∧ Blk X g3 #[.int .i64 (2), .int .i64 (st), .int .i64 (nx), .int .i64 (g), .int .i64 (sl), .slice (some ⟨b, off, none⟩) (m + 1) c'] 28 ∧ OwnT X (w.heap.size + 2) g3 (some ⟨b, off, none⟩) (o :: os) ∧ Below w.heap.size w X) ⟨(by repeat (with_reducible first | exact K0 | exact K0 _ | exact K0 _ _ | apply Blk.alloc | apply Blk.drew | apply Blk.set6_0 | apply Blk.set6_1 | apply Blk.set6_2 | apply Blk.set6_3 | apply Blk.set6_4 | apply Blk.set6_5 | (apply Blk.off; (first | assumption | omega | (simp; omega))) | fail)), zq24, (by repeat (with_reducible first | exact K2 | exact K2 _ | exact K2 _ _ | apply Blk.alloc | apply Blk.drew | apply Blk.set6_0 | apply Blk.set6_1 | apply Blk.set6_2 | apply Blk.set6_3 | apply Blk.set6_4 | apply Blk.set6_5 | (apply Blk.off; (first | assumption | omega | (simp; omega))) | fail)), (by repeat (with_reducible first | exact HO2 | (refine OwnT.set ?_ (by dsimp only; omega) _) | (refine OwnT.alloc ?_ _) | (refine OwnT.drewn ?_) | fail)), zq1⟩ ?_
  rintro wz ⟨K0, K1, K2, HO2, HB⟩
  obtain ⟨cK0_0, cK0_1, cK0_2, cK0_3, cK0_4, cK0_5, fK0, lK0, nK0, mK0⟩ := Blk.all6 K0
  obtain ⟨cK1_0, cK1_1, cK1_2, cK1_3, cK1_4, cK1_5, fK1, lK1, nK1, mK1⟩ := Blk.all6 K1
  obtain ⟨cK2_0, cK2_1, cK2_2, cK2_3, cK2_4, cK2_5, fK2, lK2, nK2, mK2⟩ := Blk.all6 K2
  have z1 : g3 ≠ w.heap.size := by omega
  have z2 : g3 ≠ w.heap.size + 1 := by omega
  have z3 : w.heap.size ≠ g3 := by omega
  have z4 : w.heap.size + 1 ≠ g3 := by omega
  have wk := Lib.hid (fun W hc => works_c g3 2 W hc)
  obtain ⟨q0, q1, q2⟩ := row_head HO2.1.1
  go_upto_region 13 with (first | (go_at_call 139; with_reducible refine (wk.out _ cK2_0).mono ?_; rintro e w' ⟨rfl, rfl⟩) | (go_at_call 140; with_reducible refine (dd.out _).mono ?_; rintro e w4 ⟨rfl, hb⟩; have HO2 := HO2.below hb; have HO2 := OwnT.tail HO2; have HB := bl_step (w := w) zq0 hb; have hzB := HB.size; have K0 := Blk.on zq3 zq5 hb; (try clear cK0_0 cK0_1 cK0_2 cK0_3 cK0_4 cK0_5 fK0 lK0 nK0 mK0); obtain ⟨cK0_0, cK0_1, cK0_2, cK0_3, cK0_4, cK0_5, fK0, lK0, nK0, mK0⟩ := Blk.all6 K0; have K1 := Blk.on zq6 zq12 hb; (try clear cK1_0 cK1_1 cK1_2 cK1_3 cK1_4 cK1_5 fK1 lK1 nK1 mK1); obtain ⟨cK1_0, cK1_1, cK1_2, cK1_3, cK1_4, cK1_5, fK1, lK1, nK1, mK1⟩ := Blk.all6 K1; have K2 := Blk.on zq15 zq32 hb; (try clear cK2_0 cK2_1 cK2_2 cK2_3 cK2_4 cK2_5 fK2 lK2 nK2 mK2); obtain ⟨cK2_0, cK2_1, cK2_2, cK2_3, cK2_4, cK2_5, fK2, lK2, nK2, mK2⟩ := Blk.all6 K2) | (go_at_call 78; with_reducible refine (new_c _).mono ?_; rintro e w5 ⟨rfl, hb⟩; have HO2 := OwnT.below (base := w.heap.size + 2) (top := g3) (by repeat (with_reducible first | exact HO2 | (refine OwnT.set ?_ (by dsimp only; omega) _) | (refine OwnT.alloc ?_ _) | (refine OwnT.drewn ?_) | fail)) hb; have HB := bl_step (w := w) zq0 hb; have hzB := HB.size; have K0 := Blk.on zq3 zq5 hb; (try clear cK0_0 cK0_1 cK0_2 cK0_3 cK0_4 cK0_5 fK0 lK0 nK0 mK0); obtain ⟨cK0_0, cK0_1, cK0_2, cK0_3, cK0_4, cK0_5, fK0, lK0, nK0, mK0⟩ := Blk.all6 K0; have K1 := Blk.on zq6 zq12 hb; (try clear cK1_0 cK1_1 cK1_2 cK1_3 cK1_4 cK1_5 fK1 lK1 nK1 mK1); obtain ⟨cK1_0, cK1_1, cK1_2, cK1_3, cK1_4, cK1_5, fK1, lK1, nK1, mK1⟩ := Blk.all6 K1; have K2 := Blk.on zq15 zq32 hb; (try clear cK2_0 cK2_1 cK2_2 cK2_3 cK2_4 cK2_5 fK2 lK2 nK2 mK2); obtain ⟨cK2_0, cK2_1, cK2_2, cK2_3, cK2_4, cK2_5, fK2, lK2, nK2, mK2⟩ := Blk.all6 K2) | fail)
  refine letter (M := fun X => Code.wp _ _ _ _ X) (F := fun X => Blk X w.heap.size #[.int .i64 2, .int .i64 st, .int .i64 nx, .int .i64 g, .int .i64 sl, .slice A (m + 1) c] 28 ∧ Blk X (w.heap.size + 1) #[.int .i64 0, .int .i64 0, .int .i64 0, .int .i64 0, .int .i64 0, .slice none 0 0] 28 ∧ Blk X g3 #[.int .i64 (2), .int .i64 (st), .int .i64 (nx), .int .i64 (g), .int .i64 (sl), .slice (some ⟨b, off + 3, none⟩) m (c' - 1)] 28 ∧ OwnT X (w.heap.size + 2) g3 (some ⟨b, off + 3, none⟩) os ∧ Below w.heap.size w X) ⟨(by repeat (with_reducible first | exact K0 | exact K0 _ | exact K0 _ _ | apply Blk.alloc | apply Blk.drew | apply Blk.set6_0 | apply Blk.set6_1 | apply Blk.set6_2 | apply Blk.set6_3 | apply Blk.set6_4 | apply Blk.set6_5 | (apply Blk.off; (first | assumption | omega | (simp; omega))) | fail)), zq24, (by repeat (with_reducible first | exact K2 | exact K2 _ | exact K2 _ _ | apply Blk.alloc | apply Blk.drew | apply Blk.set6_0 | apply Blk.set6_1 | apply Blk.set6_2 | apply Blk.set6_3 | apply Blk.set6_4 | apply Blk.set6_5 | (apply Blk.off; (first | assumption | omega | (simp; omega))) | fail)), (by repeat (with_reducible first | exact HO2 | (refine OwnT.set ?_ (by dsimp only; omega) _) | (refine OwnT.alloc ?_ _) | (refine OwnT.drewn ?_) | fail)), zq1⟩ ?_
  rintro wz ⟨K0, K1, K2, HO2, HB⟩
  obtain ⟨cK0_0, cK0_1, cK0_2, cK0_3, cK0_4, cK0_5, fK0, lK0, nK0, mK0⟩ := Blk.all6 K0
  obtain ⟨cK1_0, cK1_1, cK1_2, cK1_3, cK1_4, cK1_5, fK1, lK1, nK1, mK1⟩ := Blk.all6 K1
  obtain ⟨cK2_0, cK2_1, cK2_2, cK2_3, cK2_4, cK2_5, fK2, lK2, nK2, mK2⟩ := Blk.all6 K2
  have HC : wz.cell? ⟨g3, 0, none⟩ = some (.int .i64 (2)) ∧ wz.cell? ⟨g3, 1, none⟩ = some (.int .i64 (st)) ∧ wz.cell? ⟨g3, 2, none⟩ = some (.int .i64 (nx)) ∧ wz.cell? ⟨g3, 3, none⟩ = some (.int .i64 (g)) ∧ wz.cell? ⟨g3, 4, none⟩ = some (.int .i64 (sl)) ∧ wz.cell? ⟨g3, 5, none⟩ = some (.slice (some ⟨b, off + 3, none⟩) m (c' - 1)) := ⟨cK2_0, cK2_1, cK2_2, cK2_3, cK2_4, cK2_5⟩
  go_region_held3 (fun W => W.cell? ⟨g3, 0, none⟩ = some (.int .i64 (2)) ∧ W.cell? ⟨g3, 1, none⟩ = some (.int .i64 (st)) ∧ W.cell? ⟨g3, 2, none⟩ = some (.int .i64 (nx)) ∧ W.cell? ⟨g3, 3, none⟩ = some (.int .i64 (g)) ∧ W.cell? ⟨g3, 4, none⟩ = some (.int .i64 (sl)) ∧ W.cell? ⟨g3, 5, none⟩ = some (.slice (some ⟨b, off + 3, none⟩) m (c' - 1))) (first | ((repeat (with_reducible first | exact HC | (refine drew6 ?_) | (refine far6 rfl (by assumption) ?_) | fail)); done) | fail) (fail)
  all_goals (go_wp2_with fail; refine body_tick (g1 := w.heap.size + 1) (cs1 := #[.int .i64 (2), .int .i64 (st), .int .i64 (nx), .int .i64 (g), .int .i64 (sl), .slice (some ⟨b, off + 3, none⟩) m (c' - 1)]) (t1 := 28) (b := w.heap.size) (A := (some ⟨b, off + 3, none⟩)) (xs := os) (w := w) zq24 (by (refine Own.mono (base := w.heap.size + 2) ?_ (by omega)); refine OwnT.own (top := g3) ?_; (repeat (with_reducible first | exact HO2 | (refine OwnT.set ?_ (by dsimp only; omega) _) | (refine OwnT.alloc ?_ _) | (refine OwnT.drewn ?_) | (refine OwnT.below ?_ (by assumption)) | fail))) zq1 ?_; intro wf L1 HOf HBf; obtain ⟨e0, e1, e2, e3, e4, e5, _⟩ := Blk.all6 L1; exact bodyPost_ret (v := .tuple #[.string F, .agg #[.int .i64 (2), .int .i64 (st), .int .i64 (nx), .int .i64 (g), .int .i64 (sl), .slice (some ⟨b, off + 3, none⟩) m (c' - 1)], .int .i64 0]) (by simp [results, Tryz.results73, go_sem, e0, e1, e2, e3, e4, e5]) rfl ⟨⟨(some ⟨b, off + 3, none⟩), m, (c' - 1), rfl, HM.out, HOf⟩, HBf⟩)
set_option maxRecDepth 100000 in
set_option maxHeartbeats 12800000 in
theorem tcut_i (f : ByteArray) (s st nx g sl : Int) (xs : List OpV) (k : Nat) (A : Option Addr) (c n : Nat) (w : World) (h : f.size ≤ 9223372036854775807) (hl : Row w A xs) (hn : xs.length = n) (hb : f.size = 768) (hm : devMay s st nx g sl xs = true) (hk : k ≤ 96) (hw : (s == 2 || s == 5) = false) : Calls Tryz.prog 158 #[.string f, .agg #[.int .i64 s, .int .i64 st, .int .i64 nx, .int .i64 g, .int .i64 sl, .slice A n c], .int .i64 k] w (FlashE w f DS.zero 0) := by
  have HB := Below.refl w.heap.size w
  have K0 := Blk.new w #[.int .i64 s, .int .i64 st, .int .i64 nx, .int .i64 g, .int .i64 sl, .slice A n c] 28
  have K1 := fun cs0 => Blk.new1 w (.cells cs0 28) #[.int .i64 0, .int .i64 0, .int .i64 0, .int .i64 0, .int .i64 0, .slice none 0 0] 28
  have mm := Lib.hid (fun W : World => may_c f W h)
  have dm := Lib.hid (fun W (h : Below w.heap.size w W) => devMay_c s st nx g sl A c n xs W (hl.below h) hn)
  rw [decide_eq_true hb] at mm
  rw [hm] at dm
  have n0 : decide ((k : Int) < 0) = false := decide_eq_false (by omega)
  have n1 : decide ((96 : Int) < (k : Int)) = false := decide_eq_false (by omega)
  have wk := Lib.hid (fun W hc => works_c w.heap.size s W hc)
  rw [hw] at wk
  clear hb hm hl hn h hw hk
  go_enter Tryz.func158, Tryz.ntmps158
  go_wp2_with (first | (go_at_call 76; with_reducible refine (mm.out _).mono ?_; rintro e w' ⟨rfl, rfl⟩) | (go_at_call 104; with_reducible refine (dm.out _ zq1).mono ?_; rintro e w' ⟨rfl, hb⟩; have HB := bl_step (w := w) zq0 hb; have hzB := HB.size; have K0 := Blk.on zq3 zq5 hb; (try clear cK0_0 cK0_1 cK0_2 cK0_3 cK0_4 cK0_5 fK0 lK0 nK0 mK0); obtain ⟨cK0_0, cK0_1, cK0_2, cK0_3, cK0_4, cK0_5, fK0, lK0, nK0, mK0⟩ := Blk.all6 K0; have K1 := Blk.on zq6 zq12 hb; (try clear cK1_0 cK1_1 cK1_2 cK1_3 cK1_4 cK1_5 fK1 lK1 nK1 mK1); obtain ⟨cK1_0, cK1_1, cK1_2, cK1_3, cK1_4, cK1_5, fK1, lK1, nK1, mK1⟩ := Blk.all6 K1) | (go_at_call 139; with_reducible refine (wk.out _ cK0_0).mono ?_; rintro e w' ⟨rfl, rfl⟩) | (go_at_call 78; with_reducible refine (new_c _).mono ?_; rintro e w' ⟨rfl, hb⟩; have HB := bl_step (w := w) zq0 hb; have hzB := HB.size; have K0 := Blk.on zq3 zq5 hb; (try clear cK0_0 cK0_1 cK0_2 cK0_3 cK0_4 cK0_5 fK0 lK0 nK0 mK0); obtain ⟨cK0_0, cK0_1, cK0_2, cK0_3, cK0_4, cK0_5, fK0, lK0, nK0, mK0⟩ := Blk.all6 K0; have K1 := Blk.on zq6 zq12 hb; (try clear cK1_0 cK1_1 cK1_2 cK1_3 cK1_4 cK1_5 fK1 lK1 nK1 mK1); obtain ⟨cK1_0, cK1_1, cK1_2, cK1_3, cK1_4, cK1_5, fK1, lK1, nK1, mK1⟩ := Blk.all6 K1) | fail)
  refine body_tick (g1 := w.heap.size + 1) (cs1 := #[.int .i64 0, .int .i64 0, .int .i64 0, .int .i64 0, .int .i64 0, .slice none 0 0]) (t1 := 28) (b := w.heap.size) (A := none) (xs := []) (w := w) zq24 Own.nil zq1 ?_; intro wf L1 HOf HBf; obtain ⟨e0, e1, e2, e3, e4, e5, _⟩ := Blk.all6 L1; exact bodyPost_ret (v := .tuple #[.string f, .agg #[.int .i64 0, .int .i64 0, .int .i64 0, .int .i64 0, .int .i64 0, .slice none 0 0], .int .i64 0]) (by simp [results, Tryz.results158, go_sem, e0, e1, e2, e3, e4, e5]) rfl ⟨⟨none, 0, 0, rfl, rfl, HOf⟩, HBf⟩
set_option maxRecDepth 100000 in
set_option maxHeartbeats 12800000 in
theorem tcut_n (f : ByteArray) (s st nx g sl : Int) (xs : List OpV) (k : Nat) (A : Option Addr) (c n : Nat) (w : World) (h : f.size ≤ 9223372036854775807) (hl : Row w A xs) (hn : xs.length = n) (hb : f.size = 768) (hm : devMay s st nx g sl xs = true) (hk : k ≤ 96) (hw : (s == 2 || s == 5) = true) (hx : xs = []) : Calls Tryz.prog 158 #[.string f, .agg #[.int .i64 s, .int .i64 st, .int .i64 nx, .int .i64 g, .int .i64 sl, .slice A n c], .int .i64 k] w (FlashE w f DS.zero 0) := by
  have HB := Below.refl w.heap.size w
  have K0 := Blk.new w #[.int .i64 s, .int .i64 st, .int .i64 nx, .int .i64 g, .int .i64 sl, .slice A n c] 28
  have K1 := fun cs0 => Blk.new1 w (.cells cs0 28) #[.int .i64 0, .int .i64 0, .int .i64 0, .int .i64 0, .int .i64 0, .slice none 0 0] 28
  have mm := Lib.hid (fun W : World => may_c f W h)
  have dm := Lib.hid (fun W (h : Below w.heap.size w W) => devMay_c s st nx g sl A c n xs W (hl.below h) hn)
  rw [decide_eq_true hb] at mm
  rw [hm] at dm
  have n0 : decide ((k : Int) < 0) = false := decide_eq_false (by omega)
  have n1 : decide ((96 : Int) < (k : Int)) = false := decide_eq_false (by omega)
  have wk := Lib.hid (fun W hc => works_c w.heap.size s W hc)
  rw [hw] at wk
  subst hx
  obtain rfl : n = 0 := hn.symm
  clear hb hm hl hn h hw hk
  go_enter Tryz.func158, Tryz.ntmps158
  go_wp2_with (first | (go_at_call 76; with_reducible refine (mm.out _).mono ?_; rintro e w' ⟨rfl, rfl⟩) | (go_at_call 104; with_reducible refine (dm.out _ zq1).mono ?_; rintro e w' ⟨rfl, hb⟩; have HB := bl_step (w := w) zq0 hb; have hzB := HB.size; have K0 := Blk.on zq3 zq5 hb; (try clear cK0_0 cK0_1 cK0_2 cK0_3 cK0_4 cK0_5 fK0 lK0 nK0 mK0); obtain ⟨cK0_0, cK0_1, cK0_2, cK0_3, cK0_4, cK0_5, fK0, lK0, nK0, mK0⟩ := Blk.all6 K0; have K1 := Blk.on zq6 zq12 hb; (try clear cK1_0 cK1_1 cK1_2 cK1_3 cK1_4 cK1_5 fK1 lK1 nK1 mK1); obtain ⟨cK1_0, cK1_1, cK1_2, cK1_3, cK1_4, cK1_5, fK1, lK1, nK1, mK1⟩ := Blk.all6 K1) | (go_at_call 139; with_reducible refine (wk.out _ cK0_0).mono ?_; rintro e w' ⟨rfl, rfl⟩) | (go_at_call 78; with_reducible refine (new_c _).mono ?_; rintro e w' ⟨rfl, hb⟩; have HB := bl_step (w := w) zq0 hb; have hzB := HB.size; have K0 := Blk.on zq3 zq5 hb; (try clear cK0_0 cK0_1 cK0_2 cK0_3 cK0_4 cK0_5 fK0 lK0 nK0 mK0); obtain ⟨cK0_0, cK0_1, cK0_2, cK0_3, cK0_4, cK0_5, fK0, lK0, nK0, mK0⟩ := Blk.all6 K0; have K1 := Blk.on zq6 zq12 hb; (try clear cK1_0 cK1_1 cK1_2 cK1_3 cK1_4 cK1_5 fK1 lK1 nK1 mK1); obtain ⟨cK1_0, cK1_1, cK1_2, cK1_3, cK1_4, cK1_5, fK1, lK1, nK1, mK1⟩ := Blk.all6 K1) | fail)
  refine body_tick (g1 := w.heap.size + 1) (cs1 := #[.int .i64 0, .int .i64 0, .int .i64 0, .int .i64 0, .int .i64 0, .slice none 0 0]) (t1 := 28) (b := w.heap.size) (A := none) (xs := []) (w := w) zq24 Own.nil zq1 ?_; intro wf L1 HOf HBf; obtain ⟨e0, e1, e2, e3, e4, e5, _⟩ := Blk.all6 L1; exact bodyPost_ret (v := .tuple #[.string f, .agg #[.int .i64 0, .int .i64 0, .int .i64 0, .int .i64 0, .int .i64 0, .slice none 0 0], .int .i64 0]) (by simp [results, Tryz.results158, go_sem, e0, e1, e2, e3, e4, e5]) rfl ⟨⟨none, 0, 0, rfl, rfl, HOf⟩, HBf⟩
set_option maxRecDepth 100000 in
set_option maxHeartbeats 12800000 in
theorem tcut_o (f : ByteArray) (s st nx g sl : Int) (xs : List OpV) (k : Nat) (A : Option Addr) (c n : Nat) (w : World) (h : f.size ≤ 9223372036854775807) (hl : Row w A xs) (hn : xs.length = n) (hb : f.size = 768) (hm : devMay s st nx g sl xs = true) (hk : k ≤ 96) (hw : (s == 2 || s == 5) = true) (o : OpV) (os : List OpV) (hx : xs = o :: os) (ho : opMay o = true ∧ OpOk o) : Calls Tryz.prog 158 #[.string f, .agg #[.int .i64 s, .int .i64 st, .int .i64 nx, .int .i64 g, .int .i64 sl, .slice A n c], .int .i64 k] w (FlashE w (cutB f o k) DS.zero 0) := by
  have HB := Below.refl w.heap.size w
  have K0 := Blk.new w #[.int .i64 s, .int .i64 st, .int .i64 nx, .int .i64 g, .int .i64 sl, .slice A n c] 28
  have K1 := fun cs0 => Blk.new1 w (.cells cs0 28) #[.int .i64 0, .int .i64 0, .int .i64 0, .int .i64 0, .int .i64 0, .slice none 0 0] 28
  have mm := Lib.hid (fun W : World => may_c f W h)
  have dm := Lib.hid (fun W (h : Below w.heap.size w W) => devMay_c s st nx g sl A c n xs W (hl.below h) hn)
  rw [decide_eq_true hb] at mm
  rw [hm] at dm
  have n0 : decide ((k : Int) < 0) = false := decide_eq_false (by omega)
  have n1 : decide ((96 : Int) < (k : Int)) = false := decide_eq_false (by omega)
  have wk := Lib.hid (fun W hc => works_c w.heap.size s W hc)
  rw [hw] at wk
  subst hx
  obtain ⟨m, rfl⟩ : ∃ m, n = m + 1 := ⟨os.length, by rw [← hn]; rfl⟩
  obtain ⟨b, off, x, rfl, _⟩ := hl.at_ (j := 0) (by simp)
  have R0 := Lib.hid hl
  have cc := Lib.hid (fun W => cut_c f o k W hb ho.1 ho.2 hk)
  have hpos2 : (0 : Int) < ((m : Nat) : Int) + 1 := by omega
  clear hb hm hl hn h hw hk ho
  generalize cutB f o k = F at *
  go_enter Tryz.func158, Tryz.ntmps158
  go_wp2_with (first | (go_at_call 76; with_reducible refine (mm.out _).mono ?_; rintro e w' ⟨rfl, rfl⟩) | (go_at_call 104; with_reducible refine (dm.out _ zq1).mono ?_; rintro e w' ⟨rfl, hb⟩; have HB := bl_step (w := w) zq0 hb; have hzB := HB.size; have K0 := Blk.on zq3 zq5 hb; (try clear cK0_0 cK0_1 cK0_2 cK0_3 cK0_4 cK0_5 fK0 lK0 nK0 mK0); obtain ⟨cK0_0, cK0_1, cK0_2, cK0_3, cK0_4, cK0_5, fK0, lK0, nK0, mK0⟩ := Blk.all6 K0; have K1 := Blk.on zq6 zq12 hb; (try clear cK1_0 cK1_1 cK1_2 cK1_3 cK1_4 cK1_5 fK1 lK1 nK1 mK1); obtain ⟨cK1_0, cK1_1, cK1_2, cK1_3, cK1_4, cK1_5, fK1, lK1, nK1, mK1⟩ := Blk.all6 K1) | (go_at_call 139; with_reducible refine (wk.out _ cK0_0).mono ?_; rintro e w' ⟨rfl, rfl⟩; obtain ⟨q0, q1, q2⟩ := row_head (R0.out.below HB)) | (go_at_call 193; with_reducible refine (cc.out _).mono ?_; rintro e w' ⟨rfl, hb⟩; have HB := bl_step (w := w) zq0 hb; have hzB := HB.size; have K0 := Blk.on zq3 zq5 hb; (try clear cK0_0 cK0_1 cK0_2 cK0_3 cK0_4 cK0_5 fK0 lK0 nK0 mK0); obtain ⟨cK0_0, cK0_1, cK0_2, cK0_3, cK0_4, cK0_5, fK0, lK0, nK0, mK0⟩ := Blk.all6 K0; have K1 := Blk.on zq6 zq12 hb; (try clear cK1_0 cK1_1 cK1_2 cK1_3 cK1_4 cK1_5 fK1 lK1 nK1 mK1); obtain ⟨cK1_0, cK1_1, cK1_2, cK1_3, cK1_4, cK1_5, fK1, lK1, nK1, mK1⟩ := Blk.all6 K1) | (go_at_call 78; with_reducible refine (new_c _).mono ?_; rintro e w' ⟨rfl, hb⟩; have HB := bl_step (w := w) zq0 hb; have hzB := HB.size; have K0 := Blk.on zq3 zq5 hb; (try clear cK0_0 cK0_1 cK0_2 cK0_3 cK0_4 cK0_5 fK0 lK0 nK0 mK0); obtain ⟨cK0_0, cK0_1, cK0_2, cK0_3, cK0_4, cK0_5, fK0, lK0, nK0, mK0⟩ := Blk.all6 K0; have K1 := Blk.on zq6 zq12 hb; (try clear cK1_0 cK1_1 cK1_2 cK1_3 cK1_4 cK1_5 fK1 lK1 nK1 mK1); obtain ⟨cK1_0, cK1_1, cK1_2, cK1_3, cK1_4, cK1_5, fK1, lK1, nK1, mK1⟩ := Blk.all6 K1) | fail)
  refine body_tick (g1 := w.heap.size + 1) (cs1 := #[.int .i64 0, .int .i64 0, .int .i64 0, .int .i64 0, .int .i64 0, .slice none 0 0]) (t1 := 28) (b := w.heap.size) (A := none) (xs := []) (w := w) zq24 Own.nil zq1 ?_; intro wf L1 HOf HBf; obtain ⟨e0, e1, e2, e3, e4, e5, _⟩ := Blk.all6 L1; exact bodyPost_ret (v := .tuple #[.string F, .agg #[.int .i64 0, .int .i64 0, .int .i64 0, .int .i64 0, .int .i64 0, .slice none 0 0], .int .i64 0]) (by simp [results, Tryz.results158, go_sem, e0, e1, e2, e3, e4, e5]) rfl ⟨⟨none, 0, 0, rfl, rfl, HOf⟩, HBf⟩
theorem tstep_c (f : ByteArray) (d : DS) (A : Option Addr) (c n : Nat) (w : World) (hl : Row w A d.ops) (hn : d.ops.length = n) (hb : bothB f d = true) :
    Calls Tryz.prog 73 #[.string f, (.agg #[.int .i64 d.st, .int .i64 d.su, .int .i64 d.nx, .int .i64 d.go, .int .i64 d.sl, .slice A n c])] w (FlashE w (tickF f d) (tickD d) 0) := by
  obtain ⟨hf, hm⟩ := both_parts hb
  have h : f.size ≤ 9223372036854775807 := by omega
  have hlen := may_len hm
  have hops := may_ops hm
  have hoks := hl.2.2
  obtain ⟨s, st, nx, g, sl, xs⟩ := d
  simp only at hl hn hlen hops hoks
  have hm2 : devMay s st nx g sl xs = true ∧ n ≤ 768 := ⟨hm, by omega⟩
  cases hw : (s == 2 || s == 5)
  · have e1 : tickF f ⟨s, st, nx, g, sl, xs⟩ = f := by simp [tickF, DS.works, hw]
    have e2 : tickD ⟨s, st, nx, g, sl, xs⟩ = ⟨s, st, nx, g, sl, xs⟩ := by simp [tickD, DS.works, hw]
    rw [e1, e2]
    exact tstep_i f s st nx g sl xs A c n w h hl hn hf hm2 hw
  · have hs : s = 5 ∨ s = 2 := by simpa [or_comm] using hw
    have hww : DS.works ⟨s, st, nx, g, sl, xs⟩ = true := hw
    cases hx : xs with
    | nil =>
      subst hx
      have e1 : tickF f ⟨s, st, nx, g, sl, []⟩ = f := by simp [tickF, hww]
      have e2 : tickD ⟨s, st, nx, g, sl, []⟩ = if s = 5 then DS.zero else ⟨1, st, nx, g, sl, []⟩ := by simp [tickD, hww]
      rw [e1, e2]
      rcases hs with rfl | rfl
      · exact tstep_w5 f 5 st nx g sl [] A c n w h hl hn hf hm2 rfl rfl
      · exact tstep_w2 f 2 st nx g sl [] A c n w h hl hn hf hm2 rfl rfl
    | cons o os =>
      subst hx
      have e1 : tickF f ⟨s, st, nx, g, sl, o :: os⟩ = doB f o := by simp [tickF, hww]
      have e2 : tickD ⟨s, st, nx, g, sl, o :: os⟩ = if os = [] then (if s = 5 then DS.zero else ⟨1, st, nx, g, sl, []⟩) else ⟨s, st, nx, g, sl, os⟩ := by simp [tickD, hww]
      rw [e1, e2]
      have ho : opMay o = true ∧ OpOk o := ⟨hops o (by simp), hoks o (by simp)⟩
      by_cases hy : os = []
      · rw [if_pos hy]
        rcases hs with rfl | rfl
        · exact tstep_s5 f 5 st nx g sl _ A c n w h hl hn hf hm2 rfl o os rfl ho hy
        · exact tstep_s2 f 2 st nx g sl _ A c n w h hl hn hf hm2 rfl o os rfl ho hy
      · rw [if_neg hy]
        rcases hs with rfl | rfl
        · exact tstep_r5 f 5 st nx g sl _ A c n w h hl hn hf hm2 rfl o os rfl ho hy
        · exact tstep_r2 f 2 st nx g sl _ A c n w h hl hn hf hm2 rfl o os rfl ho hy
theorem tcut_c (f : ByteArray) (d : DS) (k : Nat) (A : Option Addr) (c n : Nat) (w : World) (hl : Row w A d.ops) (hn : d.ops.length = n) (hb : bothB f d = true) (hk : k ≤ 96) :
    Calls Tryz.prog 158 #[.string f, (.agg #[.int .i64 d.st, .int .i64 d.su, .int .i64 d.nx, .int .i64 d.go, .int .i64 d.sl, .slice A n c]), .int .i64 k] w (FlashE w (cutF f d k) DS.zero 0) := by
  obtain ⟨hf, hm⟩ := both_parts hb
  have h : f.size ≤ 9223372036854775807 := by omega
  have hops := may_ops hm
  have hoks := hl.2.2
  obtain ⟨s, st, nx, g, sl, xs⟩ := d
  simp only at hl hn hops hoks
  cases hw : (s == 2 || s == 5)
  · have e1 : cutF f ⟨s, st, nx, g, sl, xs⟩ k = f := by simp [cutF, DS.works, hw]
    rw [e1]
    exact tcut_i f s st nx g sl xs k A c n w h hl hn hf hm hk hw
  · have hww : DS.works ⟨s, st, nx, g, sl, xs⟩ = true := hw
    cases hx : xs with
    | nil =>
      subst hx
      have e1 : cutF f ⟨s, st, nx, g, sl, []⟩ k = f := by simp [cutF, hww]
      rw [e1]
      exact tcut_n f s st nx g sl [] k A c n w h hl hn hf hm hk hw rfl
    | cons o os =>
      subst hx
      have e1 : cutF f ⟨s, st, nx, g, sl, o :: os⟩ k = cutB f o k := by simp [cutF, hww]
      rw [e1]
      exact tcut_o f s st nx g sl _ k A c n w h hl hn hf hm hk hw o os rfl ⟨hops o (by simp), hoks o (by simp)⟩
end Go.Proofs.YtccblleobcidfaaGreat.Dv

/- Layer 24: the laws' walks: PairApart. -/
import Derived.Test.YtccblleobcidfaaGreatGl
import Derived.Test.YtccblleobcidfaaGreatWaw
namespace Go.Proofs.YtccblleobcidfaaGreat.Wo
open Go.RowKit Go.Proofs.YtccblleobcidfaaGreat.Kt Go.Proofs.YtccblleobcidfaaGreat.Lw Go.Proofs.YtccblleobcidfaaGreat.St Go.Proofs.YtccblleobcidfaaGreat.Nm Go.Proofs.YtccblleobcidfaaGreat.Es Go.Proofs.YtccblleobcidfaaGreat.Sl Go.Proofs.YtccblleobcidfaaGreat.Ops Go.Proofs.YtccblleobcidfaaGreat.Fl Go.Proofs.YtccblleobcidfaaGreat.Dv Go.Proofs.YtccblleobcidfaaGreat.Ho Go.Proofs.YtccblleobcidfaaGreat.Rp
set_option linter.unusedVariables false
set_option linter.unusedSimpArgs false
attribute [local go_sem high] eqHost eqIds fldh
set_option maxRecDepth 100000 in
set_option maxHeartbeats 12800000 in
theorem papart_no (x Y : WS) (a : AS) (A : Option Addr) (n c : Nat) (w : World) (hl : Row w A x.d.ops) (hn : x.d.ops.length = n)
    (aw : Hid (∀ W : World, Calls Tryz.prog 42 #[] W fun e w' => e = .returned (.bool true) ∧ Below W.heap.size W w'))
    (dc : Hid (∀ (W : World) (B : Option Addr) (m d : Nat), Row W B x.d.ops → x.d.ops.length = m → Calls Tryz.prog 32 #[.agg (x.cs B m d), .agg a.cs] W (Gave W (Y) 2400)))
    (sz : Hid (sameW Y WS.zero = true)) :
    Calls Tryz.prog 8 #[.agg (x.cs A n c), .agg a.cs] w fun e w' => e = .returned (.bool true) ∧ Below w.heap.size w w' := by
  have HB := Below.refl w.heap.size w
  have K0 := Blk.new w (x.cs A n c) 32
  have K1 := Blk.new1 w (.cells (x.cs A n c) 32) a.cs 41
  go_enter Tryz.func8, Tryz.ntmps8
  go_upto_region 3 with (first | (go_at_call 42; with_reducible refine (aw.out _).mono ?_; rintro e w' ⟨rfl, hb⟩; have HB := bl_step (w := w) zq0 hb; have hzB := HB.size; have K0 := Blk.on zq3 zq10 hb; (try clear eK0); have eK0 := Blk.ev K0; have K1 := Blk.on zq6 zq9 hb; (try clear eK1); have eK1 := Blk.ev K1) | fail)
  have X0 : Wat w' w.heap.size 0 w.heap.size x := wat_arg K0 hn hl HB 0
  clear K0 eK0 aw hl hn
  (try clear eX0 kX0 rX0 hX0 dX0 aX0 nX0 cX0); have qX0 := X0; obtain ⟨aX0, nX0, cX0, kX0, hX0, rX0, dX0⟩ := qX0; have eX0 := Blk.ev kX0
  go_wp2_with (first | (refine wpList_loadw rfl _ rfl kX0 rfl rfl ?_) | (refine wpList_loadw rfl _ rfl kV rfl rfl ?_) | (go_at_call 32; (with_reducible refine (dc.out _ _ _ cX0 rX0 hX0).mono ?_); rintro e wk ⟨⟨awV, nwV, cwV, rfl, hwV, owV⟩, hb⟩; have HB := HB.trans (hb.mono HB.size); have X0 := X0.below hb; (try clear eX0 kX0 rX0 hX0 dX0 aX0 nX0 cX0); have qX0 := X0; obtain ⟨aX0, nX0, cX0, kX0, hX0, rX0, dX0⟩ := qX0; have eX0 := Blk.ev kX0; have K1 := K1.below hb; (try clear eK1); have eK1 := Blk.ev K1) | (refine wpList_putw (lo := w.heap.size) rfl _ _ rfl (Blk.new wk _ _) rfl rfl rfl hwV (owV.alloc _).1 (keeps_new owV) ?_; intro wv V hgV; have hb := bl_newput hgV; have gbV : w.heap.size ≤ wk.heap.size := HB.size; clear hwV owV; have ltVX0 := X0.lt; have ltVK1 := K1.lt; have HB := HB.trans (hb.mono HB.size); have X0 := X0.below hb; (try clear eX0 kX0 rX0 hX0 dX0 aX0 nX0 cX0); have qX0 := X0; obtain ⟨aX0, nX0, cX0, kX0, hX0, rX0, dX0⟩ := qX0; have eX0 := Blk.ev kX0; have K1 := K1.below hb; (try clear eK1); have eK1 := Blk.ev K1; (try clear eV kV rV hV dV aV nV cV); have qV := V; obtain ⟨aV, nV, cV, kV, hV, rV, dV⟩ := qV; have eV := Blk.ev kV) | (go_at_call 30; with_reducible refine (enum_c _ _).mono ?_; rintro e w' ⟨rfl, rfl⟩) | (go_at_call 38; with_reducible refine (samez_c Y aV nV cV _ rV hV).mono ?_; rintro e w3 ⟨rfl, hb⟩; have HB := HB.trans (hb.mono HB.size)) | fail)
  all_goals (go_ret; exact ⟨Ops.retB sz.out, HB⟩)
set_option maxRecDepth 100000 in
set_option maxHeartbeats 12800000 in
theorem papart_0 (x : WS) (fi : ByteArray) (lo cu : Int) (H : HS) (A : Option Addr) (n c : Nat) (w : World) (hl : Row w A x.d.ops) (hn : x.d.ops.length = n)
    (aw : Hid (∀ W : World, Calls Tryz.prog 42 #[] W fun e w' => e = .returned (.bool true) ∧ Below W.heap.size W w'))
    (dc : Hid (∀ (W : World) (B : Option Addr) (m d : Nat), Row W B x.d.ops → x.d.ops.length = m → Calls Tryz.prog 32 #[.agg (x.cs B m d), .agg #[.int .i64 0, .string fi, .int .i64 lo, .int .i64 cu]] W (Gave W (⟨x.f, x.v, x.p, x.r, x.d, H⟩) 0))) :
    Calls Tryz.prog 8 #[.agg (x.cs A n c), .agg #[.int .i64 0, .string fi, .int .i64 lo, .int .i64 cu]] w fun e w' => e = .returned (.bool true) ∧ Below w.heap.size w w' := by
  have HB := Below.refl w.heap.size w
  have K0 := Blk.new w (x.cs A n c) 32
  have K1 := Blk.new1 w (.cells (x.cs A n c) 32) #[.int .i64 0, .string fi, .int .i64 lo, .int .i64 cu] 41
  skip
  all_goals (
    go_enter Tryz.func8, Tryz.ntmps8
    go_upto_region 3 with (first | (go_at_call 42; with_reducible refine (aw.out _).mono ?_; rintro e w' ⟨rfl, hb⟩; have HB := bl_step (w := w) zq0 hb; have hzB := HB.size; have K0 := Blk.on zq3 zq10 hb; (try clear eK0); have eK0 := Blk.ev K0; have K1 := Blk.on zq6 zq9 hb; (try clear eK1); have eK1 := Blk.ev K1) | fail)
    have X0 : Wat w' w.heap.size 0 w.heap.size x := wat_arg K0 hn hl HB 0
    clear K0 eK0 aw hl hn
    (try clear eX0 kX0 rX0 hX0 dX0 aX0 nX0 cX0); have qX0 := X0; obtain ⟨aX0, nX0, cX0, kX0, hX0, rX0, dX0⟩ := qX0; have eX0 := Blk.ev kX0
    go_wp2_with (first | (refine wpList_loadw rfl _ rfl kX0 rfl rfl ?_) | (refine wpList_loadw rfl _ rfl kV rfl rfl ?_) | (go_at_call 32; (with_reducible refine (dc.out _ _ _ cX0 rX0 hX0).mono ?_); rintro e wk ⟨⟨awV, nwV, cwV, rfl, hwV, owV⟩, hb⟩; have HB := HB.trans (hb.mono HB.size); have X0 := X0.below hb; (try clear eX0 kX0 rX0 hX0 dX0 aX0 nX0 cX0); have qX0 := X0; obtain ⟨aX0, nX0, cX0, kX0, hX0, rX0, dX0⟩ := qX0; have eX0 := Blk.ev kX0; have K1 := K1.below hb; (try clear eK1); have eK1 := Blk.ev K1) | (refine wpList_putw (lo := w.heap.size) rfl _ _ rfl (Blk.new wk _ _) rfl rfl rfl hwV (owV.alloc _).1 (keeps_new owV) ?_; intro wv V hgV; have hb := bl_newput hgV; have gbV : w.heap.size ≤ wk.heap.size := HB.size; clear hwV owV; have ltVX0 := X0.lt; have ltVK1 := K1.lt; have HB := HB.trans (hb.mono HB.size); have X0 := X0.below hb; (try clear eX0 kX0 rX0 hX0 dX0 aX0 nX0 cX0); have qX0 := X0; obtain ⟨aX0, nX0, cX0, kX0, hX0, rX0, dX0⟩ := qX0; have eX0 := Blk.ev kX0; have K1 := K1.below hb; (try clear eK1); have eK1 := Blk.ev K1; (try clear eV kV rV hV dV aV nV cV); have qV := V; obtain ⟨aV, nV, cV, kV, hV, rV, dV⟩ := qV; have eV := Blk.ev kV) | (go_at_call 30; with_reducible refine (enum_c _ _).mono ?_; rintro e w' ⟨rfl, rfl⟩) | (go_at_call 46; with_reducible refine (sameDev_c _ _ _ _ _ _ _ _ _ _ aV aX0 cV cX0 nV nX0 x.d.ops x.d.ops _ rV rX0 hV hX0).mono ?_; rintro e w3 ⟨rfl, hb⟩; have HB := HB.trans (hb.mono HB.size)) | fail)
    all_goals (go_ret; exact ⟨Ops.retB (by simp [sameDev]), HB⟩))
set_option maxRecDepth 100000 in
set_option maxHeartbeats 12800000 in
theorem papart_5 (x : WS) (fi : ByteArray) (lo cu : Int) (H : HS) (A : Option Addr) (n c : Nat) (w : World) (hl : Row w A x.d.ops) (hn : x.d.ops.length = n)
    (aw : Hid (∀ W : World, Calls Tryz.prog 42 #[] W fun e w' => e = .returned (.bool true) ∧ Below W.heap.size W w'))
    (dc : Hid (∀ (W : World) (B : Option Addr) (m d : Nat), Row W B x.d.ops → x.d.ops.length = m → Calls Tryz.prog 32 #[.agg (x.cs B m d), .agg #[.int .i64 5, .string fi, .int .i64 lo, .int .i64 cu]] W (Gave W (⟨x.f, x.v, x.p, x.r, x.d, H⟩) 0))) :
    Calls Tryz.prog 8 #[.agg (x.cs A n c), .agg #[.int .i64 5, .string fi, .int .i64 lo, .int .i64 cu]] w fun e w' => e = .returned (.bool true) ∧ Below w.heap.size w w' := by
  have HB := Below.refl w.heap.size w
  have K0 := Blk.new w (x.cs A n c) 32
  have K1 := Blk.new1 w (.cells (x.cs A n c) 32) #[.int .i64 5, .string fi, .int .i64 lo, .int .i64 cu] 41
  skip
  all_goals (
    go_enter Tryz.func8, Tryz.ntmps8
    go_upto_region 3 with (first | (go_at_call 42; with_reducible refine (aw.out _).mono ?_; rintro e w' ⟨rfl, hb⟩; have HB := bl_step (w := w) zq0 hb; have hzB := HB.size; have K0 := Blk.on zq3 zq10 hb; (try clear eK0); have eK0 := Blk.ev K0; have K1 := Blk.on zq6 zq9 hb; (try clear eK1); have eK1 := Blk.ev K1) | fail)
    have X0 : Wat w' w.heap.size 0 w.heap.size x := wat_arg K0 hn hl HB 0
    clear K0 eK0 aw hl hn
    (try clear eX0 kX0 rX0 hX0 dX0 aX0 nX0 cX0); have qX0 := X0; obtain ⟨aX0, nX0, cX0, kX0, hX0, rX0, dX0⟩ := qX0; have eX0 := Blk.ev kX0
    go_wp2_with (first | (refine wpList_loadw rfl _ rfl kX0 rfl rfl ?_) | (refine wpList_loadw rfl _ rfl kV rfl rfl ?_) | (go_at_call 32; (with_reducible refine (dc.out _ _ _ cX0 rX0 hX0).mono ?_); rintro e wk ⟨⟨awV, nwV, cwV, rfl, hwV, owV⟩, hb⟩; have HB := HB.trans (hb.mono HB.size); have X0 := X0.below hb; (try clear eX0 kX0 rX0 hX0 dX0 aX0 nX0 cX0); have qX0 := X0; obtain ⟨aX0, nX0, cX0, kX0, hX0, rX0, dX0⟩ := qX0; have eX0 := Blk.ev kX0; have K1 := K1.below hb; (try clear eK1); have eK1 := Blk.ev K1) | (refine wpList_putw (lo := w.heap.size) rfl _ _ rfl (Blk.new wk _ _) rfl rfl rfl hwV (owV.alloc _).1 (keeps_new owV) ?_; intro wv V hgV; have hb := bl_newput hgV; have gbV : w.heap.size ≤ wk.heap.size := HB.size; clear hwV owV; have ltVX0 := X0.lt; have ltVK1 := K1.lt; have HB := HB.trans (hb.mono HB.size); have X0 := X0.below hb; (try clear eX0 kX0 rX0 hX0 dX0 aX0 nX0 cX0); have qX0 := X0; obtain ⟨aX0, nX0, cX0, kX0, hX0, rX0, dX0⟩ := qX0; have eX0 := Blk.ev kX0; have K1 := K1.below hb; (try clear eK1); have eK1 := Blk.ev K1; (try clear eV kV rV hV dV aV nV cV); have qV := V; obtain ⟨aV, nV, cV, kV, hV, rV, dV⟩ := qV; have eV := Blk.ev kV) | (go_at_call 30; with_reducible refine (enum_c _ _).mono ?_; rintro e w' ⟨rfl, rfl⟩) | (go_at_call 46; with_reducible refine (sameDev_c _ _ _ _ _ _ _ _ _ _ aV aX0 cV cX0 nV nX0 x.d.ops x.d.ops _ rV rX0 hV hX0).mono ?_; rintro e w3 ⟨rfl, hb⟩; have HB := HB.trans (hb.mono HB.size)) | fail)
    all_goals (go_ret; exact ⟨Ops.retB (by simp [sameDev]), HB⟩))
set_option maxRecDepth 100000 in
set_option maxHeartbeats 12800000 in
theorem papart_2 (x : WS) (fi : ByteArray) (lo cu : Int) (F : ByteArray) (D : DS) (A : Option Addr) (n c : Nat) (w : World) (hl : Row w A x.d.ops) (hn : x.d.ops.length = n) (hx : True)
    (aw : Hid (∀ W : World, Calls Tryz.prog 42 #[] W fun e w' => e = .returned (.bool true) ∧ Below W.heap.size W w'))
    (dc : Hid (∀ (W : World) (B : Option Addr) (m d : Nat), Row W B x.d.ops → x.d.ops.length = m → Calls Tryz.prog 32 #[.agg (x.cs B m d), .agg #[.int .i64 2, .string fi, .int .i64 lo, .int .i64 cu]] W (Gave W (⟨F, x.v, x.p, x.r, D, x.h⟩) 0))) :
    Calls Tryz.prog 8 #[.agg (x.cs A n c), .agg #[.int .i64 2, .string fi, .int .i64 lo, .int .i64 cu]] w fun e w' => e = .returned (.bool true) ∧ Below w.heap.size w w' := by
  have HB := Below.refl w.heap.size w
  have K0 := Blk.new w (x.cs A n c) 32
  have K1 := Blk.new1 w (.cells (x.cs A n c) 32) #[.int .i64 2, .string fi, .int .i64 lo, .int .i64 cu] 41
  rcases Bool.eq_false_or_eq_true (F.toList == x.f.toList) with hF | hF
  all_goals (
    go_enter Tryz.func8, Tryz.ntmps8
    go_upto_region 3 with (first | (go_at_call 42; with_reducible refine (aw.out _).mono ?_; rintro e w' ⟨rfl, hb⟩; have HB := bl_step (w := w) zq0 hb; have hzB := HB.size; have K0 := Blk.on zq3 zq10 hb; (try clear eK0); have eK0 := Blk.ev K0; have K1 := Blk.on zq6 zq9 hb; (try clear eK1); have eK1 := Blk.ev K1) | fail)
    have X0 : Wat w' w.heap.size 0 w.heap.size x := wat_arg K0 hn hl HB 0
    clear K0 eK0 aw hl hn
    (try clear eX0 kX0 rX0 hX0 dX0 aX0 nX0 cX0); have qX0 := X0; obtain ⟨aX0, nX0, cX0, kX0, hX0, rX0, dX0⟩ := qX0; have eX0 := Blk.ev kX0
    go_wp2_with (first | (refine wpList_loadw rfl _ rfl kX0 rfl rfl ?_) | (refine wpList_loadw rfl _ rfl kV rfl rfl ?_) | (go_at_call 32; (with_reducible refine (dc.out _ _ _ cX0 rX0 hX0).mono ?_); rintro e wk ⟨⟨awV, nwV, cwV, rfl, hwV, owV⟩, hb⟩; have HB := HB.trans (hb.mono HB.size); have X0 := X0.below hb; (try clear eX0 kX0 rX0 hX0 dX0 aX0 nX0 cX0); have qX0 := X0; obtain ⟨aX0, nX0, cX0, kX0, hX0, rX0, dX0⟩ := qX0; have eX0 := Blk.ev kX0; have K1 := K1.below hb; (try clear eK1); have eK1 := Blk.ev K1) | (refine wpList_putw (lo := w.heap.size) rfl _ _ rfl (Blk.new wk _ _) rfl rfl rfl hwV (owV.alloc _).1 (keeps_new owV) ?_; intro wv V hgV; have hb := bl_newput hgV; have gbV : w.heap.size ≤ wk.heap.size := HB.size; clear hwV owV; have ltVX0 := X0.lt; have ltVK1 := K1.lt; have HB := HB.trans (hb.mono HB.size); have X0 := X0.below hb; (try clear eX0 kX0 rX0 hX0 dX0 aX0 nX0 cX0); have qX0 := X0; obtain ⟨aX0, nX0, cX0, kX0, hX0, rX0, dX0⟩ := qX0; have eX0 := Blk.ev kX0; have K1 := K1.below hb; (try clear eK1); have eK1 := Blk.ev K1; (try clear eV kV rV hV dV aV nV cV); have qV := V; obtain ⟨aV, nV, cV, kV, hV, rV, dV⟩ := qV; have eV := Blk.ev kV) | (go_at_call 30; with_reducible refine (enum_c _ _).mono ?_; rintro e w' ⟨rfl, rfl⟩) | (go_at_call 46; with_reducible refine (sameDev_c _ _ _ _ _ _ _ _ _ _ aV aX0 cV cX0 nV nX0 x.d.ops x.d.ops _ rV rX0 hV hX0).mono ?_; rintro e w3 ⟨rfl, hb⟩; have HB := HB.trans (hb.mono HB.size)) | fail)
    all_goals (go_ret; exact ⟨Ops.retB (by simp [sameDev]), HB⟩))
set_option maxRecDepth 100000 in
set_option maxHeartbeats 12800000 in
theorem papart_3 (x : WS) (fi : ByteArray) (lo cu : Int) (F : ByteArray) (D : DS) (A : Option Addr) (n c : Nat) (w : World) (hl : Row w A x.d.ops) (hn : x.d.ops.length = n) (hx : True)
    (aw : Hid (∀ W : World, Calls Tryz.prog 42 #[] W fun e w' => e = .returned (.bool true) ∧ Below W.heap.size W w'))
    (dc : Hid (∀ (W : World) (B : Option Addr) (m d : Nat), Row W B x.d.ops → x.d.ops.length = m → Calls Tryz.prog 32 #[.agg (x.cs B m d), .agg #[.int .i64 3, .string fi, .int .i64 lo, .int .i64 cu]] W (Gave W (⟨F, x.v, x.p, x.r, D, x.h⟩) 0))) :
    Calls Tryz.prog 8 #[.agg (x.cs A n c), .agg #[.int .i64 3, .string fi, .int .i64 lo, .int .i64 cu]] w fun e w' => e = .returned (.bool true) ∧ Below w.heap.size w w' := by
  have HB := Below.refl w.heap.size w
  have K0 := Blk.new w (x.cs A n c) 32
  have K1 := Blk.new1 w (.cells (x.cs A n c) 32) #[.int .i64 3, .string fi, .int .i64 lo, .int .i64 cu] 41
  rcases Bool.eq_false_or_eq_true (F.toList == x.f.toList) with hF | hF
  all_goals (
    go_enter Tryz.func8, Tryz.ntmps8
    go_upto_region 3 with (first | (go_at_call 42; with_reducible refine (aw.out _).mono ?_; rintro e w' ⟨rfl, hb⟩; have HB := bl_step (w := w) zq0 hb; have hzB := HB.size; have K0 := Blk.on zq3 zq10 hb; (try clear eK0); have eK0 := Blk.ev K0; have K1 := Blk.on zq6 zq9 hb; (try clear eK1); have eK1 := Blk.ev K1) | fail)
    have X0 : Wat w' w.heap.size 0 w.heap.size x := wat_arg K0 hn hl HB 0
    clear K0 eK0 aw hl hn
    (try clear eX0 kX0 rX0 hX0 dX0 aX0 nX0 cX0); have qX0 := X0; obtain ⟨aX0, nX0, cX0, kX0, hX0, rX0, dX0⟩ := qX0; have eX0 := Blk.ev kX0
    go_wp2_with (first | (refine wpList_loadw rfl _ rfl kX0 rfl rfl ?_) | (refine wpList_loadw rfl _ rfl kV rfl rfl ?_) | (go_at_call 32; (with_reducible refine (dc.out _ _ _ cX0 rX0 hX0).mono ?_); rintro e wk ⟨⟨awV, nwV, cwV, rfl, hwV, owV⟩, hb⟩; have HB := HB.trans (hb.mono HB.size); have X0 := X0.below hb; (try clear eX0 kX0 rX0 hX0 dX0 aX0 nX0 cX0); have qX0 := X0; obtain ⟨aX0, nX0, cX0, kX0, hX0, rX0, dX0⟩ := qX0; have eX0 := Blk.ev kX0; have K1 := K1.below hb; (try clear eK1); have eK1 := Blk.ev K1) | (refine wpList_putw (lo := w.heap.size) rfl _ _ rfl (Blk.new wk _ _) rfl rfl rfl hwV (owV.alloc _).1 (keeps_new owV) ?_; intro wv V hgV; have hb := bl_newput hgV; have gbV : w.heap.size ≤ wk.heap.size := HB.size; clear hwV owV; have ltVX0 := X0.lt; have ltVK1 := K1.lt; have HB := HB.trans (hb.mono HB.size); have X0 := X0.below hb; (try clear eX0 kX0 rX0 hX0 dX0 aX0 nX0 cX0); have qX0 := X0; obtain ⟨aX0, nX0, cX0, kX0, hX0, rX0, dX0⟩ := qX0; have eX0 := Blk.ev kX0; have K1 := K1.below hb; (try clear eK1); have eK1 := Blk.ev K1; (try clear eV kV rV hV dV aV nV cV); have qV := V; obtain ⟨aV, nV, cV, kV, hV, rV, dV⟩ := qV; have eV := Blk.ev kV) | (go_at_call 30; with_reducible refine (enum_c _ _).mono ?_; rintro e w' ⟨rfl, rfl⟩) | (go_at_call 46; with_reducible refine (sameDev_c _ _ _ _ _ _ _ _ _ _ aV aX0 cV cX0 nV nX0 x.d.ops x.d.ops _ rV rX0 hV hX0).mono ?_; rintro e w3 ⟨rfl, hb⟩; have HB := HB.trans (hb.mono HB.size)) | fail)
    all_goals (go_ret; exact ⟨Ops.retB (by simp [sameDev]), HB⟩))
set_option maxRecDepth 100000 in
set_option maxHeartbeats 12800000 in
theorem papart_4 (x : WS) (fi : ByteArray) (lo cu : Int) (D : DS) (A : Option Addr) (n c : Nat) (w : World) (hl : Row w A x.d.ops) (hn : x.d.ops.length = n)
    (aw : Hid (∀ W : World, Calls Tryz.prog 42 #[] W fun e w' => e = .returned (.bool true) ∧ Below W.heap.size W w'))
    (dc : Hid (∀ (W : World) (B : Option Addr) (m d : Nat), Row W B x.d.ops → x.d.ops.length = m → Calls Tryz.prog 32 #[.agg (x.cs B m d), .agg #[.int .i64 4, .string fi, .int .i64 lo, .int .i64 cu]] W (Gave W (⟨x.f, x.v, x.p, x.r, D, x.h⟩) 0))) :
    Calls Tryz.prog 8 #[.agg (x.cs A n c), .agg #[.int .i64 4, .string fi, .int .i64 lo, .int .i64 cu]] w fun e w' => e = .returned (.bool true) ∧ Below w.heap.size w w' := by
  have HB := Below.refl w.heap.size w
  have K0 := Blk.new w (x.cs A n c) 32
  have K1 := Blk.new1 w (.cells (x.cs A n c) 32) #[.int .i64 4, .string fi, .int .i64 lo, .int .i64 cu] 41
  skip
  all_goals (
    go_enter Tryz.func8, Tryz.ntmps8
    go_upto_region 3 with (first | (go_at_call 42; with_reducible refine (aw.out _).mono ?_; rintro e w' ⟨rfl, hb⟩; have HB := bl_step (w := w) zq0 hb; have hzB := HB.size; have K0 := Blk.on zq3 zq10 hb; (try clear eK0); have eK0 := Blk.ev K0; have K1 := Blk.on zq6 zq9 hb; (try clear eK1); have eK1 := Blk.ev K1) | fail)
    have X0 : Wat w' w.heap.size 0 w.heap.size x := wat_arg K0 hn hl HB 0
    clear K0 eK0 aw hl hn
    (try clear eX0 kX0 rX0 hX0 dX0 aX0 nX0 cX0); have qX0 := X0; obtain ⟨aX0, nX0, cX0, kX0, hX0, rX0, dX0⟩ := qX0; have eX0 := Blk.ev kX0
    go_wp2_with (first | (refine wpList_loadw rfl _ rfl kX0 rfl rfl ?_) | (refine wpList_loadw rfl _ rfl kV rfl rfl ?_) | (go_at_call 32; (with_reducible refine (dc.out _ _ _ cX0 rX0 hX0).mono ?_); rintro e wk ⟨⟨awV, nwV, cwV, rfl, hwV, owV⟩, hb⟩; have HB := HB.trans (hb.mono HB.size); have X0 := X0.below hb; (try clear eX0 kX0 rX0 hX0 dX0 aX0 nX0 cX0); have qX0 := X0; obtain ⟨aX0, nX0, cX0, kX0, hX0, rX0, dX0⟩ := qX0; have eX0 := Blk.ev kX0; have K1 := K1.below hb; (try clear eK1); have eK1 := Blk.ev K1) | (refine wpList_putw (lo := w.heap.size) rfl _ _ rfl (Blk.new wk _ _) rfl rfl rfl hwV (owV.alloc _).1 (keeps_new owV) ?_; intro wv V hgV; have hb := bl_newput hgV; have gbV : w.heap.size ≤ wk.heap.size := HB.size; clear hwV owV; have ltVX0 := X0.lt; have ltVK1 := K1.lt; have HB := HB.trans (hb.mono HB.size); have X0 := X0.below hb; (try clear eX0 kX0 rX0 hX0 dX0 aX0 nX0 cX0); have qX0 := X0; obtain ⟨aX0, nX0, cX0, kX0, hX0, rX0, dX0⟩ := qX0; have eX0 := Blk.ev kX0; have K1 := K1.below hb; (try clear eK1); have eK1 := Blk.ev K1; (try clear eV kV rV hV dV aV nV cV); have qV := V; obtain ⟨aV, nV, cV, kV, hV, rV, dV⟩ := qV; have eV := Blk.ev kV) | (go_at_call 30; with_reducible refine (enum_c _ _).mono ?_; rintro e w' ⟨rfl, rfl⟩) | (go_at_call 46; with_reducible refine (sameDev_c _ _ _ _ _ _ _ _ _ _ aV aX0 cV cX0 nV nX0 x.d.ops x.d.ops _ rV rX0 hV hX0).mono ?_; rintro e w3 ⟨rfl, hb⟩; have HB := HB.trans (hb.mono HB.size)) | fail)
    all_goals (go_ret; exact ⟨Ops.retB (by simp [sameDev]), HB⟩))
set_option maxRecDepth 100000 in
set_option maxHeartbeats 12800000 in
theorem papart_10 (x : WS) (fi : ByteArray) (cu : Int) (D : DS) (H : HS) (A : Option Addr) (n c : Nat) (w : World) (hl : Row w A x.d.ops) (hn : x.d.ops.length = n)
    (aw : Hid (∀ W : World, Calls Tryz.prog 42 #[] W fun e w' => e = .returned (.bool true) ∧ Below W.heap.size W w'))
    (dc : Hid (∀ (W : World) (B : Option Addr) (m d : Nat), Row W B x.d.ops → x.d.ops.length = m → Calls Tryz.prog 32 #[.agg (x.cs B m d), .agg #[.int .i64 1, .string fi, .int .i64 0, .int .i64 cu]] W (Gave W (⟨x.f, x.v, x.p, x.r, D, H⟩) 0))) :
    Calls Tryz.prog 8 #[.agg (x.cs A n c), .agg #[.int .i64 1, .string fi, .int .i64 0, .int .i64 cu]] w fun e w' => e = .returned (.bool true) ∧ Below w.heap.size w w' := by
  have HB := Below.refl w.heap.size w
  have K0 := Blk.new w (x.cs A n c) 32
  have K1 := Blk.new1 w (.cells (x.cs A n c) 32) #[.int .i64 1, .string fi, .int .i64 0, .int .i64 cu] 41
  skip
  all_goals (
    go_enter Tryz.func8, Tryz.ntmps8
    go_upto_region 3 with (first | (go_at_call 42; with_reducible refine (aw.out _).mono ?_; rintro e w' ⟨rfl, hb⟩; have HB := bl_step (w := w) zq0 hb; have hzB := HB.size; have K0 := Blk.on zq3 zq10 hb; (try clear eK0); have eK0 := Blk.ev K0; have K1 := Blk.on zq6 zq9 hb; (try clear eK1); have eK1 := Blk.ev K1) | fail)
    have X0 : Wat w' w.heap.size 0 w.heap.size x := wat_arg K0 hn hl HB 0
    clear K0 eK0 aw hl hn
    (try clear eX0 kX0 rX0 hX0 dX0 aX0 nX0 cX0); have qX0 := X0; obtain ⟨aX0, nX0, cX0, kX0, hX0, rX0, dX0⟩ := qX0; have eX0 := Blk.ev kX0
    go_wp2_with (first | (refine wpList_loadw rfl _ rfl kX0 rfl rfl ?_) | (refine wpList_loadw rfl _ rfl kV rfl rfl ?_) | (go_at_call 32; (with_reducible refine (dc.out _ _ _ cX0 rX0 hX0).mono ?_); rintro e wk ⟨⟨awV, nwV, cwV, rfl, hwV, owV⟩, hb⟩; have HB := HB.trans (hb.mono HB.size); have X0 := X0.below hb; (try clear eX0 kX0 rX0 hX0 dX0 aX0 nX0 cX0); have qX0 := X0; obtain ⟨aX0, nX0, cX0, kX0, hX0, rX0, dX0⟩ := qX0; have eX0 := Blk.ev kX0; have K1 := K1.below hb; (try clear eK1); have eK1 := Blk.ev K1) | (refine wpList_putw (lo := w.heap.size) rfl _ _ rfl (Blk.new wk _ _) rfl rfl rfl hwV (owV.alloc _).1 (keeps_new owV) ?_; intro wv V hgV; have hb := bl_newput hgV; have gbV : w.heap.size ≤ wk.heap.size := HB.size; clear hwV owV; have ltVX0 := X0.lt; have ltVK1 := K1.lt; have HB := HB.trans (hb.mono HB.size); have X0 := X0.below hb; (try clear eX0 kX0 rX0 hX0 dX0 aX0 nX0 cX0); have qX0 := X0; obtain ⟨aX0, nX0, cX0, kX0, hX0, rX0, dX0⟩ := qX0; have eX0 := Blk.ev kX0; have K1 := K1.below hb; (try clear eK1); have eK1 := Blk.ev K1; (try clear eV kV rV hV dV aV nV cV); have qV := V; obtain ⟨aV, nV, cV, kV, hV, rV, dV⟩ := qV; have eV := Blk.ev kV) | (go_at_call 30; with_reducible refine (enum_c _ _).mono ?_; rintro e w' ⟨rfl, rfl⟩) | (go_at_call 46; with_reducible refine (sameDev_c _ _ _ _ _ _ _ _ _ _ aV aX0 cV cX0 nV nX0 x.d.ops x.d.ops _ rV rX0 hV hX0).mono ?_; rintro e w3 ⟨rfl, hb⟩; have HB := HB.trans (hb.mono HB.size)) | fail)
    all_goals (go_ret; exact ⟨Ops.retB (by simp [sameDev]), HB⟩))
set_option maxRecDepth 100000 in
set_option maxHeartbeats 12800000 in
theorem papart_12 (x : WS) (fi : ByteArray) (cu : Int) (D : DS) (H : HS) (A : Option Addr) (n c : Nat) (w : World) (hl : Row w A x.d.ops) (hn : x.d.ops.length = n)
    (aw : Hid (∀ W : World, Calls Tryz.prog 42 #[] W fun e w' => e = .returned (.bool true) ∧ Below W.heap.size W w'))
    (dc : Hid (∀ (W : World) (B : Option Addr) (m d : Nat), Row W B x.d.ops → x.d.ops.length = m → Calls Tryz.prog 32 #[.agg (x.cs B m d), .agg #[.int .i64 1, .string fi, .int .i64 2, .int .i64 cu]] W (Gave W (⟨x.f, x.v, x.p, x.r, D, H⟩) 0))) :
    Calls Tryz.prog 8 #[.agg (x.cs A n c), .agg #[.int .i64 1, .string fi, .int .i64 2, .int .i64 cu]] w fun e w' => e = .returned (.bool true) ∧ Below w.heap.size w w' := by
  have HB := Below.refl w.heap.size w
  have K0 := Blk.new w (x.cs A n c) 32
  have K1 := Blk.new1 w (.cells (x.cs A n c) 32) #[.int .i64 1, .string fi, .int .i64 2, .int .i64 cu] 41
  skip
  all_goals (
    go_enter Tryz.func8, Tryz.ntmps8
    go_upto_region 3 with (first | (go_at_call 42; with_reducible refine (aw.out _).mono ?_; rintro e w' ⟨rfl, hb⟩; have HB := bl_step (w := w) zq0 hb; have hzB := HB.size; have K0 := Blk.on zq3 zq10 hb; (try clear eK0); have eK0 := Blk.ev K0; have K1 := Blk.on zq6 zq9 hb; (try clear eK1); have eK1 := Blk.ev K1) | fail)
    have X0 : Wat w' w.heap.size 0 w.heap.size x := wat_arg K0 hn hl HB 0
    clear K0 eK0 aw hl hn
    (try clear eX0 kX0 rX0 hX0 dX0 aX0 nX0 cX0); have qX0 := X0; obtain ⟨aX0, nX0, cX0, kX0, hX0, rX0, dX0⟩ := qX0; have eX0 := Blk.ev kX0
    go_wp2_with (first | (refine wpList_loadw rfl _ rfl kX0 rfl rfl ?_) | (refine wpList_loadw rfl _ rfl kV rfl rfl ?_) | (go_at_call 32; (with_reducible refine (dc.out _ _ _ cX0 rX0 hX0).mono ?_); rintro e wk ⟨⟨awV, nwV, cwV, rfl, hwV, owV⟩, hb⟩; have HB := HB.trans (hb.mono HB.size); have X0 := X0.below hb; (try clear eX0 kX0 rX0 hX0 dX0 aX0 nX0 cX0); have qX0 := X0; obtain ⟨aX0, nX0, cX0, kX0, hX0, rX0, dX0⟩ := qX0; have eX0 := Blk.ev kX0; have K1 := K1.below hb; (try clear eK1); have eK1 := Blk.ev K1) | (refine wpList_putw (lo := w.heap.size) rfl _ _ rfl (Blk.new wk _ _) rfl rfl rfl hwV (owV.alloc _).1 (keeps_new owV) ?_; intro wv V hgV; have hb := bl_newput hgV; have gbV : w.heap.size ≤ wk.heap.size := HB.size; clear hwV owV; have ltVX0 := X0.lt; have ltVK1 := K1.lt; have HB := HB.trans (hb.mono HB.size); have X0 := X0.below hb; (try clear eX0 kX0 rX0 hX0 dX0 aX0 nX0 cX0); have qX0 := X0; obtain ⟨aX0, nX0, cX0, kX0, hX0, rX0, dX0⟩ := qX0; have eX0 := Blk.ev kX0; have K1 := K1.below hb; (try clear eK1); have eK1 := Blk.ev K1; (try clear eV kV rV hV dV aV nV cV); have qV := V; obtain ⟨aV, nV, cV, kV, hV, rV, dV⟩ := qV; have eV := Blk.ev kV) | (go_at_call 30; with_reducible refine (enum_c _ _).mono ?_; rintro e w' ⟨rfl, rfl⟩) | (go_at_call 46; with_reducible refine (sameDev_c _ _ _ _ _ _ _ _ _ _ aV aX0 cV cX0 nV nX0 x.d.ops x.d.ops _ rV rX0 hV hX0).mono ?_; rintro e w3 ⟨rfl, hb⟩; have HB := HB.trans (hb.mono HB.size)) | fail)
    all_goals (go_ret; exact ⟨Ops.retB (by simp [sameDev]), HB⟩))
set_option maxRecDepth 100000 in
set_option maxHeartbeats 12800000 in
theorem papart_11 (x : WS) (fi : ByteArray) (cu : Int) (H : HS) (A : Option Addr) (n c : Nat) (w : World) (hl : Row w A x.d.ops) (hn : x.d.ops.length = n)
    (aw : Hid (∀ W : World, Calls Tryz.prog 42 #[] W fun e w' => e = .returned (.bool true) ∧ Below W.heap.size W w'))
    (dc : Hid (∀ (W : World) (B : Option Addr) (m d : Nat), Row W B x.d.ops → x.d.ops.length = m → Calls Tryz.prog 32 #[.agg (x.cs B m d), .agg #[.int .i64 1, .string fi, .int .i64 1, .int .i64 cu]] W (Gave W (⟨x.f, x.v, x.p, x.r, x.d, H⟩) 0))) :
    Calls Tryz.prog 8 #[.agg (x.cs A n c), .agg #[.int .i64 1, .string fi, .int .i64 1, .int .i64 cu]] w fun e w' => e = .returned (.bool true) ∧ Below w.heap.size w w' := by
  have HB := Below.refl w.heap.size w
  have K0 := Blk.new w (x.cs A n c) 32
  have K1 := Blk.new1 w (.cells (x.cs A n c) 32) #[.int .i64 1, .string fi, .int .i64 1, .int .i64 cu] 41
  skip
  all_goals (
    go_enter Tryz.func8, Tryz.ntmps8
    go_upto_region 3 with (first | (go_at_call 42; with_reducible refine (aw.out _).mono ?_; rintro e w' ⟨rfl, hb⟩; have HB := bl_step (w := w) zq0 hb; have hzB := HB.size; have K0 := Blk.on zq3 zq10 hb; (try clear eK0); have eK0 := Blk.ev K0; have K1 := Blk.on zq6 zq9 hb; (try clear eK1); have eK1 := Blk.ev K1) | fail)
    have X0 : Wat w' w.heap.size 0 w.heap.size x := wat_arg K0 hn hl HB 0
    clear K0 eK0 aw hl hn
    (try clear eX0 kX0 rX0 hX0 dX0 aX0 nX0 cX0); have qX0 := X0; obtain ⟨aX0, nX0, cX0, kX0, hX0, rX0, dX0⟩ := qX0; have eX0 := Blk.ev kX0
    go_wp2_with (first | (refine wpList_loadw rfl _ rfl kX0 rfl rfl ?_) | (refine wpList_loadw rfl _ rfl kV rfl rfl ?_) | (go_at_call 32; (with_reducible refine (dc.out _ _ _ cX0 rX0 hX0).mono ?_); rintro e wk ⟨⟨awV, nwV, cwV, rfl, hwV, owV⟩, hb⟩; have HB := HB.trans (hb.mono HB.size); have X0 := X0.below hb; (try clear eX0 kX0 rX0 hX0 dX0 aX0 nX0 cX0); have qX0 := X0; obtain ⟨aX0, nX0, cX0, kX0, hX0, rX0, dX0⟩ := qX0; have eX0 := Blk.ev kX0; have K1 := K1.below hb; (try clear eK1); have eK1 := Blk.ev K1) | (refine wpList_putw (lo := w.heap.size) rfl _ _ rfl (Blk.new wk _ _) rfl rfl rfl hwV (owV.alloc _).1 (keeps_new owV) ?_; intro wv V hgV; have hb := bl_newput hgV; have gbV : w.heap.size ≤ wk.heap.size := HB.size; clear hwV owV; have ltVX0 := X0.lt; have ltVK1 := K1.lt; have HB := HB.trans (hb.mono HB.size); have X0 := X0.below hb; (try clear eX0 kX0 rX0 hX0 dX0 aX0 nX0 cX0); have qX0 := X0; obtain ⟨aX0, nX0, cX0, kX0, hX0, rX0, dX0⟩ := qX0; have eX0 := Blk.ev kX0; have K1 := K1.below hb; (try clear eK1); have eK1 := Blk.ev K1; (try clear eV kV rV hV dV aV nV cV); have qV := V; obtain ⟨aV, nV, cV, kV, hV, rV, dV⟩ := qV; have eV := Blk.ev kV) | (go_at_call 30; with_reducible refine (enum_c _ _).mono ?_; rintro e w' ⟨rfl, rfl⟩) | (go_at_call 46; with_reducible refine (sameDev_c _ _ _ _ _ _ _ _ _ _ aV aX0 cV cX0 nV nX0 x.d.ops x.d.ops _ rV rX0 hV hX0).mono ?_; rintro e w3 ⟨rfl, hb⟩; have HB := HB.trans (hb.mono HB.size)) | fail)
    all_goals (go_ret; exact ⟨Ops.retB (by simp [sameDev]), HB⟩))
theorem papart_w (x : WS) (a : AS) (A : Option Addr) (n c : Nat) (w : World) (z : x.Fits) (hl : Row w A x.d.ops) (hn : x.d.ops.length = n) (hfi : a.fi.size ≤ 9223372036854775807) :
    Calls Tryz.prog 8 #[.agg (x.cs A n c), .agg a.cs] w fun e w' => e = .returned (.bool true) ∧ Below w.heap.size w w' := by
  have aw : Hid (∀ W : World, Calls Tryz.prog 42 #[] W fun e w' => e = .returned (.bool true) ∧ Below W.heap.size W w') := Lib.hid awake24_c
  cases hd : doOk x a
  · have e : doW x a = WS.zero ∧ doE x a = 2400 := by simp [doW, doE, hd]
    exact papart_no x WS.zero a A n c w hl hn aw (Lib.hid (do_g z hfi e)) (Lib.hid (same_refl _))
  · have hm : x.may = true ∧ a.may = true := by simpa [doOk] using hd
    have e : doW x a = doneW x a ∧ doE x a = 0 := by simp [doW, doE, hd]
    have hk := act_k hm.2
    have dg := fun (y : WS) (q : doneW x a = y) => (Lib.hid (do_g (x := x) (a := a) (y := y) (E := 0) z hfi (by rw [← q]; exact e)) : Hid (∀ (W : World) (B : Option Addr) (m d : Nat), Row W B x.d.ops → x.d.ops.length = m → Calls Tryz.prog 32 #[.agg (x.cs B m d), .agg a.cs] W (Gave W y 0)))
    obtain ⟨k, fi, lo, cu⟩ := a
    simp only at hk
    rcases hk with rfl | ⟨rfl, hlo⟩ | rfl | ⟨rfl, hcu⟩ | rfl | rfl
    · rcases Bool.eq_false_or_eq_true (offB x.h.ph) with ho | ho
      · exact papart_0 x fi lo cu _ A n c w hl hn aw (dg _ (by simp [doneW, ho]; rfl))
      · exact papart_0 x fi lo cu x.h A n c w hl hn aw (dg _ (by simp [doneW, ho]))
    · rcases hlo with rfl | rfl | rfl
      · rcases Bool.eq_false_or_eq_true (offB x.h.ph) with ho | ho
        · exact papart_10 x fi cu x.d x.h A n c w hl hn aw (dg _ (by simp [doneW, stepW, ho]))
        · exact papart_10 x fi cu _ _ A n c w hl hn aw (dg _ (by simp [doneW, stepW, ho]; exact ⟨rfl, rfl⟩))
      · rcases Bool.eq_false_or_eq_true (offB x.h.ph) with ho | ho
        · exact papart_11 x fi cu x.h A n c w hl hn aw (dg _ (by simp [doneW, stepW, ho]))
        · exact papart_11 x fi cu _ A n c w hl hn aw (dg _ (by simp [doneW, stepW, ho]; rfl))
      · rcases Bool.eq_false_or_eq_true (offB x.h.ph) with ho | ho
        · exact papart_12 x fi cu x.d x.h A n c w hl hn aw (dg _ (by simp [doneW, stepW, ho]))
        · exact papart_12 x fi cu _ _ A n c w hl hn aw (dg _ (by simp [doneW, stepW, ho]; exact ⟨rfl, rfl⟩))
    · exact papart_2 x fi lo cu _ _ A n c w hl hn trivial aw (dg _ (by simp [doneW]; exact ⟨rfl, rfl⟩))
    · exact papart_3 x fi lo cu _ _ A n c w hl hn trivial aw (dg _ (by simp [doneW]; exact ⟨rfl, rfl⟩))
    · exact papart_4 x fi lo cu _ A n c w hl hn aw (dg _ (by simp [doneW]; rfl))
    · exact papart_5 x fi lo cu _ A n c w hl hn aw (dg _ (by simp [doneW]; rfl))
end Go.Proofs.YtccblleobcidfaaGreat.Wo

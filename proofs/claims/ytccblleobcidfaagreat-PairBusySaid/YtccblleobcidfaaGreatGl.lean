/- Texts laid as one: Wsm Wat Wbx Wrm. -/
import Derived.Test.YtccblleobcidfaaGreatGi
import Derived.Test.YtccblleobcidfaaGreatGa
import Derived.Test.YtccblleobcidfaaGreatGb
import Derived.Test.YtccblleobcidfaaGreatHsr
import Derived.Test.YtccblleobcidfaaGreatGt
/- Layer 24: worlds alike. -/
section
namespace Go.Proofs.YtccblleobcidfaaGreat.Wo
open Go.RowKit Go.Proofs.YtccblleobcidfaaGreat.Kt Go.Proofs.YtccblleobcidfaaGreat.Lw Go.Proofs.YtccblleobcidfaaGreat.St Go.Proofs.YtccblleobcidfaaGreat.Nm Go.Proofs.YtccblleobcidfaaGreat.Es Go.Proofs.YtccblleobcidfaaGreat.Sl Go.Proofs.YtccblleobcidfaaGreat.Ops Go.Proofs.YtccblleobcidfaaGreat.Fl Go.Proofs.YtccblleobcidfaaGreat.Dv Go.Proofs.YtccblleobcidfaaGreat.Ho Go.Proofs.YtccblleobcidfaaGreat.Rp
set_option linter.unusedVariables false
set_option linter.unusedSimpArgs false
attribute [local go_sem high] eqHost eqIds
/-- all of two worlds alike. -/
def sameW (x y : WS) : Bool := (x.f.toList == y.f.toList) && ((x.v == y.v && (x.p == y.p && (x.r == y.r))) && (sameDev x.d.st x.d.su x.d.nx x.d.go x.d.sl x.d.ops y.d.st y.d.su y.d.nx y.d.go y.d.sl y.d.ops && ((x.h.ph == y.h.ph) && ((x.h.im.toList == y.h.im.toList) && ((x.h.bl == y.h.bl) && ((x.h.ag == y.h.ag) && ((x.h.tr == y.h.tr) && ((x.h.rd.toList == y.h.rd.toList) && (x.h.rp == y.h.rp)))))))))
theorem same_iff {x y : WS} : sameW x y = true ↔ x = y := by
  obtain ⟨f, v, p, r, ⟨a0, a1, a2, a3, a4, xs⟩, ⟨h0, h1, h2, h3, h4, h5, h6⟩⟩ := x
  obtain ⟨f', v', p', r', ⟨a0', a1', a2', a3', a4', xs'⟩, ⟨h0', h1', h2', h3', h4', h5', h6'⟩⟩ := y
  simp only [sameW, sameDev, eqs, Bool.and_eq_true, decide_eq_true_eq, beq_iff_eq, WS.mk.injEq, DS.mk.injEq, HS.mk.injEq]
  constructor
  · rintro ⟨rfl, ⟨rfl, rfl, rfl⟩, ⟨rfl, rfl, rfl, rfl, rfl, rfl⟩, rfl, rfl, rfl, rfl, rfl, rfl, rfl⟩
    simp
  · rintro ⟨rfl, rfl, rfl, rfl, ⟨rfl, rfl, rfl, rfl, rfl, rfl⟩, rfl, rfl, rfl, rfl, rfl, rfl, rfl⟩
    simp
theorem same_refl (x : WS) : sameW x x = true := same_iff.2 rfl
set_option maxRecDepth 100000 in
set_option maxHeartbeats 12800000 in
theorem samew_c (x y : WS) (A B : Option Addr) (n c m d : Nat) (w : World) (hl : Row w A x.d.ops) (hr : Row w B y.d.ops) (hn : x.d.ops.length = n) (hm : y.d.ops.length = m) :
    Calls Tryz.prog 38 #[.agg (x.cs A n c), .agg (y.cs B m d)] w fun e w' => e = .returned (.bool (sameW x y)) ∧ Below w.heap.size w w' := by
  have HB := Below.refl w.heap.size w
  have K0 := Blk.new w (x.cs A n c) 32
  have K1 := Blk.new1 w (.cells (x.cs A n c) 32) (y.cs B m d) 32
  have sd := Lib.hid (fun W (h : Below w.heap.size w W) => sameDev_c x.d.st x.d.su x.d.nx x.d.go x.d.sl y.d.st y.d.su y.d.nx y.d.go y.d.sl A B c d n m x.d.ops y.d.ops W (hl.below h) (hr.below h) hn hm)
  have hv : sameW x y = ((x.f.toList == y.f.toList) && ((x.v == y.v && (x.p == y.p && (x.r == y.r))) && (sameDev x.d.st x.d.su x.d.nx x.d.go x.d.sl x.d.ops y.d.st y.d.su y.d.nx y.d.go y.d.sl y.d.ops && ((x.h.ph == y.h.ph) && ((x.h.im.toList == y.h.im.toList) && ((x.h.bl == y.h.bl) && ((x.h.ag == y.h.ag) && ((x.h.tr == y.h.tr) && ((x.h.rd.toList == y.h.rd.toList) && (x.h.rp == y.h.rp)))))))))) := rfl
  rw [hv]
  clear hl hr hn hm hv
  generalize sameDev x.d.st x.d.su x.d.nx x.d.go x.d.sl x.d.ops y.d.st y.d.su y.d.nx y.d.go y.d.sl y.d.ops = sb at *
  have eK0 := Blk.ev K0
  have eK1 := Blk.ev K1
  go_enter Tryz.func38, Tryz.ntmps38
  go_wp2_with (first | (go_at_call 46; with_reducible refine (sd.out _ zq1).mono ?_; rintro e w' ⟨rfl, hb⟩; have HB := bl_step (w := w) zq0 hb; have hzB := HB.size; have K0 := Blk.on zq3 zq10 hb; (try clear eK0); have eK0 := Blk.ev K0; have K1 := Blk.on zq6 zq9 hb; (try clear eK1); have eK1 := Blk.ev K1) | fail)
  all_goals (go_ret; refine ⟨Ops.retB ?_, zq1⟩; simp_all)
theorem samer_c (x : WS) (A B : Option Addr) (n c m d : Nat) (w : World) (hl : Row w A x.d.ops) (hr : Row w B x.d.ops) (hn : x.d.ops.length = n) (hm : x.d.ops.length = m) :
    Calls Tryz.prog 38 #[.agg (x.cs A n c), .agg (x.cs B m d)] w fun e w' => e = .returned (.bool true) ∧ Below w.heap.size w w' :=
  (samew_c x x A B n c m d w hl hr hn hm).mono fun e w' h => ⟨by rw [h.1, same_refl], h.2⟩
theorem samez_c (x : WS) (A : Option Addr) (n c : Nat) (w : World) (hl : Row w A x.d.ops) (hn : x.d.ops.length = n) :
    Calls Tryz.prog 38 #[.agg (x.cs A n c), .agg #[.string ⟨#[]⟩, .int .i64 0, .int .i64 0, .int .i64 0, .int .i64 0, .int .i64 0, .int .i64 0, .int .i64 0, .int .i64 0, .slice none 0 0, .int .i64 0, .string ⟨#[]⟩, .int .i64 0, .bool false, .int .i64 0, .string ⟨#[]⟩, .int .i64 0]] w fun e w' => e = .returned (.bool (sameW x WS.zero)) ∧ Below w.heap.size w w' :=
  samew_c x WS.zero A none n c 0 0 w hl Row.none hn rfl
end Go.Proofs.YtccblleobcidfaaGreat.Wo
end
/- Layer 24: a world in a block: handed to a function, stored, copied. -/
section
namespace Go.Proofs.YtccblleobcidfaaGreat.Wo
open Go.RowKit Go.Proofs.YtccblleobcidfaaGreat.Kt Go.Proofs.YtccblleobcidfaaGreat.Lw Go.Proofs.YtccblleobcidfaaGreat.St Go.Proofs.YtccblleobcidfaaGreat.Nm Go.Proofs.YtccblleobcidfaaGreat.Es Go.Proofs.YtccblleobcidfaaGreat.Sl Go.Proofs.YtccblleobcidfaaGreat.Ops Go.Proofs.YtccblleobcidfaaGreat.Fl Go.Proofs.YtccblleobcidfaaGreat.Dv Go.Proofs.YtccblleobcidfaaGreat.Ho Go.Proofs.YtccblleobcidfaaGreat.Rp
set_option linter.unusedVariables false
set_option linter.unusedSimpArgs false
/-- a world in block g; its steps' row lies below lo, or from m on. -/
def Wat (W : World) (lo m g : Nat) (x : WS) : Prop :=
  ∃ A n c, Blk W g (x.cs A n c) 32 ∧ x.d.ops.length = n ∧ Row W A x.d.ops ∧ (x.d.ops = [] ∨ ∃ b off, A = some ⟨b, off, none⟩ ∧ (b < lo ∨ m ≤ b))
theorem row_to {w w' : World} {r : Option Nat} {A : Option Addr} {xs : List OpV} (h : Row w A xs) (hg : w.grownBy w' r) (hr : ∀ b off, A = some ⟨b, off, none⟩ → some b ≠ r) : Row w' A xs := by
  refine ⟨?_, h.2⟩
  rcases h.1 with e | ⟨b, off, rfl, hlt, hc⟩
  · exact .inl e
  · refine .inr ⟨b, off, rfl, Nat.lt_of_lt_of_le hlt hg.size, fun j x hj i v hv => ?_⟩
    rw [World.cell?_of_block (a := ⟨b, _, none⟩) (hg.block b hlt (hr b off rfl))]
    exact hc j x hj i v hv
theorem Wat.lt {w : World} {lo m g : Nat} {x : WS} (h : Wat w lo m g x) : g < w.heap.size := by
  obtain ⟨A, n, c, K, _⟩ := h
  exact K.lt
theorem Wat.below {w W : World} {lo m g : Nat} {x : WS} (h : Wat w lo m g x) (hb : Below w.heap.size w W) : Wat W lo m g x := by
  obtain ⟨A, n, c, K, hn, R, ha⟩ := h
  exact ⟨A, n, c, K.below hb, hn, R.below hb, ha⟩
theorem Wat.mono {w : World} {lo m m' g : Nat} {x : WS} (h : Wat w lo m g x) (hm : m' ≤ m) : Wat w lo m' g x := by
  obtain ⟨A, n, c, K, hn, R, ha⟩ := h
  refine ⟨A, n, c, K, hn, R, ha.imp_right ?_⟩
  rintro ⟨b, off, e, h⟩
  exact ⟨b, off, e, h.imp_right (fun h => Nat.le_trans hm h)⟩
theorem Wat.grown {w W : World} {lo m g k : Nat} {x : WS} (h : Wat w lo m g x) (hg : w.grownBy W (some k)) (h0 : g ≠ k) (h1 : lo ≤ k) (h2 : k < m) : Wat W lo m g x := by
  obtain ⟨A, n, c, K, hn, R, ha⟩ := h
  refine ⟨A, n, c, (hg.block g K.lt (by simpa using h0)).trans K, hn, ?_, ha⟩
  rcases ha with e | ⟨b, off, rfl, hb⟩
  · rw [e]
    exact Row.none
  · refine row_to R hg fun b' off' e => ?_
    injection e with e
    injection e with e1 e2
    subst e1
    simp
    omega
theorem wat_arg {w W : World} {g : Nat} {x : WS} {A : Option Addr} {n c : Nat} (K : Blk W g (x.cs A n c) 32) (hn : x.d.ops.length = n) (hl : Row w A x.d.ops) (hb : Below w.heap.size w W) (m : Nat) : Wat W w.heap.size m g x := by
  refine ⟨A, n, c, K, hn, hl.below hb, ?_⟩
  rcases hl.1 with e | ⟨b, off, e, h1, _⟩
  · exact .inl e
  · exact .inr ⟨b, off, e, .inl h1⟩
theorem Wat.alloc {w : World} {lo m g : Nat} {x : WS} (h : Wat w lo m g x) (o : Obj) : Wat (w.alloc o) lo m g x := h.below (bl_alloc (Below.refl _ _) o)
theorem Wat.drew {w : World} {lo m g : Nat} {x : WS} (h : Wat w lo m g x) : Wat w.drew lo m g x := h
abbrev ZW : Array Value := #[.string ⟨#[]⟩, .int .i64 0, .int .i64 0, .int .i64 0, .int .i64 0, .int .i64 0, .int .i64 0, .int .i64 0, .int .i64 0, .slice none 0 0, .int .i64 0, .string ⟨#[]⟩, .int .i64 0, .bool false, .int .i64 0, .string ⟨#[]⟩, .int .i64 0]
theorem alloc_w (ρ : Operand → Value) (o : Oper) (h : o.op = .alloc 32) (w : World) : (execOp ρ o).run Tryz.prog w = .ok (.value (.pointer (some ⟨w.heap.size, 0, none⟩))) (w.alloc (.cells ZW 32)) := by
  unfold execOp
  rw [h]
  kernel_rfl
/-- a load of a world, plain and guarded. -/
theorem wpList_loadw {ops : Array Oper} {rest : List Oper} {o : Oper} {a : Act} {w : World} {Q : Exit → Act → World → Prop} (hg : o.guard = none) (x : Operand) (ho : o.op = .load 32 x)
    {g : Nat} {cs : Array Value} (K : Blk w g cs 32) (hx : a.eval x = .pointer (some ⟨g, 0, none⟩)) (hs : cs.size = 17)
    (h : wpList Tryz.prog ops Q rest (a.put o.dst (.agg cs)) w) : wpList Tryz.prog ops Q (o :: rest) a w :=
  wpList_load_row hg _ x ho g hx 32 cs (0, 0) _ K Tryz.underlying32 rfl (by rw [hs]; kernel_rfl) h
theorem wpList_loadwg {ops : Array Oper} {rest : List Oper} {o : Oper} {a : Act} {w : World} {Q : Exit → Act → World → Prop} (x : Operand) (ho : o.op = .load 32 x)
    {g : Nat} {cs : Array Value} (K : Blk w g cs 32) (hx : a.eval x = .pointer (some ⟨g, 0, none⟩)) (hs : cs.size = 17) (hw : Region.wanted o (yielded ops a.tmps) = true)
    (h : wpList Tryz.prog ops Q rest (a.put o.dst (.agg cs)) w) : wpList Tryz.prog ops Q (o :: rest) a w :=
  wpList_step fun K' hK => by
    rw [if_pos hw]
    exact wp_load_row _ x ho g hx 32 cs (0, 0) _ K Tryz.underlying32 rfl (by rw [hs]; kernel_rfl) (hK _ _ h)
theorem wp_mv {P : Program} {o : Oper} {a : Act} {w : World} {K : Act → World → Prop} {Q : Exit → Act → World → Prop} (x : Operand) (h : o.op = .move x) (hk : K (a.put o.dst (a.eval x)) w) : o.wp P a w K Q := by
  unfold Oper.wp execOp; rw [h]; exact hk
theorem wp_as {P : Program} {o : Oper} {a : Act} {w : World} {K : Act → World → Prop} {Q : Exit → Act → World → Prop} (x : Operand) (h : o.op = .assign x) (hk : K (a.put o.dst (a.eval x)) w) : o.wp P a w K Q := by
  unfold Oper.wp execOp; rw [h]; exact hk
theorem wpList_runw {P : Program} {ops : Array Oper} {rest : List Oper} {o : Oper} {a : Act} {w : World} {Q : Exit → Act → World → Prop} (hg : o.guard = none)
    (v : Value) (w' : World) (hrun : (execOp a.eval o).run P w = .ok (.value v) w') (h : wpList P ops Q rest (a.put o.dst v) w') : wpList P ops Q (o :: rest) a w := by
  refine wpList_plain hg fun K hK => ?_
  unfold Oper.wp
  rw [hrun, Oper.upon_value]
  exact hK _ _ h
/-- a row that keeps off a block. -/
def Keeps (A : Option Addr) (xs : List OpV) (lo m g : Nat) : Prop := xs = [] ∨ ∃ b off, A = some ⟨b, off, none⟩ ∧ b ≠ g ∧ (b < lo ∨ m ≤ b)
/-- a store of a whole world. -/
theorem wpList_putw {ops : Array Oper} {rest : List Oper} {o : Oper} {a : Act} {w : World} {Q : Exit → Act → World → Prop} {x : WS} {lo m gw n c : Nat} {A : Option Addr} {cs : Array Value} (hg : o.guard = none) (p q : Operand)
    (ho : o.op = .store 32 p q) (K : Blk w gw cs 32) (hs : cs.size = 17) (hp : a.eval p = .pointer (some ⟨gw, 0, none⟩)) (hq : a.eval q = .agg (x.cs A n c)) (hn : x.d.ops.length = n) (R : Row w A x.d.ops) (hk : Keeps A x.d.ops lo m gw)
    (h : ∀ W : World, Wat W lo m gw x → w.grownBy W (some gw) → wpList Tryz.prog ops Q rest (a.put o.dst undef) W) : wpList Tryz.prog ops Q (o :: rest) a w := by
  refine wpList_store_row hg _ p q ho gw (x.cs A n c) hp hq 32 cs K (by kernel_rfl) hs (by simp [Value.oneCell']) ?_
  have hgr : w.grownBy (w.setRow gw (x.cs A n c)) (some gw) := gb_row (gb_refl w gw)
  refine h _ ⟨A, n, c, Blk.row K _, hn, ?_, ?_⟩ hgr
  · rcases hk with e | ⟨b, off, rfl, h1, _⟩
    · rw [e]
      exact Row.none
    · refine row_to R hgr fun b' off' e => ?_
      injection e with e
      injection e with e1 e2
      subst e1
      simp [h1]
  · rcases hk with e | ⟨b, off, e, h1, h2⟩
    · exact .inl e
    · exact .inr ⟨b, off, e, h2⟩
theorem keeps_new {w : World} {m lo : Nat} {A : Option Addr} {xs : List OpV} (h : Own w m A xs) : Keeps A xs lo m w.heap.size := by
  rcases h.2 with e | ⟨b, off, e, h1, h2, _⟩
  · exact .inl e
  · exact .inr ⟨b, off, e, by omega, .inr h1⟩
theorem keeps_low {w : World} {m lo g : Nat} {A : Option Addr} {xs : List OpV} (h : Own w m A xs) (hg : g < m) : Keeps A xs lo m g := by
  rcases h.2 with e | ⟨b, off, e, h1, h2, _⟩
  · exact .inl e
  · exact .inr ⟨b, off, e, by omega, .inr h1⟩
theorem keeps_old {m lo g : Nat} {A : Option Addr} {xs : List OpV} (h : xs = [] ∨ ∃ b off, A = some ⟨b, off, none⟩ ∧ (b < lo ∨ m ≤ b)) (h1 : lo ≤ g) (h2 : g < m) : Keeps A xs lo m g := by
  rcases h with e | ⟨b, off, e, h⟩
  · exact .inl e
  · exact .inr ⟨b, off, e, by omega, h⟩
theorem bl_newput {w W : World} {o : Obj} (h : (w.alloc o).grownBy W (some w.heap.size)) : Below w.heap.size w W :=
  bl_grow (bl_alloc (Below.refl _ _) o) h (Nat.le_refl _) (by simp)
theorem fldh (W : World) (v0 : Int) (v1 : ByteArray) (v2 : Int) (v3 : Bool) (v4 : Int) (v5 : ByteArray) (v6 : Int) : (Instr.field 30 (.agg #[.int .i64 v0, .string v1, .int .i64 v2, .bool v3, .int .i64 v4, .string v5, .int .i64 v6]) 1).run Tryz.prog W = .ok (.string v1) W := by kernel_rfl
end Go.Proofs.YtccblleobcidfaaGreat.Wo
end
/- Layer 24: a block that holds some world. -/
section
namespace Go.Proofs.YtccblleobcidfaaGreat.Wo
open Go.RowKit Go.Proofs.YtccblleobcidfaaGreat.Kt Go.Proofs.YtccblleobcidfaaGreat.Lw Go.Proofs.YtccblleobcidfaaGreat.St Go.Proofs.YtccblleobcidfaaGreat.Nm Go.Proofs.YtccblleobcidfaaGreat.Es Go.Proofs.YtccblleobcidfaaGreat.Sl Go.Proofs.YtccblleobcidfaaGreat.Ops Go.Proofs.YtccblleobcidfaaGreat.Fl Go.Proofs.YtccblleobcidfaaGreat.Dv Go.Proofs.YtccblleobcidfaaGreat.Ho Go.Proofs.YtccblleobcidfaaGreat.Rp
set_option linter.unusedVariables false
set_option linter.unusedSimpArgs false
/-- a block that holds some world. -/
def Box (W : World) (g : Nat) : Prop := ∃ cs, Blk W g cs 32 ∧ cs.size = 17
theorem Wat.box {w : World} {lo m g : Nat} {x : WS} (h : Wat w lo m g x) : Box w g := by
  obtain ⟨A, n, c, K, _⟩ := h
  exact ⟨_, K, rfl⟩
theorem Box.below {w W : World} {g : Nat} (h : Box w g) (hb : Below w.heap.size w W) : Box W g := by
  obtain ⟨cs, K, hs⟩ := h
  exact ⟨cs, K.below hb, hs⟩
theorem Box.grown {w W : World} {g k : Nat} (h : Box w g) (hg : w.grownBy W (some k)) (h0 : g ≠ k) : Box W g := by
  obtain ⟨cs, K, hs⟩ := h
  exact ⟨cs, (hg.block g K.lt (by simpa using h0)).trans K, hs⟩
theorem Box.lt {w : World} {g : Nat} (h : Box w g) : g < w.heap.size := by
  obtain ⟨cs, K, hs⟩ := h
  exact K.lt
end Go.Proofs.YtccblleobcidfaaGreat.Wo
end
/- Layer 24: which worlds may be: what the references answer. -/
section
namespace Go.Proofs.YtccblleobcidfaaGreat.Wo
open Go.RowKit Go.Proofs.YtccblleobcidfaaGreat.Kt Go.Proofs.YtccblleobcidfaaGreat.Lw Go.Proofs.YtccblleobcidfaaGreat.St Go.Proofs.YtccblleobcidfaaGreat.Nm Go.Proofs.YtccblleobcidfaaGreat.Es Go.Proofs.YtccblleobcidfaaGreat.Sl Go.Proofs.YtccblleobcidfaaGreat.Ops Go.Proofs.YtccblleobcidfaaGreat.Fl Go.Proofs.YtccblleobcidfaaGreat.Dv Go.Proofs.YtccblleobcidfaaGreat.Ho Go.Proofs.YtccblleobcidfaaGreat.Rp
set_option linter.unusedVariables false
set_option linter.unusedSimpArgs false
attribute [local irreducible] devMay hostMay
set_option maxRecDepth 100000 in
set_option maxHeartbeats 12800000 in
theorem rwmay_c (x : WS) (A : Option Addr) (n c : Nat) (w : World) (z : x.Fits) (hl : Row w A x.d.ops) (hn : x.d.ops.length = n) :
    Calls Tryz.prog 40 #[.agg (x.cs A n c)] w fun e w' => e = .returned (.bool x.may) ∧ Below w.heap.size w w' := by
  have HB := Below.refl w.heap.size w
  have K0 := Blk.new w (x.cs A n c) 32
  have eK0 := Blk.ev K0
  have ii := Lib.hid (fun W : World => Ic.idsMay_c x.v x.p x.r W)
  have dm := Lib.hid (fun W (h : Below w.heap.size w W) => both_c x.f x.d A c n W z.f (hl.below h) hn)
  have hm := Lib.hid (fun W : World => rhmay_c x.h.ph x.h.im x.h.bl x.h.ag x.h.tr x.h.rd x.h.rp W z.i z.r)
  have hv : x.may = (bothB x.f x.d && (Ic.mayB x.v x.p x.r && hostMay x.h.ph x.h.im x.h.bl x.h.tr x.h.rd x.h.rp)) := by
    show (decide (x.f.size = 768) && (Ic.mayB x.v x.p x.r && (x.d.may && x.h.may))) = ((decide (x.f.size = 768) && x.d.may) && (Ic.mayB x.v x.p x.r && x.h.may))
    cases decide (x.f.size = 768) <;> cases Ic.mayB x.v x.p x.r <;> cases x.d.may <;> cases x.h.may <;> rfl
  rw [hv]
  clear hl hv
  generalize bothB x.f x.d = b1 at *
  generalize Ic.mayB x.v x.p x.r = b2 at *
  generalize hostMay x.h.ph x.h.im x.h.bl x.h.tr x.h.rd x.h.rp = b4 at *
  cases b1
  · go_enter Tryz.func40, Tryz.ntmps40
    go_wp2_with (first | (go_at_call 106; with_reducible refine (dm.out _ zq1).mono ?_; rintro e w' ⟨rfl, hb⟩; have HB := bl_step (w := w) zq0 hb; have hzB := HB.size; have K0 := Blk.on zq3 zq10 hb; (try clear eK0); have eK0 := Blk.ev K0) | fail)
    go_ret
    exact ⟨rfl, zq1⟩
  · cases b2
    · go_enter Tryz.func40, Tryz.ntmps40
      go_wp2_with (first | (go_at_call 106; with_reducible refine (dm.out _ zq1).mono ?_; rintro e w' ⟨rfl, hb⟩; have HB := bl_step (w := w) zq0 hb; have hzB := HB.size; have K0 := Blk.on zq3 zq10 hb; (try clear eK0); have eK0 := Blk.ev K0) | (go_at_call 103; with_reducible refine (ii.out _).mono ?_; rintro e w' ⟨rfl, hb⟩; have HB := bl_step (w := w) zq0 hb; have hzB := HB.size; have K0 := Blk.on zq3 zq10 hb; (try clear eK0); have eK0 := Blk.ev K0) | fail)
      go_ret
      exact ⟨rfl, zq1⟩
    · go_enter Tryz.func40, Tryz.ntmps40
      go_wp2_with (first | (go_at_call 106; with_reducible refine (dm.out _ zq1).mono ?_; rintro e w' ⟨rfl, hb⟩; have HB := bl_step (w := w) zq0 hb; have hzB := HB.size; have K0 := Blk.on zq3 zq10 hb; (try clear eK0); have eK0 := Blk.ev K0) | (go_at_call 103; with_reducible refine (ii.out _).mono ?_; rintro e w' ⟨rfl, hb⟩; have HB := bl_step (w := w) zq0 hb; have hzB := HB.size; have K0 := Blk.on zq3 zq10 hb; (try clear eK0); have eK0 := Blk.ev K0) | (go_at_call 61; with_reducible refine (hm.out _).mono ?_; rintro e w' ⟨rfl, hb⟩; have HB := bl_step (w := w) zq0 hb; have hzB := HB.size; have K0 := Blk.on zq3 zq10 hb; (try clear eK0); have eK0 := Blk.ev K0) | fail)
      go_ret
      exact ⟨by simp, zq1⟩
end Go.Proofs.YtccblleobcidfaaGreat.Wo
end

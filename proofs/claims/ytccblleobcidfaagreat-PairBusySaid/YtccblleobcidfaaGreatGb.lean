/- Texts laid as one: Kit Bla Low Str Num Slc Eqs Ops Opq Gro Plj Bits Byt Wld Blc Blx Eqh. -/
import Derived.Test.YtccblleobcidfaaGreatProg
import Derived.WalkKit
import Derived.WalkSpells
import Derived.WalkLawsBesides
import Derived.KernelRfl
import Derived.Lib.Hide
import Derived.Lib.ConvBytes
import Derived.Laws.BytesArg
import Derived.Laws.BitsLemmas
import Derived.Laws.MakeOwn
import Derived.Laws.OwnMore
import Derived.Deep.OwnRows
import Derived.Deep.RegionHeld3
import Derived.Deep.QuietTactic
import Derived.BigQuiet
import Derived.Deep.DeepCutAuto
import Derived.RowKit3
import Derived.Lib.Strings
import Derived.Deep.LoopGhost
import Derived.Deep.Draws
import Derived.Maps.AppendAt
import Derived.Shelf.SlicesQ.Load
import Derived.Laws.StructEq
import Derived.StillTail
import Derived.OwnWalk
/- Small laws for the walks of this seat: what a call leaves of memory, owned rows of bytes, strings of numbers. -/
section
namespace Go.Proofs.YtccblleobcidfaaGreat.Kt
open Go.RowKit
set_option linter.unusedVariables false
set_option linter.unusedSimpArgs false

/-- what a call that leaves all elder memory alone means for the caller's own cells: rules for the walk. -/
theorem keep {W w1 : World} (hb : Below W.heap.size W w1) :
    (∀ b o, b < W.heap.size → w1.cell? ⟨b, o, none⟩ = W.cell? ⟨b, o, none⟩) ∧ (∀ b o, b < W.heap.size → w1.frozen? ⟨b, o, none⟩ = W.frozen? ⟨b, o, none⟩) ∧
    (∀ b, b < W.heap.size → b < w1.heap.size) ∧ (∀ b, b < W.heap.size → b ≠ w1.heap.size) ∧ (∀ b, b < W.heap.size → w1.heap.size ≠ b) :=
  ⟨fun b o h => hb.cell (p := ⟨b, o, none⟩) h, fun b o h => hb.frozen (p := ⟨b, o, none⟩) h, fun b h => Nat.lt_of_lt_of_le h hb.size,
    fun b h => Nat.ne_of_lt (Nat.lt_of_lt_of_le h hb.size), fun b h => (Nat.ne_of_lt (Nat.lt_of_lt_of_le h hb.size)).symm⟩

theorem bl_alloc {w W : World} (h : Below w.heap.size w W) (o : Obj) : Below w.heap.size w (W.alloc o) := h.alloc h.size o
theorem bl_drew {B : Nat} {w W : World} (h : Below B w W) : Below B w W.drew := ⟨h.os, h.tape, h.output, h.size, h.block⟩
theorem bl_drewN {B : Nat} {w W : World} (h : Below B w W) (n : Nat) : Below B w (W.drewN n) := ⟨h.os, h.tape, h.output, h.size, h.block⟩
theorem bl_step {w W w2 : World} (h : Below w.heap.size w W) (k : Below W.heap.size W w2) : Below w.heap.size w w2 := h.trans (k.mono h.size)
theorem bl_set {w W : World} {g j : Nat} {v : Value} (h : Below w.heap.size w W) (hg : w.heap.size ≤ g) : Below w.heap.size w (W.setCell ⟨g, j, none⟩ v) := h.setCell hg _
theorem cb {w w1 : World} (h : Below w.heap.size w w1) {a : Addr} {v : Value} (hc : w.cell? a = some v) : w1.cell? a = some v := (h.cell (World.block_lt_of_cell? w a hc)).trans hc
/-! a region that is held: the cells that it loads, and that elder memory stays: of the world ahead of it -/
theorem bl_setn {w W W' : World} {j : Nat} {v : Value} (h : Below w.heap.size w W') (hW : Below w.heap.size w W) : Below w.heap.size w (W'.setCell ⟨W.heap.size, j, none⟩ v) := h.setCell hW.size _
theorem k1 {w w1 : World} {a0 : Addr} {v0 : Value} (hc : w.cell? a0 = some v0) (h : Below w.heap.size w w1) : w1.cell? a0 = some v0 ∧ Below w.heap.size w w1 := ⟨cb h hc, h⟩
theorem kz1 {w0 w : World} {a0 : Addr} {v0 : Value} (hc : w.cell? a0 = some v0 ∧ Below w0.heap.size w0 w) : Below w0.heap.size w0 w := hc.2
theorem k2 {w w1 : World} {a0 a1 : Addr} {v0 v1 : Value} (hc : w.cell? a0 = some v0 ∧ w.cell? a1 = some v1) (h : Below w.heap.size w w1) : w1.cell? a0 = some v0 ∧ w1.cell? a1 = some v1 ∧ Below w.heap.size w w1 := ⟨cb h hc.1, cb h hc.2, h⟩
theorem k3 {w w1 : World} {a0 a1 a2 : Addr} {v0 v1 v2 : Value} (hc : w.cell? a0 = some v0 ∧ w.cell? a1 = some v1 ∧ w.cell? a2 = some v2) (h : Below w.heap.size w w1) : w1.cell? a0 = some v0 ∧ w1.cell? a1 = some v1 ∧ w1.cell? a2 = some v2 ∧ Below w.heap.size w w1 := ⟨cb h hc.1, cb h hc.2.1, cb h hc.2.2, h⟩
theorem kz3 {w0 w : World} {a0 a1 a2 : Addr} {v0 v1 v2 : Value} (hc : w.cell? a0 = some v0 ∧ w.cell? a1 = some v1 ∧ w.cell? a2 = some v2 ∧ Below w0.heap.size w0 w) : Below w0.heap.size w0 w := hc.2.2.2
theorem k4 {w w1 : World} {a0 a1 a2 a3 : Addr} {v0 v1 v2 v3 : Value} (hc : w.cell? a0 = some v0 ∧ w.cell? a1 = some v1 ∧ w.cell? a2 = some v2 ∧ w.cell? a3 = some v3) (h : Below w.heap.size w w1) : w1.cell? a0 = some v0 ∧ w1.cell? a1 = some v1 ∧ w1.cell? a2 = some v2 ∧ w1.cell? a3 = some v3 ∧ Below w.heap.size w w1 := ⟨cb h hc.1, cb h hc.2.1, cb h hc.2.2.1, cb h hc.2.2.2, h⟩
theorem k5 {w w1 : World} {a0 a1 a2 a3 a4 : Addr} {v0 v1 v2 v3 v4 : Value} (hc : w.cell? a0 = some v0 ∧ w.cell? a1 = some v1 ∧ w.cell? a2 = some v2 ∧ w.cell? a3 = some v3 ∧ w.cell? a4 = some v4) (h : Below w.heap.size w w1) : w1.cell? a0 = some v0 ∧ w1.cell? a1 = some v1 ∧ w1.cell? a2 = some v2 ∧ w1.cell? a3 = some v3 ∧ w1.cell? a4 = some v4 ∧ Below w.heap.size w w1 := ⟨cb h hc.1, cb h hc.2.1, cb h hc.2.2.1, cb h hc.2.2.2.1, cb h hc.2.2.2.2, h⟩
theorem k7 {w w1 : World} {a0 a1 a2 a3 a4 a5 a6 : Addr} {v0 v1 v2 v3 v4 v5 v6 : Value} (hc : w.cell? a0 = some v0 ∧ w.cell? a1 = some v1 ∧ w.cell? a2 = some v2 ∧ w.cell? a3 = some v3 ∧ w.cell? a4 = some v4 ∧ w.cell? a5 = some v5 ∧ w.cell? a6 = some v6) (h : Below w.heap.size w w1) : w1.cell? a0 = some v0 ∧ w1.cell? a1 = some v1 ∧ w1.cell? a2 = some v2 ∧ w1.cell? a3 = some v3 ∧ w1.cell? a4 = some v4 ∧ w1.cell? a5 = some v5 ∧ w1.cell? a6 = some v6 ∧ Below w.heap.size w w1 := ⟨cb h hc.1, cb h hc.2.1, cb h hc.2.2.1, cb h hc.2.2.2.1, cb h hc.2.2.2.2.1, cb h hc.2.2.2.2.2.1, cb h hc.2.2.2.2.2.2, h⟩
theorem k10 {w w1 : World} {a0 a1 a2 a3 a4 a5 a6 a7 a8 a9 : Addr} {v0 v1 v2 v3 v4 v5 v6 v7 v8 v9 : Value} (hc : w.cell? a0 = some v0 ∧ w.cell? a1 = some v1 ∧ w.cell? a2 = some v2 ∧ w.cell? a3 = some v3 ∧ w.cell? a4 = some v4 ∧ w.cell? a5 = some v5 ∧ w.cell? a6 = some v6 ∧ w.cell? a7 = some v7 ∧ w.cell? a8 = some v8 ∧ w.cell? a9 = some v9) (h : Below w.heap.size w w1) : w1.cell? a0 = some v0 ∧ w1.cell? a1 = some v1 ∧ w1.cell? a2 = some v2 ∧ w1.cell? a3 = some v3 ∧ w1.cell? a4 = some v4 ∧ w1.cell? a5 = some v5 ∧ w1.cell? a6 = some v6 ∧ w1.cell? a7 = some v7 ∧ w1.cell? a8 = some v8 ∧ w1.cell? a9 = some v9 ∧ Below w.heap.size w w1 := ⟨cb h hc.1, cb h hc.2.1, cb h hc.2.2.1, cb h hc.2.2.2.1, cb h hc.2.2.2.2.1, cb h hc.2.2.2.2.2.1, cb h hc.2.2.2.2.2.2.1, cb h hc.2.2.2.2.2.2.2.1, cb h hc.2.2.2.2.2.2.2.2.1, cb h hc.2.2.2.2.2.2.2.2.2, h⟩
theorem kz10 {w0 w : World} {a0 a1 a2 a3 a4 a5 a6 a7 a8 a9 : Addr} {v0 v1 v2 v3 v4 v5 v6 v7 v8 v9 : Value} (hc : w.cell? a0 = some v0 ∧ w.cell? a1 = some v1 ∧ w.cell? a2 = some v2 ∧ w.cell? a3 = some v3 ∧ w.cell? a4 = some v4 ∧ w.cell? a5 = some v5 ∧ w.cell? a6 = some v6 ∧ w.cell? a7 = some v7 ∧ w.cell? a8 = some v8 ∧ w.cell? a9 = some v9 ∧ Below w0.heap.size w0 w) : Below w0.heap.size w0 w := hc.2.2.2.2.2.2.2.2.2.2
theorem k16 {w w1 : World} {a0 a1 a2 a3 a4 a5 a6 a7 a8 a9 a10 a11 a12 a13 a14 a15 : Addr} {v0 v1 v2 v3 v4 v5 v6 v7 v8 v9 v10 v11 v12 v13 v14 v15 : Value} (hc : w.cell? a0 = some v0 ∧ w.cell? a1 = some v1 ∧ w.cell? a2 = some v2 ∧ w.cell? a3 = some v3 ∧ w.cell? a4 = some v4 ∧ w.cell? a5 = some v5 ∧ w.cell? a6 = some v6 ∧ w.cell? a7 = some v7 ∧ w.cell? a8 = some v8 ∧ w.cell? a9 = some v9 ∧ w.cell? a10 = some v10 ∧ w.cell? a11 = some v11 ∧ w.cell? a12 = some v12 ∧ w.cell? a13 = some v13 ∧ w.cell? a14 = some v14 ∧ w.cell? a15 = some v15) (h : Below w.heap.size w w1) : w1.cell? a0 = some v0 ∧ w1.cell? a1 = some v1 ∧ w1.cell? a2 = some v2 ∧ w1.cell? a3 = some v3 ∧ w1.cell? a4 = some v4 ∧ w1.cell? a5 = some v5 ∧ w1.cell? a6 = some v6 ∧ w1.cell? a7 = some v7 ∧ w1.cell? a8 = some v8 ∧ w1.cell? a9 = some v9 ∧ w1.cell? a10 = some v10 ∧ w1.cell? a11 = some v11 ∧ w1.cell? a12 = some v12 ∧ w1.cell? a13 = some v13 ∧ w1.cell? a14 = some v14 ∧ w1.cell? a15 = some v15 ∧ Below w.heap.size w w1 := ⟨cb h hc.1, cb h hc.2.1, cb h hc.2.2.1, cb h hc.2.2.2.1, cb h hc.2.2.2.2.1, cb h hc.2.2.2.2.2.1, cb h hc.2.2.2.2.2.2.1, cb h hc.2.2.2.2.2.2.2.1, cb h hc.2.2.2.2.2.2.2.2.1, cb h hc.2.2.2.2.2.2.2.2.2.1, cb h hc.2.2.2.2.2.2.2.2.2.2.1, cb h hc.2.2.2.2.2.2.2.2.2.2.2.1, cb h hc.2.2.2.2.2.2.2.2.2.2.2.2.1, cb h hc.2.2.2.2.2.2.2.2.2.2.2.2.2.1, cb h hc.2.2.2.2.2.2.2.2.2.2.2.2.2.2.1, cb h hc.2.2.2.2.2.2.2.2.2.2.2.2.2.2.2, h⟩
/-! a block of the call's own, whole -/
def Blk (w : World) (g : Nat) (cs : Array Value) (t : TypeId) : Prop := w.heap[g]? = some (.cells cs t (0, 0))
theorem Blk.cell {w : World} {g : Nat} {t : TypeId} {cs : Array Value} (h : Blk w g cs t) (i : Nat) : w.cell? ⟨g, i, none⟩ = cs[i]? := cell_of_row w g i cs t (0, 0) h
theorem Blk.frozen {w : World} {g : Nat} {t : TypeId} {cs : Array Value} (h : Blk w g cs t) (i : Nat) : w.frozen? ⟨g, i, none⟩ = false := by
  have h' : w.heap[g]? = some (.cells cs t (0, 0)) := h
  simp [World.frozen?, h']
theorem Blk.lt {w : World} {g : Nat} {t : TypeId} {cs : Array Value} (h : Blk w g cs t) : g < w.heap.size := (Array.getElem?_eq_some_iff.1 h).1
theorem Blk.below {w w1 : World} {g : Nat} {t : TypeId} {cs : Array Value} (h : Blk w g cs t) (hb : Below w.heap.size w w1) : Blk w1 g cs t := (hb.block g h.lt).trans h
theorem Blk.drew {w : World} {g : Nat} {t : TypeId} {cs : Array Value} (h : Blk w g cs t) : Blk w.drew g cs t := h
theorem Blk.drewN {w : World} {g : Nat} {t : TypeId} {cs : Array Value} (h : Blk w g cs t) (n : Nat) : Blk (w.drewN n) g cs t := h
theorem Blk.alloc {w : World} {g : Nat} {t : TypeId} {cs : Array Value} (h : Blk w g cs t) (o : Obj) : Blk (w.alloc o) g cs t := (Below.heap_alloc w o g h.lt).trans h
theorem Blk.new (w : World) (cs : Array Value) (t : TypeId) : Blk (w.alloc (.cells cs t)) w.heap.size cs t := by
  show (w.heap.push _)[w.heap.size]? = _
  simp
theorem Blk.new1 (w : World) (o : Obj) (cs : Array Value) (t : TypeId) : Blk ((w.alloc o).alloc (.cells cs t)) (w.heap.size + 1) cs t := by
  have h := Blk.new (w.alloc o) cs t
  have e : (w.alloc o).heap.size = w.heap.size + 1 := by show (w.heap.push _).size = _; simp
  rwa [e] at h
theorem Blk.new2 (w : World) (o o' : Obj) (cs : Array Value) (t : TypeId) : Blk (((w.alloc o).alloc o').alloc (.cells cs t)) (w.heap.size + 2) cs t := by
  have h := Blk.new1 (w.alloc o) o' cs t
  have e : (w.alloc o).heap.size = w.heap.size + 1 := by show (w.heap.push _).size = _; simp
  rwa [e] at h
theorem Blk.far {w : World} {g : Nat} {t : TypeId} {cs : Array Value} (h : Blk w g cs t) {p : Addr} (hp : g ≠ p.block) (u : Value) : Blk (w.setCell p u) g cs t := (Below.heap_setCell w p u g hp).trans h
theorem Blk.all1 {w : World} {g : Nat} {t : TypeId} {v0 : Value} (h : Blk w g #[v0] t) : w.cell? ⟨g, 0, none⟩ = some v0 ∧ (∀ i, w.frozen? ⟨g, i, none⟩ = false) ∧ g < w.heap.size ∧ g ≠ w.heap.size ∧ w.heap.size ≠ g := ⟨h.cell 0, h.frozen, h.lt, Nat.ne_of_lt h.lt, (Nat.ne_of_lt h.lt).symm⟩
theorem Blk.all3 {w : World} {g : Nat} {t : TypeId} {v0 v1 v2 : Value} (h : Blk w g #[v0, v1, v2] t) : w.cell? ⟨g, 0, none⟩ = some v0 ∧ w.cell? ⟨g, 1, none⟩ = some v1 ∧ w.cell? ⟨g, 2, none⟩ = some v2 ∧ (∀ i, w.frozen? ⟨g, i, none⟩ = false) ∧ g < w.heap.size ∧ g ≠ w.heap.size ∧ w.heap.size ≠ g := ⟨h.cell 0, h.cell 1, h.cell 2, h.frozen, h.lt, Nat.ne_of_lt h.lt, (Nat.ne_of_lt h.lt).symm⟩
theorem Blk.all4 {w : World} {g : Nat} {t : TypeId} {v0 v1 v2 v3 : Value} (h : Blk w g #[v0, v1, v2, v3] t) : w.cell? ⟨g, 0, none⟩ = some v0 ∧ w.cell? ⟨g, 1, none⟩ = some v1 ∧ w.cell? ⟨g, 2, none⟩ = some v2 ∧ w.cell? ⟨g, 3, none⟩ = some v3 ∧ (∀ i, w.frozen? ⟨g, i, none⟩ = false) ∧ g < w.heap.size ∧ g ≠ w.heap.size ∧ w.heap.size ≠ g := ⟨h.cell 0, h.cell 1, h.cell 2, h.cell 3, h.frozen, h.lt, Nat.ne_of_lt h.lt, (Nat.ne_of_lt h.lt).symm⟩
theorem Blk.all5 {w : World} {g : Nat} {t : TypeId} {v0 v1 v2 v3 v4 : Value} (h : Blk w g #[v0, v1, v2, v3, v4] t) : w.cell? ⟨g, 0, none⟩ = some v0 ∧ w.cell? ⟨g, 1, none⟩ = some v1 ∧ w.cell? ⟨g, 2, none⟩ = some v2 ∧ w.cell? ⟨g, 3, none⟩ = some v3 ∧ w.cell? ⟨g, 4, none⟩ = some v4 ∧ (∀ i, w.frozen? ⟨g, i, none⟩ = false) ∧ g < w.heap.size ∧ g ≠ w.heap.size ∧ w.heap.size ≠ g := ⟨h.cell 0, h.cell 1, h.cell 2, h.cell 3, h.cell 4, h.frozen, h.lt, Nat.ne_of_lt h.lt, (Nat.ne_of_lt h.lt).symm⟩
theorem Blk.all6 {w : World} {g : Nat} {t : TypeId} {v0 v1 v2 v3 v4 v5 : Value} (h : Blk w g #[v0, v1, v2, v3, v4, v5] t) : w.cell? ⟨g, 0, none⟩ = some v0 ∧ w.cell? ⟨g, 1, none⟩ = some v1 ∧ w.cell? ⟨g, 2, none⟩ = some v2 ∧ w.cell? ⟨g, 3, none⟩ = some v3 ∧ w.cell? ⟨g, 4, none⟩ = some v4 ∧ w.cell? ⟨g, 5, none⟩ = some v5 ∧ (∀ i, w.frozen? ⟨g, i, none⟩ = false) ∧ g < w.heap.size ∧ g ≠ w.heap.size ∧ w.heap.size ≠ g := ⟨h.cell 0, h.cell 1, h.cell 2, h.cell 3, h.cell 4, h.cell 5, h.frozen, h.lt, Nat.ne_of_lt h.lt, (Nat.ne_of_lt h.lt).symm⟩
theorem Blk.all7 {w : World} {g : Nat} {t : TypeId} {v0 v1 v2 v3 v4 v5 v6 : Value} (h : Blk w g #[v0, v1, v2, v3, v4, v5, v6] t) : w.cell? ⟨g, 0, none⟩ = some v0 ∧ w.cell? ⟨g, 1, none⟩ = some v1 ∧ w.cell? ⟨g, 2, none⟩ = some v2 ∧ w.cell? ⟨g, 3, none⟩ = some v3 ∧ w.cell? ⟨g, 4, none⟩ = some v4 ∧ w.cell? ⟨g, 5, none⟩ = some v5 ∧ w.cell? ⟨g, 6, none⟩ = some v6 ∧ (∀ i, w.frozen? ⟨g, i, none⟩ = false) ∧ g < w.heap.size ∧ g ≠ w.heap.size ∧ w.heap.size ≠ g := ⟨h.cell 0, h.cell 1, h.cell 2, h.cell 3, h.cell 4, h.cell 5, h.cell 6, h.frozen, h.lt, Nat.ne_of_lt h.lt, (Nat.ne_of_lt h.lt).symm⟩
/-! numbers as a row of bytes -/
theorem own_base {w : World} {base : Nat} {e : TypeId} {size n : Nat} {v : Value} {xs : List Value} (h : w.ownsRow base e size v n xs) (k : Nat) (hk : v.ownBlock = some k) : base ≤ k := by
  rcases h.2 with ⟨rfl, _⟩ | ⟨g, cap, cur, rfl, hb, _⟩
  · simp [Value.ownBlock] at hk
  · simp [Value.ownBlock] at hk; omega
theorem own_str {P : Program} {w : World} {base n : Nat} {e' src dst e : TypeId} {v : Value} {xs : List Int} (hs : P.underlying src = some (.slice e)) (he : P.underlying e = some (.int .u8)) (hd : P.underlying dst = some .string)
    (h : w.ownsRow base e' 1 v n (xs.map (Value.int .u8))) : (convert src dst v).run P w = .ok (.string (strOfNums xs)) w := by
  have hl : xs.length = n := by have := h.1; simp at this; exact this
  rcases h.2 with ⟨rfl, rfl⟩ | ⟨g, cap, cur, rfl, _⟩
  · obtain rfl : xs = [] := List.eq_nil_of_length_eq_zero hl
    exact run_convert_bytes_nil w src e hs he 0 0 dst hd
  · refine run_convert_bytes_arg w src e hs he g 0 n cap xs hl (fun i hi => ?_) dst hd
    have hc := h.cells (g := g) rfl i (.int .u8 (xs.getD i 0)) (by simp [List.getElem?_eq_getElem (show i < xs.length by omega), List.getD_eq_getElem?_getD])
    have ha : (⟨g, 0, none⟩ : Addr).add i = ⟨g, 0 + i, none⟩ := by unfold Addr.add; split <;> simp_all
    rwa [ha] at hc

theorem add_plain (g j : Nat) : (⟨g, 0, none⟩ : Addr).add j = ⟨g, j, none⟩ := by unfold Addr.add; split <;> simp_all
theorem own_made (W : World) (base : Nat) (e : TypeId) (k : IntKind) (m : Nat) (hb : base ≤ W.heap.size) (hm : m ≤ 9223372036854775807) :
    (W.alloc (.cells (madeCells #[.int k 0] m) e)).ownsRow base e 1 (.slice (some ⟨W.heap.size, 0, none⟩) m m) m ((List.replicate m (0 : Int)).map (Value.int k)) := by
  have h := World.ownsRow_lit (base := base) (e := e) (size := 1) W (madeCells #[.int k 0] m) m hb (by simpa [maxLen] using hm) (by simp [size_madeCells])
  have hl : (madeCells #[Value.int k 0] m).toList = (List.replicate m (0 : Int)).map (Value.int k) := by
    apply List.ext_getElem
    · simp [madeCells]
    · intro i h1 h2
      simp [madeCells, Nat.mod_one]
  rwa [hl] at h
theorem own_at {W : World} {base g n cap : Nat} {e : TypeId} {k : IntKind} {xs : List Int} (h : W.ownsRow base e 1 (.slice (some ⟨g, 0, none⟩) n cap) n (xs.map (Value.int k))) (i : Nat) (h1 : i < n) :
    W.cell? ⟨g, i, none⟩ = some (.int k (xs.getD i 0)) ∧ W.frozen? ⟨g, i, none⟩ = false := by
  have hl : xs.length = n := by have := h.1; simp at this; exact this
  constructor
  · have hc := h.cells (g := g) rfl i (.int k (xs.getD i 0)) (by simp [List.getElem?_eq_getElem (show i < xs.length by omega), List.getD_eq_getElem?_getD])
    rwa [add_plain] at hc
  · rcases h.2 with ⟨h', _⟩ | ⟨g', cap', cur, h', _, hh, _⟩
    · cases h'
    · have : g = g' := by injection h' with h'; injection h' with h'; injection h' with h'
      subst this
      simp [World.frozen?, hh]
theorem own_store {W : World} {base g n cap : Nat} {e : TypeId} {k : IntKind} {xs : List Int} (h : W.ownsRow base e 1 (.slice (some ⟨g, 0, none⟩) n cap) n (xs.map (Value.int k))) (i : Nat) (x : Int) :
    (W.setCell ⟨g, i, none⟩ (.int k x)).ownsRow base e 1 (.slice (some ⟨g, 0, none⟩) n cap) n ((xs.set i x).map (Value.int k)) ∧ W.grownBy (W.setCell ⟨g, i, none⟩ (.int k x)) (some g) := by
  have hs := h.stored i (.int k x)
  have he : (xs.map (Value.int k)).set i (.int k x) = (xs.set i x).map (Value.int k) := by simp [List.map_set]
  rwa [he] at hs
theorem make_row {P : Program} (t e : TypeId) (k : IntKind) (bytes : Nat) (ht : P.underlying t = some (.slice e)) (hinfo : (P.info? e).map (fun i => (i.zero, i.size, i.bytes)) = some (some (.int k 0), 1, bytes)) (hb0 : 0 < bytes)
    (m : Nat) (hn : m * bytes ≤ 281474976710656) :
    ∀ W : World, (Instr.makeSlice t (.int .i64 (m : Int)) (.int .i64 (m : Int))).run P W = .ok (.slice (some ⟨W.heap.size, 0, none⟩) m m) (W.alloc (.cells (madeCells #[.int k 0] m) e)) := by
  intro W
  have hm : m ≤ 281474976710656 := Nat.le_trans (Nat.le_mul_of_pos_right _ hb0) hn
  exact run_make_row' t e (.int k 0) bytes ht hinfo rfl .i64 .i64 m (by rw [Nat.mul_comm]; exact hn) (by omega) W

/-- from a least to a most? -/
def rngB (x a b : Int) : Bool := decide (a ≤ x) && decide (x ≤ b)
theorem rngB_eq (x a b : Int) : rngB x a b = decide (a ≤ x ∧ x ≤ b) := by simp [rngB]
end Go.Proofs.YtccblleobcidfaaGreat.Kt
end
/- Blocks that stand often, each laid once. -/
section
namespace Go.Proofs.YtccblleobcidfaaGreat.Kt
theorem zq0 {p : Prop} (h : p := by repeat (with_reducible first | exact HB | (refine bl_set ?_ (by omega)) | apply bl_alloc | apply bl_drew | apply bl_drewN | fail)) : p := h
theorem zq1 {p : Prop} (h : p := by repeat (with_reducible first | exact Below.refl _ _ | assumption | (refine bl_set ?_ (by omega)) | apply bl_alloc | apply bl_drewN | apply bl_drew | (refine bl_step ?_ (by assumption)) | fail)) : p := h
theorem zq2 {p : Prop} (h : p := by repeat (with_reducible first | exact K0 | exact K0 _ | exact K0 _ _ | apply Blk.alloc | apply Blk.drew | apply Blk.drewN | apply Blk.set7_0 | apply Blk.set7_1 | apply Blk.set7_2 | apply Blk.set7_3 | apply Blk.set7_4 | apply Blk.set7_5 | apply Blk.set7_6 | (apply Blk.off; (first | assumption | omega | (simp; omega))) | fail)) : p := h
theorem zq3 {p : Prop} (h : p := by first | exact K0 | exact K0 #[] | exact K0 (.cells #[] 0) #[] | exact K0 #[] #[]) : p := h
theorem zq4 {p : Prop} (h : p := by repeat (with_reducible first | exact HB | apply bl_alloc | apply bl_drew | apply bl_drewN | fail)) : p := h
theorem zq5 {p : Prop} (h : p := by repeat (with_reducible first | exact K0 | exact K0 _ | exact K0 _ _ | apply Blk.alloc | apply Blk.drew | apply Blk.drewN | apply Blk.set6_0 | apply Blk.set6_1 | apply Blk.set6_2 | apply Blk.set6_3 | apply Blk.set6_4 | apply Blk.set6_5 | (apply Blk.off; (first | assumption | omega | (simp; omega))) | fail)) : p := h
theorem zq6 {p : Prop} (h : p := by first | exact K1 | exact K1 #[] | exact K1 (.cells #[] 0) #[] | exact K1 #[] #[]) : p := h
theorem zq7 {p : Prop} (h : p := by repeat (with_reducible first | exact K0 | exact K0 _ | exact K0 _ _ | apply Blk.alloc | apply Blk.drew | apply Blk.drewN | fail)) : p := h
theorem zq8 {p : Prop} (h : p := by repeat (with_reducible first | exact K1 | exact K1 _ | exact K1 _ _ | apply Blk.alloc | apply Blk.drew | apply Blk.drewN | apply Blk.set7_0 | apply Blk.set7_1 | apply Blk.set7_2 | apply Blk.set7_3 | apply Blk.set7_4 | apply Blk.set7_5 | apply Blk.set7_6 | (apply Blk.off; (first | assumption | omega | (simp; omega))) | fail)) : p := h
theorem zq9 {p : Prop} (h : p := by repeat (with_reducible first | exact K1 | exact K1 _ | exact K1 _ _ | apply Blk.alloc | apply Blk.drew | (apply Blk.off; (first | assumption | omega | (simp; omega))) | fail)) : p := h
theorem zq10 {p : Prop} (h : p := by repeat (with_reducible first | exact K0 | exact K0 _ | exact K0 _ _ | apply Blk.alloc | apply Blk.drew | (apply Blk.off; (first | assumption | omega | (simp; omega))) | fail)) : p := h
theorem zq11 {p : Prop} (h : p := by repeat (with_reducible first | exact K0 | apply Blk.alloc | apply Blk.drew | apply Blk.set7_0 | apply Blk.set7_1 | apply Blk.set7_2 | apply Blk.set7_3 | apply Blk.set7_4 | apply Blk.set7_5 | apply Blk.set7_6 | (apply Blk.off; (first | assumption | omega | (simp; omega))) | fail)) : p := h
theorem zq12 {p : Prop} (h : p := by repeat (with_reducible first | exact K1 | exact K1 _ | exact K1 _ _ | apply Blk.alloc | apply Blk.drew | apply Blk.drewN | apply Blk.set6_0 | apply Blk.set6_1 | apply Blk.set6_2 | apply Blk.set6_3 | apply Blk.set6_4 | apply Blk.set6_5 | (apply Blk.off; (first | assumption | omega | (simp; omega))) | fail)) : p := h
theorem zq13 {p : Prop} (h : p := by repeat (with_reducible first | exact K2 | exact K2 _ | exact K2 _ _ | apply Blk.alloc | apply Blk.drew | apply Blk.drewN | apply Blk.set7_0 | apply Blk.set7_1 | apply Blk.set7_2 | apply Blk.set7_3 | apply Blk.set7_4 | apply Blk.set7_5 | apply Blk.set7_6 | (apply Blk.off; (first | assumption | omega | (simp; omega))) | fail)) : p := h
theorem zq14 {p : Prop} (h : p := by repeat (with_reducible first | exact K0 | exact K0 _ | exact K0 _ _ | apply Blk.alloc | apply Blk.drew | apply Blk.drewN | apply Blk.set4_0 | apply Blk.set4_1 | apply Blk.set4_2 | apply Blk.set4_3 | (apply Blk.off; (first | assumption | omega | (simp; omega))) | fail)) : p := h
theorem zq15 {p : Prop} (h : p := by first | exact K2 | exact K2 #[] | exact K2 (.cells #[] 0) #[] | exact K2 #[] #[]) : p := h
theorem zq16 {p : Prop} (h : p := by repeat (with_reducible first | exact K1 | exact K1 _ | exact K1 _ _ | apply Blk.alloc | apply Blk.drew | apply Blk.drewN | fail)) : p := h
theorem zq17 {p : Prop} (h : p := by repeat (with_reducible first | exact K1 | exact K1 _ | exact K1 _ _ | apply Blk.alloc | apply Blk.drew | apply Blk.drewN | apply Blk.set3_0 | apply Blk.set3_1 | apply Blk.set3_2 | (apply Blk.off; (first | assumption | omega | (simp; omega))) | fail)) : p := h
theorem zq18 {p : Prop} (h : p := by repeat (with_reducible first | exact K2 | exact K2 _ | exact K2 _ _ | apply Blk.alloc | apply Blk.drew | apply Blk.drewN | apply Blk.set3_0 | apply Blk.set3_1 | apply Blk.set3_2 | (apply Blk.off; (first | assumption | omega | (simp; omega))) | fail)) : p := h
theorem zq19 {p : Prop} (h : p := by repeat (with_reducible first | exact K1 | exact K1 _ | apply Blk.alloc | apply Blk.drew | apply Blk.set6_0 | apply Blk.set6_1 | apply Blk.set6_2 | apply Blk.set6_3 | apply Blk.set6_4 | apply Blk.set6_5 | (apply Blk.off; (first | assumption | omega | (simp; omega))) | fail)) : p := h
theorem zq20 {p : Prop} (h : p := by repeat (with_reducible first | exact GB | exact gb_refl _ _ | apply gb_set | apply gb_alloc | apply gb_drew | fail)) : p := h
theorem zq21 {p : Prop} (h : p := by repeat (with_reducible first | exact K2 | exact K2 _ | exact K2 _ _ | apply Blk.alloc | apply Blk.drew | (apply Blk.off; (first | assumption | omega | (simp; omega))) | fail)) : p := h
theorem zq23 {p : Prop} (h : p := by repeat (with_reducible first | exact K0 | exact K0 _ | exact K0 _ _ | apply Blk.alloc | apply Blk.drew | apply Blk.set7_0 | apply Blk.set7_1 | apply Blk.set7_2 | apply Blk.set7_3 | apply Blk.set7_4 | apply Blk.set7_5 | apply Blk.set7_6 | (apply Blk.off; (first | assumption | omega | (simp; omega))) | fail)) : p := h
theorem zq24 {p : Prop} (h : p := by repeat (with_reducible first | exact K1 | exact K1 _ | exact K1 _ _ | apply Blk.alloc | apply Blk.drew | apply Blk.set6_0 | apply Blk.set6_1 | apply Blk.set6_2 | apply Blk.set6_3 | apply Blk.set6_4 | apply Blk.set6_5 | (apply Blk.off; (first | assumption | omega | (simp; omega))) | fail)) : p := h
theorem zq25 {p : Prop} (h : p := by repeat (with_reducible first | exact K2 | exact K2 _ | exact K2 _ _ | apply Blk.alloc | apply Blk.drew | apply Blk.set3_0 | apply Blk.set3_1 | apply Blk.set3_2 | (apply Blk.off; (first | assumption | omega | (simp; omega))) | fail)) : p := h
theorem zq26 {p : Prop} (h : p := by first | exact K3 | exact K3 #[] | exact K3 (.cells #[] 0) #[] | exact K3 #[] #[]) : p := h
theorem zq28 {p : Prop} (h : p := by repeat (with_reducible first | exact K3 | exact K3 _ | exact K3 _ _ | apply Blk.alloc | apply Blk.drew | (apply Blk.off; (first | assumption | omega | (simp; omega))) | fail)) : p := h
theorem zq30 {p : Prop} (h : p := by repeat (with_reducible first | exact K0 | exact K0 _ | exact K0 _ _ | apply Blk.alloc | apply Blk.drew | apply Blk.drewN | apply Blk.set3_0 | apply Blk.set3_1 | apply Blk.set3_2 | (apply Blk.off; (first | assumption | omega | (simp; omega))) | fail)) : p := h
theorem zq31 {p : Prop} (h : p := by repeat (with_reducible first | exact K3 | exact K3 _ | exact K3 _ _ | apply Blk.alloc | apply Blk.drew | apply Blk.set6_0 | apply Blk.set6_1 | apply Blk.set6_2 | apply Blk.set6_3 | apply Blk.set6_4 | apply Blk.set6_5 | (apply Blk.off; (first | assumption | omega | (simp; omega))) | fail)) : p := h
theorem zq32 {p : Prop} (h : p := by repeat (with_reducible first | exact K2 | exact K2 _ | exact K2 _ _ | apply Blk.alloc | apply Blk.drew | apply Blk.drewN | apply Blk.set6_0 | apply Blk.set6_1 | apply Blk.set6_2 | apply Blk.set6_3 | apply Blk.set6_4 | apply Blk.set6_5 | (apply Blk.off; (first | assumption | omega | (simp; omega))) | fail)) : p := h
theorem zq33 {p : Prop} (h : p := by repeat (with_reducible first | exact K2 | exact K2 _ | exact K2 _ _ | apply Blk.alloc | apply Blk.drew | apply Blk.drewN | fail)) : p := h
theorem zq34 {p : Prop} (h : p := by repeat (with_reducible first | exact K3 | exact K3 _ | exact K3 _ _ | apply Blk.alloc | apply Blk.drew | apply Blk.drewN | apply Blk.set6_0 | apply Blk.set6_1 | apply Blk.set6_2 | apply Blk.set6_3 | apply Blk.set6_4 | apply Blk.set6_5 | (apply Blk.off; (first | assumption | omega | (simp; omega))) | fail)) : p := h
theorem zq35 {p : Prop} (h : p := by repeat (with_reducible first | exact K4 | exact K4 _ | exact K4 _ _ | apply Blk.alloc | apply Blk.drew | apply Blk.drewN | apply Blk.set3_0 | apply Blk.set3_1 | apply Blk.set3_2 | (apply Blk.off; (first | assumption | omega | (simp; omega))) | fail)) : p := h
theorem zq36 {p : Prop} (h : p := by first | exact K5 | exact K5 #[] | exact K5 (.cells #[] 0) #[] | exact K5 #[] #[]) : p := h
theorem zq37 {p : Prop} (h : p := by repeat (with_reducible first | exact K1 | exact K1 _ | exact K1 _ _ | apply Blk.alloc | apply Blk.drew | apply Blk.drewN | apply Blk.set4_0 | apply Blk.set4_1 | apply Blk.set4_2 | apply Blk.set4_3 | (apply Blk.off; (first | assumption | omega | (simp; omega))) | fail)) : p := h
theorem zq38 {p : Prop} (h : p := by first | exact K4 | exact K4 #[] | exact K4 (.cells #[] 0) #[] | exact K4 #[] #[]) : p := h
theorem zq39 {p : Prop} (h : p := by repeat (with_reducible first | exact K0 | exact K0 _ | exact K0 _ _ | apply Blk.alloc | apply Blk.drew | apply Blk.drewN | apply Blk.set5_0 | apply Blk.set5_1 | apply Blk.set5_2 | apply Blk.set5_3 | apply Blk.set5_4 | (apply Blk.off; (first | assumption | omega | (simp; omega))) | fail)) : p := h
theorem zq40 {p : Prop} (h : p := by (refine Own.mono (base := w.heap.size + 3) ?_ (by omega)); (repeat (with_reducible first | exact HO | (refine Own.set ?_ (by dsimp only; omega) _) | (refine Own.alloc ?_ _) | (refine Own.drewn ?_) | fail))) : p := h
theorem zq41 {p : Prop} (h : p := by repeat (with_reducible first | exact K3 | exact K3 _ | apply Blk.alloc | apply Blk.drew | apply Blk.set6_0 | apply Blk.set6_1 | apply Blk.set6_2 | apply Blk.set6_3 | apply Blk.set6_4 | apply Blk.set6_5 | (apply Blk.off; (first | assumption | omega | (simp; omega))) | fail)) : p := h
theorem zq42 {p : Prop} (h : p := by repeat (with_reducible first | exact K4 | exact K4 _ | exact K4 _ _ | apply Blk.alloc | apply Blk.drew | (apply Blk.off; (first | assumption | omega | (simp; omega))) | fail)) : p := h
theorem zq46 {p : Prop} (h : p := by repeat (with_reducible first | exact K0 | exact K0 _ | exact K0 _ _ | apply Blk.alloc | apply Blk.drew | apply Blk.drewN | apply Blk.set11_0 | apply Blk.set11_1 | apply Blk.set11_2 | apply Blk.set11_3 | apply Blk.set11_4 | apply Blk.set11_5 | apply Blk.set11_6 | apply Blk.set11_7 | apply Blk.set11_8 | apply Blk.set11_9 | apply Blk.set11_10 | (apply Blk.off; (first | assumption | omega | (simp; omega))) | fail)) : p := h
theorem zq47 {p : Prop} (h : p := by repeat (with_reducible first | exact K2 | exact K2 _ | apply Blk.alloc | apply Blk.drew | apply Blk.set6_0 | apply Blk.set6_1 | apply Blk.set6_2 | apply Blk.set6_3 | apply Blk.set6_4 | apply Blk.set6_5 | (apply Blk.off; (first | assumption | omega | (simp; omega))) | fail)) : p := h
theorem zq49 {p : Prop} (h : p := by repeat (with_reducible first | exact K2 | exact K2 _ | apply Blk.alloc | apply Blk.drew | apply Blk.set3_0 | apply Blk.set3_1 | apply Blk.set3_2 | (apply Blk.off; (first | assumption | omega | (simp; omega))) | fail)) : p := h
theorem zq51 {p : Prop} (h : p := by repeat (with_reducible first | exact K1 | exact K1 _ | apply Blk.alloc | apply Blk.drew | apply Blk.set7_0 | apply Blk.set7_1 | apply Blk.set7_2 | apply Blk.set7_3 | apply Blk.set7_4 | apply Blk.set7_5 | apply Blk.set7_6 | (apply Blk.off; (first | assumption | omega | (simp; omega))) | fail)) : p := h
theorem zq52 {p : Prop} (h : p := by (repeat (with_reducible first | exact HOz | (refine Own.set ?_ (by dsimp only; omega) _) | (refine Own.drew ?_) | fail))) : p := h
theorem zq54 {p : Prop} (h : p := by (refine Own.mono (base := w.heap.size + 2) ?_ (by omega)); refine OwnT.own (top := w7.heap.size) ?_; (repeat (with_reducible first | exact HO7 | (refine OwnT.set ?_ (by dsimp only; omega) _) | (refine OwnT.alloc ?_ _) | (refine OwnT.drewn ?_) | fail))) : p := h
theorem zq55 {p : Prop} (h : p := by (refine Own.mono (base := w.heap.size + 2) ?_ (by omega)); refine OwnT.own (top := w3.heap.size) ?_; (repeat (with_reducible first | exact HO | (refine OwnT.set ?_ (by dsimp only; omega) _) | (refine OwnT.alloc ?_ _) | (refine OwnT.drewn ?_) | fail))) : p := h
theorem zq56 {p : Prop} (h : p := by repeat (with_reducible first | exact K5 | exact K5 _ | exact K5 _ _ | apply Blk.alloc | apply Blk.drew | (apply Blk.off; (first | assumption | omega | (simp; omega))) | fail)) : p := h
theorem zq57 {p : Prop} (h : p := by (refine Own.mono (base := w.heap.size + 2) ?_ (by omega)); (repeat (with_reducible first | exact HO | (refine Own.set ?_ (by dsimp only; omega) _) | (refine Own.alloc ?_ _) | (refine Own.drewn ?_) | fail))) : p := h
theorem zq60 {p : Prop} (h : p := by repeat (with_reducible first | exact HO | (refine Own.drewn ?_) | fail)) : p := h
end Go.Proofs.YtccblleobcidfaaGreat.Kt
end
/- Numbers in bytes, the lowest first: entry.Low, entry.Num and the references' Low, Of. -/
section
namespace Go.Proofs.YtccblleobcidfaaGreat.Lw
open Go.RowKit Go.Proofs.YtccblleobcidfaaGreat.Kt
set_option linter.unusedVariables false
set_option linter.unusedSimpArgs false

def lowL (x : Int) (j : Nat) : List Int := (List.range j).map fun i => x / 256 ^ i % 256
theorem lowL_succ (x : Int) (j : Nat) : lowL x (j + 1) = lowL x j ++ [x / 256 ^ j % 256] := by simp [lowL, List.range_succ]
theorem lowL_len (x : Int) (j : Nat) : (lowL x j).length = j := by simp [lowL]
theorem div_succ (x : Int) (j : Nat) : x / 256 ^ j / 256 = x / 256 ^ (j + 1) := by
  rw [Int.pow_succ, Int.ediv_ediv_of_nonneg (by exact Int.pow_nonneg (by decide))]
/-- x in k bytes, the lowest first. -/
def lowB (x : Int) (k : Nat) : ByteArray := strOfNums (lowL x k)
theorem info5 : (Tryz.prog.info? 5).map (fun i => (i.zero, i.size, i.bytes)) = some (some (.int .u8 0), 1, 1) := by kernel_rfl

theorem own_snoc {W w1 : World} {B : Nat} {v v' : Value} (x : Int) (j : Nat) (hown : w1.ownsRow B 5 1 v' ((lowL x j).length + 1) ((lowL x j).map (Value.int .u8) ++ [.int .u8 (x / 256 ^ j % 256)])) :
    w1.ownsRow B 5 1 v' (lowL x (j + 1)).length ((lowL x (j + 1)).map (Value.int .u8)) := by
  rw [lowL_succ]; simpa using hown

set_option maxHeartbeats 800000 in
theorem low_n (x : Int) (k : Nat) (hk : k ≤ 1000) (w : World) : Calls Tryz.prog 129 #[.int .i64 x, .int .i64 k] w fun e w' => e = .returned (.string (lowB x k)) ∧ Below w.heap.size w w' := by
  obtain ⟨i0, hi, hz0, hz1, hz2⟩ := info_parts info5
  go_enter Tryz.func129, Tryz.ntmps129
  go_wp2
  go_loopw [0, 5, 7] (fun x' v i wr => ∃ j : Nat, j ≤ k ∧ x' = .int .i64 (x / 256 ^ j) ∧ i = .int .i64 j ∧ wr.ownsRow w.heap.size 5 1 v (lowL x j).length ((lowL x j).map (Value.int .u8)) ∧ Below w.heap.size w wr) (fun _ _ i _ => k - (intOf i).toNat)
  case atStart => exact ⟨0, by omega, by simp, rfl, ⟨by simp [lowL], .inl ⟨rfl, by simp [lowL]⟩⟩, Below.refl _ _⟩
  case round =>
    obtain ⟨j, hj, rfl, rfl, hown, hb⟩ := hrel
    have hl := Lib.hid (lowL_len x j)
    have hd := Lib.hid (div_succ x j)
    have HO := Lib.hid hown
    clear hown
    by_cases hlt : j < k
    · go_wp2_with (at_builtin; refine wpList_append_own _ rfl _ _ 59 rfl w.heap.size 5 i0 (.int .u8 0) 1 1 Tryz.underlying59 hi hz0 hz1 hz2 rfl (by decide) _ _ _ rfl (HO.out.alloc _) ⟨wr.heap.size, 0, none⟩ 1 1 [.int .u8 (x / 256 ^ j % 256)] rfl rfl ?c1 ?c2 ?c3 ?c4 ?c5 ?_)
      case c1 => exact (cell_one_new _ _ _)
      case c2 => intro u hu; obtain rfl := List.mem_singleton.1 hu; rfl
      case c3 => rw [hl.out]; unfold maxLen; omega
      case c4 => rw [hl.out]; omega
      case c5 => simp; exact Nat.le_succ_of_le hb.size
      intro v' w1 hown' hgrow _
      have hb1 := (bl_alloc hb _).grown hgrow (bl_alloc hb _).size (fun q hq => own_base HO.out q hq)
      have hown2 := Lib.hid (own_snoc (W := wr) (v := v') x j hown')
      clear hown' hgrow
      go_wp2
      go_roundw
      case rel => exact ⟨j + 1, by omega, by rw [← hd.out], by go_num, hown2.out, hb1⟩
      case measure => simp [intOf]; omega
    · obtain rfl : j = k := by omega
      have hcv := own_str (P := Tryz.prog) Tryz.underlying59 Tryz.underlying5 Tryz.underlying9 HO.out
      go_wp2
      go_ret
      exact ⟨rfl, hb⟩

theorem shr_8 (x : Int) (j : Nat) : x / 2 ^ (8 * j) % 256 = x / 256 ^ j % 256 := by rw [Int.pow_mul]; rfl

theorem rlow_set (x : Int) (k j : Nat) (h : j < k) : (lowL x j ++ List.replicate (k - j) 0).set j (x / 256 ^ j % 256) = lowL x (j + 1) ++ List.replicate (k - (j + 1)) 0 := by
  obtain ⟨m, hm⟩ : ∃ m, k - j = m + 1 := ⟨k - j - 1, by omega⟩
  have : k - (j + 1) = m := by omega
  rw [hm, this, lowL_succ, List.set_append_right _ _ (by rw [lowL_len]; omega), lowL_len, Nat.sub_self, List.replicate_succ, List.set_cons_zero]
  simp

set_option maxHeartbeats 800000 in
theorem rlow_n (x : Int) (k : Nat) (hk : k ≤ 8) (w : World) : Calls Tryz.prog 110 #[.int .i64 x, .int .i64 k] w fun e w' => e = .returned (.string (lowB x k)) ∧ Below w.heap.size w w' := by
  have hmk := make_row (P := Tryz.prog) 59 5 .u8 1 Tryz.underlying59 info5 (by decide) k (by omega)
  have hom := Lib.hid (own_made w w.heap.size 5 .u8 k (Nat.le_refl _) (by omega))
  go_enter Tryz.func110, Tryz.ntmps110
  go_wp2
  go_loopw [6] (fun i wr => ∃ j : Nat, j ≤ k ∧ i = .int .i64 j ∧ wr.ownsRow w.heap.size 5 1 (.slice (some ⟨w.heap.size, 0, none⟩) k k) k ((lowL x j ++ List.replicate (k - j) 0).map (Value.int .u8)) ∧ Below w.heap.size w wr) (fun i _ => k - (intOf i).toNat)
  case atStart => exact ⟨0, by omega, rfl, by simpa [lowL] using hom.out, (Below.refl _ _).alloc (Nat.le_refl _) _⟩
  case round =>
    obtain ⟨j, hj, rfl, hown, hb⟩ := hrel
    have HO := Lib.hid hown
    clear hown hom hmk
    by_cases hlt : j < k
    · have hat := own_at HO.out j hlt
      obtain ⟨hat1, hat2⟩ := hat
      have hst := Lib.hid (own_store HO.out j (x / 256 ^ j % 256))
      have hse := Lib.hid (rlow_set x k j hlt)
      have hsh := Lib.hid (shr_8 x j)
      go_wp2
      go_roundw
      case rel => exact ⟨j + 1, by omega, by go_num, by rw [← hse.out, hsh.out]; exact hst.out.1, by rw [hsh.out]; exact hb.grown hst.out.2 hb.size (fun q hq => by cases hq; exact Nat.le_refl _)⟩
      case measure => simp [intOf]; omega
    · obtain rfl : j = k := by omega
      have hcv := own_str (P := Tryz.prog) Tryz.underlying59 Tryz.underlying5 Tryz.underlying9 HO.out
      go_wp2
      go_ret
      exact ⟨by simp [lowB], hb⟩

theorem lowB_size (x : Int) (k : Nat) : (lowB x k).size = k := by simp [lowB, strOfNums, ByteArray.size, lowL]
theorem low_c (x k : Int) (w : World) (h0 : 0 ≤ k) (h1 : k ≤ 1000) : Calls Tryz.prog 129 #[.int .i64 x, .int .i64 k] w fun e w' => e = .returned (.string (lowB x k.toNat)) ∧ Below w.heap.size w w' := by
  obtain ⟨n, rfl⟩ := Int.eq_ofNat_of_zero_le h0
  exact low_n x n (by omega) w
theorem rlow_c (x k : Int) (w : World) (h0 : 0 ≤ k) (h1 : k ≤ 8) : Calls Tryz.prog 110 #[.int .i64 x, .int .i64 k] w fun e w' => e = .returned (.string (lowB x k.toNat)) ∧ Below w.heap.size w w' := by
  obtain ⟨n, rfl⟩ := Int.eq_ofNat_of_zero_le h0
  exact rlow_n x n (by omega) w

/-! bytes' number -/
def ofL : List UInt8 → Int
  | [] => 0
  | b :: l => ofL l * 256 + b.toNat
theorem ofL_bd : ∀ (l : List UInt8) (n : Nat), l.length ≤ n → 0 ≤ ofL l ∧ ofL l < 256 ^ n
  | [], n, _ => ⟨Int.le_refl _, Int.pow_pos (by decide)⟩
  | b :: l, n, h => by
    obtain ⟨m, rfl⟩ : ∃ m, n = m + 1 := ⟨n - 1, by simp at h; omega⟩
    have ih := ofL_bd l m (by simpa using h)
    have hb : b.toNat < 256 := b.toNat_lt
    rw [Int.pow_succ]
    simp only [ofL]
    generalize (256 : Int) ^ m = z at *
    omega
theorem drop_byte (s : ByteArray) (q : Nat) (h : q < s.size) : s.data.toList.drop q = s[q] :: s.data.toList.drop (q + 1) :=
  List.drop_eq_getElem_cons (by simpa using h)
theorem or_byte (a b : Int) (h0 : 0 ≤ a) (h1 : a < 16777216) (h2 : 0 ≤ b) (h3 : b < 256) : Go.bits .or .i64 (a * 256) b = a * 256 + b :=
  bits_join .i64 62 (by decide) (fun n k0 k1 => by rw [IntKind.wrap_i64]; omega) 8 _ _ (by omega) (by omega) (by omega) h2 h3 (by omega)

set_option maxHeartbeats 800000 in
theorem num_n (s : ByteArray) (hs : s.size ≤ 4) (w : World) : Calls Tryz.prog 81 #[.string s] w fun e w' => e = .returned (.int .i64 (ofL s.data.toList)) ∧ w = w' := by
  go_enter Tryz.func81, Tryz.ntmps81
  go_wp2
  go_loop [3, 4] (fun o i => ∃ m : Nat, m ≤ s.size ∧ o = .int .i64 (ofL (s.data.toList.drop m)) ∧ ((m = 0 ∧ i = .int .i64 (-1)) ∨ (∃ q : Nat, m = q + 1 ∧ i = .int .i64 q))) (fun _ i => (intOf i + 1).toNat)
  case atStart =>
    refine ⟨s.size, Nat.le_refl _, ?_, ?_⟩
    · rw [List.drop_eq_nil_of_le (by simp)]; rfl
    · by_cases h : s.size = 0
      · left; exact ⟨h, by rw [h]; rfl⟩
      · right; exact ⟨s.size - 1, by omega, by congr 1; omega⟩
  case round =>
    obtain ⟨m, hm, rfl, (⟨rfl, rfl⟩ | ⟨q, rfl, rfl⟩)⟩ := hrel
    · go_wp2
      go_ret
      exact ⟨rfl, rfl⟩
    · have hl : (s.data.toList.drop (q + 1)).length ≤ 3 := by simp; omega
      have hbd := ofL_bd _ 3 hl
      have hd := Lib.hid (drop_byte s q hm)
      have hb : (s[q].toNat : Int) < 256 := by have := s[q].toNat_lt; omega
      have ho := Lib.hid (or_byte _ _ hbd.1 (by simpa using hbd.2) (Int.natCast_nonneg s[q].toNat) hb)
      have hb0 := hbd.1
      have hb1 : ofL (s.data.toList.drop (q + 1)) < 16777216 := by simpa using hbd.2
      have hq : q < s.size := hm
      have hw := Lib.hid (show wrap64 (s[q].toNat : Int) = s[q].toNat by unfold wrap64; omega)
      clear hbd hl hb
      go_wp2
      all_goals
        go_round
        case rel =>
          refine ⟨q, by omega, ?_, ?_⟩
          · rw [hd.out, hw.out, ho.out]; rfl
          · by_cases h : q = 0
            · left; subst h; exact ⟨rfl, rfl⟩
            · right; exact ⟨q - 1, by omega, by congr 1; omega⟩
        case measure => simp [intOf]

set_option maxHeartbeats 800000 in
theorem of_n (s : ByteArray) (hs : s.size ≤ 4) (w : World) : Calls Tryz.prog 216 #[.string s] w fun e w' => e = .returned (.int .i64 (ofL s.data.toList)) ∧ w = w' := by
  go_enter Tryz.func216, Tryz.ntmps216
  go_wp2
  go_loop [3, 4] (fun o i => ∃ m : Nat, m ≤ s.size ∧ o = .int .i64 (ofL (s.data.toList.drop m)) ∧ ((m = 0 ∧ i = .int .i64 (-1)) ∨ (∃ q : Nat, m = q + 1 ∧ i = .int .i64 q))) (fun _ i => (intOf i + 1).toNat)
  case atStart =>
    refine ⟨s.size, Nat.le_refl _, ?_, ?_⟩
    · rw [List.drop_eq_nil_of_le (by simp)]; rfl
    · by_cases h : s.size = 0
      · left; exact ⟨h, by rw [h]; rfl⟩
      · right; exact ⟨s.size - 1, by omega, by congr 1; omega⟩
  case round =>
    obtain ⟨m, hm, rfl, (⟨rfl, rfl⟩ | ⟨q, rfl, rfl⟩)⟩ := hrel
    · go_wp2
      go_ret
      exact ⟨rfl, rfl⟩
    · have hl : (s.data.toList.drop (q + 1)).length ≤ 3 := by simp; omega
      have hbd := ofL_bd _ 3 hl
      have hd := Lib.hid (drop_byte s q hm)
      have hb : (s[q].toNat : Int) < 256 := by have := s[q].toNat_lt; omega
      have ho := Lib.hid (or_byte _ _ hbd.1 (by simpa using hbd.2) (Int.natCast_nonneg s[q].toNat) hb)
      have hb0 := hbd.1
      have hb1 : ofL (s.data.toList.drop (q + 1)) < 16777216 := by simpa using hbd.2
      have hq : q < s.size := hm
      have hw := Lib.hid (show wrap64 (s[q].toNat : Int) = s[q].toNat by unfold wrap64; omega)
      clear hbd hl hb
      go_wp2
      all_goals
        go_round
        case rel =>
          refine ⟨q, by omega, ?_, ?_⟩
          · rw [hd.out, hw.out, ho.out]; rfl
          · by_cases h : q = 0
            · left; subst h; exact ⟨rfl, rfl⟩
            · right; exact ⟨q - 1, by omega, by congr 1; omega⟩
        case measure => simp [intOf]

/-- the number of some bytes, the lowest first. -/
def numB (s : ByteArray) : Int := ofL s.data.toList
theorem num_c (s : ByteArray) (w : World) (hs : s.size ≤ 4) : Calls Tryz.prog 81 #[.string s] w fun e w' => e = .returned (.int .i64 (numB s)) ∧ w = w' := num_n s hs w
theorem of_c (s : ByteArray) (w : World) (hs : s.size ≤ 4) : Calls Tryz.prog 216 #[.string s] w fun e w' => e = .returned (.int .i64 (numB s)) ∧ w = w' := of_n s hs w
end Go.Proofs.YtccblleobcidfaaGreat.Lw
end
/- Plain facts on strings of bytes: numbers in bytes and back; parts of sums; equality. -/
section
namespace Go.Proofs.YtccblleobcidfaaGreat.St
open Go.RowKit Go.Proofs.YtccblleobcidfaaGreat.Kt Go.Proofs.YtccblleobcidfaaGreat.Lw
set_option linter.unusedVariables false
set_option linter.unusedSimpArgs false

theorem ext_data {a b : ByteArray} (h : a.data.toList = b.data.toList) : a = b := by
  cases a; cases b; simp at h; rw [h]
theorem mod_split (x z : Int) (hz : 0 < z) : x % (256 * z) = x % 256 + 256 * (x / 256 % z) := by
  have h1 := Int.emod_add_mul_ediv x 256
  have h2 := Int.emod_add_mul_ediv (x / 256) z
  have b1 := Int.emod_nonneg x (show (256 : Int) ≠ 0 by decide)
  have b2 := Int.emod_lt_of_pos x (show (0 : Int) < 256 by decide)
  have b3 := Int.emod_nonneg (x / 256) (show z ≠ 0 by omega)
  have b4 := Int.emod_lt_of_pos (x / 256) hz
  have e : x = (x % 256 + 256 * (x / 256 % z)) + (256 * z) * (x / 256 / z) := by
    calc x = x % 256 + 256 * (x / 256) := h1.symm
      _ = x % 256 + 256 * (x / 256 % z + z * (x / 256 / z)) := by rw [h2]
      _ = _ := by rw [Int.mul_add, ← Int.mul_assoc, ← Int.add_assoc]
  have e2 : x % (256 * z) = ((x % 256 + 256 * (x / 256 % z)) + (256 * z) * (x / 256 / z)) % (256 * z) := by rw [← e]
  rw [e2, Int.add_mul_emod_self_left]
  refine Int.emod_eq_of_lt (by omega) ?_
  have : x / 256 % z + 1 ≤ z := by omega
  have := Int.mul_le_mul_of_nonneg_left this (show (0 : Int) ≤ 256 by decide)
  omega
theorem lowL_cons (x : Int) (k : Nat) : lowL x (k + 1) = x % 256 :: lowL (x / 256) k := by
  simp only [lowL, List.range_succ_eq_map, List.map_cons, List.map_map]
  congr 1
  · simp
  · apply List.map_congr_left
    intro i _
    show x / 256 ^ (i + 1) % 256 = _
    rw [Int.pow_succ, Int.mul_comm, Int.ediv_ediv_of_nonneg (by decide)]
theorem byte_back (y : Int) (h0 : 0 ≤ y) (h1 : y < 256) : ((UInt8.ofNat y.toNat).toNat : Int) = y := by
  rw [UInt8.toNat_ofNat']; omega
theorem ofL_lowL : ∀ (k : Nat) (x : Int), ofL ((lowL x k).map fun n => UInt8.ofNat n.toNat) = x % 256 ^ k
  | 0, x => by simp [lowL, ofL]
  | k + 1, x => by
    have hp : (0 : Int) < 256 ^ k := Int.pow_pos (by decide)
    rw [lowL_cons, List.map_cons, ofL, ofL_lowL k, byte_back _ (Int.emod_nonneg _ (by decide)) (Int.emod_lt_of_pos _ (by decide)), Int.pow_succ, Int.mul_comm (256 ^ k), mod_split x _ hp]
    omega
theorem numB_lowB (x : Int) (k : Nat) : numB (lowB x k) = x % 256 ^ k := ofL_lowL k x
theorem lowL_ofL : ∀ l : List UInt8, (lowL (ofL l) l.length).map (fun n => UInt8.ofNat n.toNat) = l
  | [] => rfl
  | b :: l => by
    have hb := b.toNat_lt
    have e1 : ofL (b :: l) % 256 = b.toNat := by simp only [ofL]; omega
    have e2 : ofL (b :: l) / 256 = ofL l := by simp only [ofL]; omega
    rw [List.length_cons, lowL_cons, List.map_cons, e1, e2, lowL_ofL l]
    simp
theorem lowB_numB (s : ByteArray) : lowB (numB s) s.size = s := by
  apply ext_data
  have h := lowL_ofL s.data.toList
  simp only [lowB, strOfNums, numB]
  simpa using h
/-- the byte i of a text, as a number. -/
def byt (s : ByteArray) (i : Nat) : Int := (s.data.toList.getD i 0).toNat
theorem byt_at (s : ByteArray) (i : Nat) (h : i < s.size) : (s[i].toNat : Int) = byt s i := by
  have : i < s.data.toList.length := by simpa using h
  simp [byt, List.getD_eq_getElem?_getD, List.getElem?_eq_getElem this]; rfl
theorem byt_wrap (s : ByteArray) (i : Nat) : IntKind.i64.wrap (byt s i) = byt s i := by
  have := (s.data.toList.getD i 0).toNat_lt
  rw [IntKind.wrap_i64]; unfold byt; omega
theorem byt_bd (s : ByteArray) (i : Nat) : 0 ≤ byt s i ∧ byt s i < 256 := by
  have := (s.data.toList.getD i 0).toNat_lt
  unfold byt; omega
theorem byt_num (s : ByteArray) (i : Nat) (h : i < s.size) : byt s i = numB (s.extract i (i + 1)) := by
  have hi : i < s.data.toList.length := by simpa using h
  have : (s.extract i (i + 1)).data.toList = [s.data.toList[i]] := by
    simp [ByteArray.data_extract, Array.toList_extract, List.extract]
    rw [List.take_one, List.head?_drop]
    simp [h]
  unfold numB
  rw [this]
  simp [ofL, byt, List.getD_eq_getElem?_getD, List.getElem?_eq_getElem hi]
/-- '==' of texts, as the walk writes it. -/
theorem eqs (a b : ByteArray) : (a.toList == b.toList) = decide (a = b) := by
  rw [Lib.toList_data, Lib.toList_data]
  by_cases h : a = b
  · subst h; simp
  · have h1 : a.data.toList ≠ b.data.toList := fun e => h (ext_data e)
    rw [decide_eq_false h, beq_eq_false_iff_ne]
    exact h1
theorem eqs_t {a b : ByteArray} (h : a = b) : (a.toList == b.toList) = true := by rw [eqs]; simp [h]
theorem eqs_f {a b : ByteArray} (h : a ≠ b) : (a.toList == b.toList) = false := by rw [eqs]; simp [h]
end Go.Proofs.YtccblleobcidfaaGreat.St
end
/- What every seat has: the number of an error; 'from a least to a most'. -/
section
namespace Go.Proofs.YtccblleobcidfaaGreat.Nm
open Go.RowKit Go.Proofs.YtccblleobcidfaaGreat.Kt
set_option linter.unusedVariables false
set_option linter.unusedSimpArgs false

set_option maxHeartbeats 400000 in
theorem enum_c (x : Int) (w : World) : Calls Tryz.prog 30 #[.int .i64 x] w fun e w' => e = .returned (.int .i64 x) ∧ w = w' := by
  go_enter Tryz.func30, Tryz.ntmps30
  go_wp2
  go_ret
  exact ⟨rfl, rfl⟩
set_option maxHeartbeats 400000 in
theorem upTo_c (x a b : Int) (w : World) : Calls Tryz.prog 109 #[.int .i64 x, .int .i64 a, .int .i64 b] w fun e w' => e = .returned (.bool (rngB x a b)) ∧ w = w' := by
  by_cases h : a ≤ x
  · go_enter Tryz.func109, Tryz.ntmps109
    go_wp2
    all_goals (go_ret; exact ⟨by first | (simp [rngB, h]; done) | (simp [rngB]; omega), rfl⟩)
  · go_enter Tryz.func109, Tryz.ntmps109
    go_wp2
    all_goals (go_ret; exact ⟨by first | (simp [rngB, h]; done) | (simp [rngB]; omega), rfl⟩)
end Go.Proofs.YtccblleobcidfaaGreat.Nm
end
/- Slices that are read: a row of elements, each of so many cells, that lies in memory; a nil slice is a row of none. -/
section
namespace Go.Proofs.YtccblleobcidfaaGreat.Sl
open Go.RowKit Go.Proofs.YtccblleobcidfaaGreat.Kt
set_option linter.unusedVariables false
set_option linter.unusedSimpArgs false
section
variable {α : Type} {enc : α → List Value} {k : Nat} {w w' : World} {A : Option Addr} {xs : List α}
/-- the elements xs lie one behind the other from A on. -/
def Lies (enc : α → List Value) (k : Nat) (w : World) (A : Option Addr) (xs : List α) : Prop :=
  xs = [] ∨ ∃ b off, A = some ⟨b, off, none⟩ ∧ b < w.heap.size ∧ ∀ j x, xs[j]? = some x → ∀ i v, (enc x)[i]? = some v → w.cell? ⟨b, off + j * k + i, none⟩ = some v
theorem Lies.nil : Lies enc k w A [] := .inl rfl
theorem Lies.below (h : Lies enc k w A xs) (hb : Below w.heap.size w w') : Lies enc k w' A xs := by
  rcases h with h | ⟨b, off, rfl, hlt, hc⟩
  · exact .inl h
  · exact .inr ⟨b, off, rfl, Nat.lt_of_lt_of_le hlt hb.size, fun j x hx i v hv => (hb.cell (p := ⟨b, off + j * k + i, none⟩) hlt).trans (hc j x hx i v hv)⟩
theorem Lies.alloc (h : Lies enc k w A xs) (o : Obj) : Lies enc k (w.alloc o) A xs := h.below (bl_alloc (Below.refl _ _) o)
theorem Lies.drew (h : Lies enc k w A xs) : Lies enc k w.drew A xs := h.below (bl_drew (Below.refl _ _))
theorem Lies.drewN (h : Lies enc k w A xs) (n : Nat) : Lies enc k (w.drewN n) A xs := h.below (bl_drewN (Below.refl _ _) n)
theorem Lies.some_ (h : Lies enc k w A xs) (hn : xs ≠ []) : ∃ b off, A = some ⟨b, off, none⟩ ∧ b < w.heap.size ∧ ∀ j x, xs[j]? = some x → ∀ i v, (enc x)[i]? = some v → w.cell? ⟨b, off + j * k + i, none⟩ = some v := by
  rcases h with h | h
  · exact absurd h hn
  · exact h
end
/-! a row of one's own that grows -/
section
variable {α : Type} {enc : α → List Value} {k : Nat} {w w' : World} {A : Option Addr} {xs : List α} {P : Program}
theorem Lies.set (h : Lies enc k w A xs) {p : Addr} (hp : ∀ b off, A = some ⟨b, off, none⟩ → b ≠ p.block) (v : Value) : Lies enc k (w.setCell p v) A xs := by
  rcases h with h | ⟨b, off, rfl, hlt, hc⟩
  · exact .inl h
  · refine .inr ⟨b, off, rfl, by simpa [World.setCell] using hlt, fun j x hx i u hu => ?_⟩
    exact (World.cell?_of_block (a := ⟨b, off + j * k + i, none⟩) (Below.heap_setCell w p v b (hp b off rfl))).trans (hc j x hx i u hu)
theorem flat_at (hk : ∀ x, (enc x).length = k) : ∀ (xs : List α) (j : Nat) (x : α) (i : Nat) (v : Value), xs[j]? = some x → (enc x)[i]? = some v → (xs.flatMap enc)[j * k + i]? = some v := by
  intro xs
  induction xs with
  | nil => intro j x i v h; simp at h
  | cons y ys ih =>
    intro j x i v h hv
    have hi : i < (enc x).length := by
      rcases Nat.lt_or_ge i (enc x).length with h | h
      · exact h
      · rw [List.getElem?_eq_none h] at hv; cases hv
    rw [List.flatMap_cons]
    cases j with
    | zero =>
      simp at h
      subst h
      rw [List.getElem?_append_left (by simpa using hi)]
      simpa using hv
    | succ j =>
      rw [List.getElem?_append_right (by rw [hk, Nat.succ_mul]; omega), hk, show (j + 1) * k + i - k = j * k + i by rw [Nat.succ_mul]; omega]
      exact ih j x i v (by simpa using h) hv
theorem flat_len (hk : ∀ x, (enc x).length = k) (xs : List α) : (xs.flatMap enc).length = xs.length * k := by
  induction xs with
  | nil => simp
  | cons y ys ih => rw [List.flatMap_cons, List.length_append, ih, hk, List.length_cons, Nat.succ_mul]; omega
theorem flat_all {p : Value → Prop} (h : ∀ x, ∀ u ∈ enc x, p u) (xs : List α) : ∀ u ∈ xs.flatMap enc, p u := by
  intro u hu
  obtain ⟨x, _, hx⟩ := List.mem_flatMap.1 hu
  exact h x u hx
theorem lies_own {base : Nat} {e : TypeId} {n c : Nat} (hk : ∀ x, (enc x).length = k) (h : w.ownsRow base e k (.slice A n c) n (xs.flatMap enc)) (hn : xs.length = n) : Lies enc k w A xs := by
  rcases h.2 with ⟨hv, h0⟩ | ⟨g, cap, cur, hv, hb, hg, _⟩
  · left
    exact List.eq_nil_of_length_eq_zero (by omega)
  · right
    injection hv with hA
    subst hA
    refine ⟨g, 0, rfl, ?_, fun j x hx i v hi => ?_⟩
    · rcases Nat.lt_or_ge g w.heap.size with hlt | hge
      · exact hlt
      · rw [Array.getElem?_eq_none hge] at hg; cases hg
    · have := h.cells (g := g) rfl (j * k + i) v (flat_at hk xs j x i v hx hi)
      rwa [add_plain, ← Nat.zero_add (j * k + i), ← Nat.add_assoc] at this
theorem add_off (b off j : Nat) : (⟨b, off, none⟩ : Addr).add j = ⟨b, off + j, none⟩ := by unfold Addr.add; split <;> simp_all
theorem lies_news {b off : Nat} (hk : ∀ x, (enc x).length = k) (hpos : 0 < k) (hc : ∀ j x, xs[j]? = some x → ∀ i v, (enc x)[i]? = some v → w.cell? ⟨b, off + j * k + i, none⟩ = some v) :
    ∀ j u, (xs.flatMap enc)[j]? = some u → w.cell? ((⟨b, off, none⟩ : Addr).add j) = some u := by
  intro j u hu
  have hj : j < xs.length * k := by
    rcases Nat.lt_or_ge j (xs.flatMap enc).length with h | h
    · rwa [flat_len hk] at h
    · rw [List.getElem?_eq_none h] at hu; cases hu
  have hd : j / k < xs.length := Nat.div_lt_of_lt_mul (by rw [Nat.mul_comm]; exact hj)
  have hm : j % k < k := Nat.mod_lt _ hpos
  have e : j = j / k * k + j % k := by rw [Nat.mul_comm]; exact (Nat.div_add_mod j k).symm
  have hx : xs[j / k]? = some xs[j / k] := List.getElem?_eq_getElem hd
  have hv : (enc xs[j / k])[j % k]? = some ((enc xs[j / k])[j % k]'(by rw [hk]; exact hm)) := List.getElem?_eq_getElem _
  have h1 := flat_at hk xs _ _ _ _ hx hv
  rw [← e, hu] at h1
  injection h1 with h1
  have h2 := hc _ _ hx _ _ hv
  rw [← h1, Nat.add_assoc, ← e] at h2
  rw [add_off]
  exact h2
/-- append(v, xs...): v one's own row, xs a row that lies anywhere, none let in. -/
theorem run_grow (w : World) (base : Nat) (t ty e : TypeId) (i : TypeInfo) (z : Value) (bytes : Nat) (ht : P.underlying t = some (.slice e)) (hi : P.info? e = some i) (hz : i.zero = some z)
    (hsize : i.size = k) (hby : i.bytes = bytes) (hzs : z.cells.size = k) (hpos : 0 < k) (hk : ∀ x, (enc x).length = k) (h1 : ∀ x, ∀ u ∈ enc x, u.oneCell' = true)
    (v : Value) (n : Nat) (ys : List α) (hown : w.ownsRow base e k v n (ys.flatMap enc)) (A : Option Addr) (m c : Nat) (xs : List α) (hl : Lies enc k w A xs) (hm : xs.length = m)
    (h63 : n + m ≤ maxLen) (hbytes : (n + m) * bytes ≤ 140737488355328) (hbase : base ≤ w.heap.size) :
    ∃ A' c' w', (Builtin.append_ #[t, t] ty #[v, .slice A m c]).run P w = .ok (.slice A' (n + m) c') w' ∧ w'.ownsRow base e k (.slice A' (n + m) c') (n + m) ((ys ++ xs).flatMap enc) ∧ w.grownBy w' v.ownBlock ∧
      ((Value.slice A' (n + m) c').ownBlock = v.ownBlock ∨ (Value.slice A' (n + m) c').ownBlock = some w.heap.size) := by
  have key : ∃ v' w', (Builtin.append_ #[t, t] ty #[v, .slice A m c]).run P w = .ok v' w' ∧ w'.ownsRow base e k v' (n + m) ((ys ++ xs).flatMap enc) ∧ w.grownBy w' v.ownBlock ∧ (v'.ownBlock = v.ownBlock ∨ v'.ownBlock = some w.heap.size) := by
    have some_ : ∀ b off, (xs = [] ∨ ∀ j x, xs[j]? = some x → ∀ i v, (enc x)[i]? = some v → w.cell? ⟨b, off + j * k + i, none⟩ = some v) → ∃ v' w', (Builtin.append_ #[t, t] ty #[v, .slice (some ⟨b, off, none⟩) m c]).run P w = .ok v' w' ∧ w'.ownsRow base e k v' (n + m) ((ys ++ xs).flatMap enc) ∧ w.grownBy w' v.ownBlock ∧ (v'.ownBlock = v.ownBlock ∨ v'.ownBlock = some w.heap.size) := by
      intro b off hc
      obtain ⟨v', w', a1, a2, a3, _, a5⟩ := run_append_own_at (P := P) w base t ty e i z k bytes ht hi hz hsize hby hzs hpos v n (ys.flatMap enc) hown ⟨b, off, none⟩ m c (xs.flatMap enc) (by rw [flat_len hk, hm])
        (by
          rcases hc with rfl | hc
          · intro j u hu; simp at hu
          · exact lies_news hk hpos hc) (flat_all h1 xs) h63 hbytes hbase
      exact ⟨v', w', a1, by rwa [List.flatMap_append], a3, a5⟩
    rcases A with _ | ⟨b, off, p⟩
    · rcases hl with rfl | ⟨b, off, e', _⟩
      · have h0 : m = 0 := by simpa using hm.symm
        subst h0
        refine ⟨v, w, ?_, by simpa using hown, World.grownBy.refl w _, .inl rfl⟩
        rcases hown.2 with ⟨rfl, rfl⟩ | ⟨g, cap, cur, rfl, _, _, hnc, _⟩
        · simp [Builtin.append_, run_underlying ht, sizeOf, typeInfo, hi, Builtin.lenOf, Builtin.firstCells]
        · simp [Builtin.append_, run_underlying ht, sizeOf, typeInfo, hi, Builtin.lenOf, Builtin.firstCells, hnc, storeCells]
      · cases e'
    · rcases hl with rfl | ⟨b', off', e', hlt, hc⟩
      · have h0 : m = 0 := by simpa using hm.symm
        subst h0
        obtain ⟨v', w', a1, a2, a3, _, a5⟩ := run_append_own_at (P := P) w base t ty e i z k bytes ht hi hz hsize hby hzs hpos v n (ys.flatMap enc) hown ⟨b, off, p⟩ 0 c [] (by simp) (fun j u hu => by simp at hu) (fun u hu => by simp at hu) h63 hbytes hbase
        exact ⟨v', w', a1, by simpa using a2, a3, a5⟩
      · cases e'
        exact some_ _ _ (.inr hc)
  obtain ⟨v', w', a1, a2, a3, a4⟩ := key
  rcases a2.2 with ⟨hv, h0⟩ | ⟨g, cap, cur, hv, _⟩
  · subst hv
    refine ⟨none, 0, w', ?_, ?_, a3, ?_⟩
    · rw [h0]; exact a1
    · rw [h0] at a2 ⊢; exact a2
    · rw [h0]; exact a4
  · subst hv
    exact ⟨_, cap, w', a1, a2, a3, a4⟩
theorem wp_grow {o : Oper} {a : Act} {K : Act → World → Prop} {Q : Exit → Act → World → Prop} (s x : Operand) (t : TypeId)
    (ho : o.op = .call { callee := .builtin .append, args := #[s, x], argTypes := #[t, t] })
    (w : World) (base : Nat) (e : TypeId) (i : TypeInfo) (z : Value) (bytes : Nat) (ht : P.underlying t = some (.slice e)) (hi : P.info? e = some i) (hz : i.zero = some z)
    (hsize : i.size = k) (hby : i.bytes = bytes) (hzs : z.cells.size = k) (hpos : 0 < k) (hk : ∀ x, (enc x).length = k) (h1 : ∀ x, ∀ u ∈ enc x, u.oneCell' = true)
    (v : Value) (hs : a.eval s = v) (n : Nat) (ys : List α) (hown : w.ownsRow base e k v n (ys.flatMap enc)) (A : Option Addr) (m c : Nat) (hx : a.eval x = .slice A m c) (xs : List α) (hl : Lies enc k w A xs) (hm : xs.length = m)
    (h63 : n + m ≤ maxLen) (hbytes : (n + m) * bytes ≤ 140737488355328) (hbase : base ≤ w.heap.size)
    (h : ∀ A' c' w', w'.ownsRow base e k (.slice A' (n + m) c') (n + m) ((ys ++ xs).flatMap enc) → w.grownBy w' v.ownBlock →
      ((Value.slice A' (n + m) c').ownBlock = v.ownBlock ∨ (Value.slice A' (n + m) c').ownBlock = some w.heap.size) → K (a.put o.dst (.slice A' (n + m) c')) w') : o.wp P a w K Q := by
  obtain ⟨A', c', w', hr, h2, h3, h4⟩ := run_grow (P := P) w base t o.type e i z bytes ht hi hz hsize hby hzs hpos hk h1 v n ys hown A m c xs hl hm h63 hbytes hbase
  unfold Oper.wp execOp
  simp only [ho, resolve, invoke, builtin, Sem.run_bind, Sem.run_pure, Result.andThen_ok, List.map_toArray, List.map_cons, List.map_nil, hs, hx, hr]
  exact h A' c' w' h2 h3 h4
theorem wpList_grow {ops : Array Oper} {rest : List Oper} {o : Oper} {a : Act} {Q : Exit → Act → World → Prop} (hgd : o.guard = none) (s x : Operand) (t : TypeId)
    (ho : o.op = .call { callee := .builtin .append, args := #[s, x], argTypes := #[t, t] })
    (w : World) (base : Nat) (e : TypeId) (i : TypeInfo) (z : Value) (bytes : Nat) (ht : P.underlying t = some (.slice e)) (hi : P.info? e = some i) (hz : i.zero = some z)
    (hsize : i.size = k) (hby : i.bytes = bytes) (hzs : z.cells.size = k) (hpos : 0 < k) (hk : ∀ x, (enc x).length = k) (h1 : ∀ x, ∀ u ∈ enc x, u.oneCell' = true)
    (v : Value) (hs : a.eval s = v) (n : Nat) (ys : List α) (hown : w.ownsRow base e k v n (ys.flatMap enc)) (A : Option Addr) (m c : Nat) (hx : a.eval x = .slice A m c) (xs : List α) (hl : Lies enc k w A xs) (hm : xs.length = m)
    (h63 : n + m ≤ maxLen) (hbytes : (n + m) * bytes ≤ 140737488355328) (hbase : base ≤ w.heap.size)
    (h : ∀ A' c' w', w'.ownsRow base e k (.slice A' (n + m) c') (n + m) ((ys ++ xs).flatMap enc) → w.grownBy w' v.ownBlock →
      ((Value.slice A' (n + m) c').ownBlock = v.ownBlock ∨ (Value.slice A' (n + m) c').ownBlock = some w.heap.size) → wpList P ops Q rest (a.put o.dst (.slice A' (n + m) c')) w') : wpList P ops Q (o :: rest) a w :=
  wpList_plain hgd fun _ hK => wp_grow s x t ho w base e i z bytes ht hi hz hsize hby hzs hpos hk h1 v hs n ys hown A m c hx xs hl hm h63 hbytes hbase fun A' c' w' h2 h3 h4 => hK _ _ (h A' c' w' h2 h3 h4)
theorem Blk.grown {g : Nat} {cs : Array Value} {t : TypeId} {row : Option Nat} (h : Blk w g cs t) (hg : w.grownBy w' row) (hr : some g ≠ row) : Blk w' g cs t := by
  have hlt := h.lt
  exact (hg.block g hlt hr).trans h
theorem bl_grown {w0 : World} {row : Option Nat} (h : Below w0.heap.size w0 w) (hg : w.grownBy w' row) (hr : ∀ g, row = some g → w0.heap.size ≤ g) : Below w0.heap.size w0 w' :=
  ⟨hg.os.trans h.os, hg.tape.trans h.tape, hg.output.trans h.output, Nat.le_trans h.size hg.size, fun g hlt => (hg.block g (Nat.lt_of_lt_of_le hlt h.size) (fun e => by have := hr g e.symm; omega)).trans (h.block g hlt)⟩
end
theorem own_empty (w : World) (base : Nat) (e : TypeId) (k : Nat) (hb : base ≤ w.heap.size) : (w.alloc (.cells #[] e)).ownsRow base e k (.slice (some ⟨w.heap.size, 0, none⟩) 0 0) 0 [] :=
  World.ownsRow_lit w #[] 0 hb (by decide) (by simp)
theorem Lies.put {α : Type} {enc : α → List Value} {k B g i : Nat} {w : World} {A : Option Addr} {xs : List α} {v : Value} (hA : ∀ b off, A = some ⟨b, off, none⟩ → B ≤ b) (hp : g < B) (h : Lies enc k w A xs) : Lies enc k (w.setCell ⟨g, i, none⟩ v) A xs :=
  h.set (fun b off e => by have := hA b off e; show b ≠ g; omega) v
end Go.Proofs.YtccblleobcidfaaGreat.Sl
end
/- '==' of structs, as one Bool. -/
section
namespace Go.Proofs.YtccblleobcidfaaGreat.Es
open Go.RowKit
set_option linter.unusedVariables false
set_option linter.unusedSimpArgs false
section
variable {P : Program} {d : Nat} {xs ys : Array Value} {f : Field} {fs : List Field} {a b : Value} {r s : Bool} {w : World}
theorem eqf_last (hn : (f.name == "_") = false) (ha : (part f.type xs f.offset).run P w = .ok a w) (hb : (part f.type ys f.offset).run P w = .ok b w) (he : (Op.equalIn d f.type a b).run P w = .ok r w) : (Op.eqFields d xs ys [f]).run P w = .ok r w := by
  have hn' : f.name ≠ "_" := by simpa using hn
  simp only [Op.eqFields, if_pos hn', Sem.run_bind, ha, hb, he, Result.andThen_ok]
  cases r <;> simp
theorem eqf_cons (hn : (f.name == "_") = false) (ha : (part f.type xs f.offset).run P w = .ok a w) (hb : (part f.type ys f.offset).run P w = .ok b w) (he : (Op.equalIn d f.type a b).run P w = .ok r w) (hr : (Op.eqFields d xs ys fs).run P w = .ok s w) : (Op.eqFields d xs ys (f :: fs)).run P w = .ok (r && s) w := by
  have hn' : f.name ≠ "_" := by simpa using hn
  rw [Op.eqFields]
  simp only [if_pos hn', Sem.run_bind, ha, hb, he, Result.andThen_ok]
  cases r
  · simp
  · simpa using hr
theorem eqA_of {t : TypeId} {fs : Array Field} (hu : P.underlying t = some (.struct fs)) (hp : P.stoodInHeld t = false) (h : (Op.eqFields d xs ys fs.toList).run P w = .ok r w) : (Op.equalIn (d + 1) t (.agg xs) (.agg ys)).run P w = .ok r w := by
  have hf : P.fieldsOf t = fs := by simp [Program.fieldsOf, hu]
  rw [run_equalIn_struct (P := P) w d t xs ys (by rw [hf]; exact hu) hp, hf]
  exact h
end
theorem eqIds (d : Nat) (w : World) (x0 x1 x2 y0 y1 y2 : Int) : (Op.equalIn (d + 2) 25 (.agg #[.int .i64 x0, .int .i64 x1, .int .i64 x2]) (.agg #[.int .i64 y0, .int .i64 y1, .int .i64 y2])).run Tryz.prog w = .ok (x0 == y0 && (x1 == y1 && (x2 == y2))) w := eqA_of Tryz.underlying25 (by kernel_rfl) (eqf_cons (by rfl) (by go_simp; rfl) (by go_simp; rfl) (by go_simp) (eqf_cons (by rfl) (by go_simp; rfl) (by go_simp; rfl) (by go_simp) (eqf_last (by rfl) (by go_simp; rfl) (by go_simp; rfl) (by go_simp))))
theorem eqAns (d : Nat) (w : World) (x0 x1 x2 y0 y1 y2 : Int) : (Op.equalIn (d + 2) 111 (.agg #[.int .i64 x0, .int .i64 x1, .int .i64 x2]) (.agg #[.int .i64 y0, .int .i64 y1, .int .i64 y2])).run Tryz.prog w = .ok (x0 == y0 && (x1 == y1 && (x2 == y2))) w := eqA_of Tryz.underlying111 (by kernel_rfl) (eqf_cons (by rfl) (by go_simp; rfl) (by go_simp; rfl) (by go_simp) (eqf_cons (by rfl) (by go_simp; rfl) (by go_simp; rfl) (by go_simp) (eqf_last (by rfl) (by go_simp; rfl) (by go_simp; rfl) (by go_simp))))
theorem eqOp (d : Nat) (w : World) (x0 y0 : Bool) (x1 y1 : Int) (x2 y2 : ByteArray) : (Op.equalIn (d + 2) 183 (.agg #[.bool x0, .int .i64 x1, .string x2]) (.agg #[.bool y0, .int .i64 y1, .string y2])).run Tryz.prog w = .ok (x0 == y0 && (x1 == y1 && (x2.toList == y2.toList))) w := eqA_of Tryz.underlying183 (by kernel_rfl) (eqf_cons (by rfl) (by go_simp; rfl) (by go_simp; rfl) (by go_simp) (eqf_cons (by rfl) (by go_simp; rfl) (by go_simp; rfl) (by go_simp) (eqf_last (by rfl) (by go_simp; rfl) (by go_simp; rfl) (by go_simp))))
end Go.Proofs.YtccblleobcidfaaGreat.Es
end
/- Steps of a flash: what the program's and the references' functions answer of them. -/
section
namespace Go.Proofs.YtccblleobcidfaaGreat.Ops
open Go.RowKit Go.Proofs.YtccblleobcidfaaGreat.Kt Go.Proofs.YtccblleobcidfaaGreat.Lw Go.Proofs.YtccblleobcidfaaGreat.St Go.Proofs.YtccblleobcidfaaGreat.Nm Go.Proofs.YtccblleobcidfaaGreat.Es Go.Proofs.YtccblleobcidfaaGreat.Sl
set_option linter.unusedVariables false
set_option linter.unusedSimpArgs false
/-- a step: is a sector erased, where, the text. -/
abbrev OpV := Bool × Int × ByteArray
def encOp (o : OpV) : List Value := [.bool o.1, .int .i64 o.2.1, .string o.2.2]
theorem retB {a b : Bool} (h : a = b) : Ending.returned (.bool a) = Ending.returned (.bool b) := by rw [h]
theorem sector_c (x : Int) (w : World) : Calls Tryz.prog 234 #[.int .i64 x] w fun e w' => e = .returned (.bool (rngB x 0 7)) ∧ w = w' := by
  go_enter Tryz.func234, Tryz.ntmps234
  go_wp2
  all_goals (go_ret; refine ⟨retB ?_, rfl⟩; rw [Bool.eq_iff_iff]; simp [rngB] <;> omega)
def bgnB (x : Int) : Bool := rngB x 0 764 && (x % 4 == 0)
theorem begins_c (x : Int) (w : World) : Calls Tryz.prog 235 #[.int .i64 x] w fun e w' => e = .returned (.bool (bgnB x)) ∧ w = w' := by
  go_enter Tryz.func235, Tryz.ntmps235
  go_wp2
  all_goals (go_ret; refine ⟨retB ?_, rfl⟩; rw [Bool.eq_iff_iff]; simp [bgnB, rngB] <;> omega)
theorem tmod_rng {x u m : Int} (h : rngB x 0 u = true) : x.tmod m = x % m := by
  apply Int.tmod_eq_emod_of_nonneg
  simp [rngB] at h
  exact h.1
theorem wordAt_c (x : Int) (w : World) : Calls Tryz.prog 268 #[.int .i64 x] w fun e w' => e = .returned (.bool (bgnB x)) ∧ w = w' := by
  cases hr : rngB x 0 764
  · go_enter Tryz.func268, Tryz.ntmps268
    go_wp2_with (first | (go_at_call 109; refine (upTo_c _ _ _ _).mono ?_; rintro e w' ⟨rfl, rfl⟩) | fail)
    all_goals (go_ret; refine ⟨retB ?_, rfl⟩; simp_all [bgnB])
  · have ht := tmod_rng (m := 4) hr
    go_enter Tryz.func268, Tryz.ntmps268
    go_wp2_with (first | (go_at_call 109; refine (upTo_c _ _ _ _).mono ?_; rintro e w' ⟨rfl, rfl⟩) | fail)
    all_goals (go_ret; refine ⟨retB ?_, rfl⟩; simp_all [bgnB])
def opMay (o : OpV) : Bool := bif o.1 then (rngB o.2.1 0 672 && (o.2.1 % 96 == 0 && o.2.2.toList.isEmpty)) else (bgnB o.2.1 && ((o.2.2.size : Int) == 4))
def OpOk (o : OpV) : Prop := -9223372036854775808 ≤ o.2.1 ∧ o.2.1 ≤ 9223372036854775807 ∧ o.2.2.size ≤ 9223372036854775807
theorem sec_at {a : Int} (h0 : 0 ≤ a) (h1 : a ≤ 9223372036854775807) (h2 : a % 96 = 0) : rngB (wrap64 (a.tdiv 96)) 0 7 = rngB a 0 672 := by
  rw [Int.tdiv_eq_ediv_of_nonneg h0, Bool.eq_iff_iff]
  simp [rngB]
  unfold wrap64
  omega
theorem opMay_c (o : OpV) (w : World) (ht : OpOk o) : Calls Tryz.prog 171 #[.agg #[.bool o.1, .int .i64 o.2.1, .string o.2.2]] w fun x w' => x = .returned (.bool (opMay o)) ∧ Below w.heap.size w w' := by
  obtain ⟨e, a, t⟩ := o
  obtain ⟨h1, h2, h3⟩ := ht
  simp only at h1 h2 h3
  have HB := Below.refl w.heap.size w
  have K0 := Blk.new w #[.bool e, .int .i64 a, .string t] 183
  cases e
  · go_enter Tryz.func171, Tryz.ntmps171
    go_wp2_with (first | (go_at_call 235; refine (begins_c _ _).mono ?_; rintro e w' ⟨rfl, rfl⟩) | (go_at_call 234; refine (sector_c _ _).mono ?_; rintro e w' ⟨rfl, rfl⟩) | fail)
    all_goals (go_ret; refine ⟨retB ?_, zq1⟩; simp_all [opMay])
  · have hs := fun (x0 : 0 ≤ a) (x2 : a % 96 = 0) => sec_at x0 h2 x2
    go_enter Tryz.func171, Tryz.ntmps171
    go_wp2_with (first | (go_at_call 235; refine (begins_c _ _).mono ?_; rintro e w' ⟨rfl, rfl⟩) | (go_at_call 234; refine (sector_c _ _).mono ?_; rintro e w' ⟨rfl, rfl⟩) | fail)
    all_goals (go_ret; refine ⟨retB ?_, zq1⟩; simp only [opMay, cond_true]; first | (simp_all; done) | (simp_all [rngB]; omega))
theorem rOpMay_c (o : OpV) (w : World) (ht : OpOk o) : Calls Tryz.prog 231 #[.agg #[.bool o.1, .int .i64 o.2.1, .string o.2.2]] w fun x w' => x = .returned (.bool (opMay o)) ∧ Below w.heap.size w w' := by
  obtain ⟨e, a, t⟩ := o
  obtain ⟨h1, h2, h3⟩ := ht
  simp only at h1 h2 h3
  have HB := Below.refl w.heap.size w
  have K0 := Blk.new w #[.bool e, .int .i64 a, .string t] 183
  cases e
  · go_enter Tryz.func231, Tryz.ntmps231
    go_wp2_with (first | (go_at_call 268; refine (wordAt_c _ _).mono ?_; rintro e w' ⟨rfl, rfl⟩) | (go_at_call 109; refine (upTo_c _ _ _ _).mono ?_; rintro e w' ⟨rfl, rfl⟩) | fail)
    all_goals (go_ret; refine ⟨retB ?_, zq1⟩; simp_all [opMay])
  · cases hr : rngB a 0 672
    · go_enter Tryz.func231, Tryz.ntmps231
      go_wp2_with (first | (go_at_call 268; refine (wordAt_c _ _).mono ?_; rintro e w' ⟨rfl, rfl⟩) | (go_at_call 109; refine (upTo_c _ _ _ _).mono ?_; rintro e w' ⟨rfl, rfl⟩) | fail)
      all_goals (go_ret; refine ⟨retB ?_, zq1⟩; simp only [opMay, cond_true]; simp_all)
    · have hm := tmod_rng (m := 96) hr
      go_enter Tryz.func231, Tryz.ntmps231
      go_wp2_with (first | (go_at_call 268; refine (wordAt_c _ _).mono ?_; rintro e w' ⟨rfl, rfl⟩) | (go_at_call 109; refine (upTo_c _ _ _ _).mono ?_; rintro e w' ⟨rfl, rfl⟩) | fail)
      all_goals (go_ret; refine ⟨retB ?_, zq1⟩; simp only [opMay, cond_true]; simp_all)
end Go.Proofs.YtccblleobcidfaaGreat.Ops
end
/- Rows of steps: searched, compared. -/
section
namespace Go.Proofs.YtccblleobcidfaaGreat.Ops
open Go.RowKit Go.Proofs.YtccblleobcidfaaGreat.Kt Go.Proofs.YtccblleobcidfaaGreat.Lw Go.Proofs.YtccblleobcidfaaGreat.St Go.Proofs.YtccblleobcidfaaGreat.Nm Go.Proofs.YtccblleobcidfaaGreat.Es Go.Proofs.YtccblleobcidfaaGreat.Sl
set_option linter.unusedVariables false
set_option linter.unusedSimpArgs false
/-- a row of steps, each as it may stand in memory. -/
def Row (w : World) (A : Option Addr) (xs : List OpV) : Prop := Lies encOp 3 w A xs ∧ xs.length ≤ 9223372036854775807 ∧ ∀ o ∈ xs, OpOk o
theorem Row.below {w w' : World} {A : Option Addr} {xs : List OpV} (h : Row w A xs) (hb : Below w.heap.size w w') : Row w' A xs := ⟨h.1.below hb, h.2⟩
theorem Row.at_ {w : World} {A : Option Addr} {xs : List OpV} (h : Row w A xs) {j : Nat} (hj : j < xs.length) :
    ∃ b off x, A = some ⟨b, off, none⟩ ∧ b < w.heap.size ∧ xs[j]? = some x ∧ OpOk x ∧ w.cell? ⟨b, off + j * 3, none⟩ = some (.bool x.1) ∧ w.cell? ⟨b, off + j * 3 + 1, none⟩ = some (.int .i64 x.2.1) ∧ w.cell? ⟨b, off + j * 3 + 2, none⟩ = some (.string x.2.2) := by
  obtain ⟨b, off, e, hlt, hc⟩ := h.1.some_ (by rintro rfl; simp at hj)
  have hx : xs[j]? = some xs[j] := List.getElem?_eq_getElem hj
  exact ⟨b, off, xs[j], e, hlt, hx, h.2.2 _ (List.getElem_mem hj), hc j _ hx 0 _ rfl, hc j _ hx 1 _ rfl, hc j _ hx 2 _ rfl⟩
theorem odd_c (o : OpV) (w : World) (ht : OpOk o) : Calls Tryz.prog 170 #[.agg #[.bool o.1, .int .i64 o.2.1, .string o.2.2]] w fun x w' => x = .returned (.bool (!opMay o)) ∧ Below w.heap.size w w' := by
  have HB := Below.refl w.heap.size w
  have K0 := Blk.new w #[.bool o.1, .int .i64 o.2.1, .string o.2.2] 183
  go_enter Tryz.func170, Tryz.ntmps170
  go_wp2_with (first | (go_at_call 171; refine (opMay_c _ _ ht).mono ?_; rintro e w' ⟨rfl, hb⟩; have HB := bl_step zq4 hb; have K0 := Blk.below zq7 hb; obtain ⟨_, _, _, _, _, _, _⟩ := Blk.all3 K0) | fail)
  go_ret
  exact ⟨by simp, HB⟩
theorem any_hit {xs : List OpV} {k : Nat} {x : OpV} (hx : xs[k]? = some x) (h : opMay x = false) : xs.any (fun o => !opMay o) = true := List.any_eq_true.2 ⟨x, List.mem_of_getElem? hx, by simp [h]⟩
theorem any_miss {xs : List OpV} (h : ∀ j x, j < xs.length → xs[j]? = some x → opMay x = true) : xs.any (fun o => !opMay o) = false := by
  rw [List.any_eq_false]
  intro x hx
  obtain ⟨j, hj, rfl⟩ := List.mem_iff_getElem.1 hx
  simp [h j _ hj (List.getElem?_eq_getElem hj)]
set_option maxHeartbeats 1000000 in
theorem index_c (A : Option Addr) (c n : Nat) (xs : List OpV) (w : World) (hl : Row w A xs) (hn : xs.length = n) :
    Calls Tryz.prog 236 #[.slice A n c, .func (.func 170) #[] #[]] w fun e w' => (∃ r, e = .returned (.int .i64 r) ∧ decide (0 ≤ r) = xs.any (fun o => !opMay o)) ∧ Below w.heap.size w w' := by
  have hb : n ≤ 9223372036854775807 := by rw [← hn]; exact hl.2.1
  have hrow : Aside (∀ (W : World), Below w.heap.size w W → Row W A xs) := fun W hW => hl.below hW
  clear hl
  go_enter Tryz.func236, Tryz.ntmps236
  go_wp2
  go_loopg [5, 8] n (fun gg _ s8 wr => ∃ kk : Nat, kk ≤ n ∧ n - kk ≤ gg ∧ s8 = .int .i64 kk ∧ Aside (Below w.heap.size w wr) ∧ Aside (∀ j x, j < kk → xs[j]? = some x → opMay x = true))
  case atStart => exact ⟨0, Nat.zero_le _, by omega, rfl, Below.refl _ w, fun j x hj => absurd hj (Nat.not_lt_zero _)⟩
  case round =>
    obtain ⟨kk, hkk, hg, rfl, BW, AA⟩ := hrel
    by_cases hlt : kk < n
    · have hltz : (kk : Int) < (n : Int) := by omega
      obtain ⟨b, off, x, rfl, hbs, hx, hok, c0, c1, c2⟩ := (hrow.out wr BW.out).at_ (j := kk) (by omega)
      have hcall := odd_c x wr hok
      have hx' : Aside (xs[kk]? = some x) := hx
      clear hx hok
      cases hq : opMay x with
      | false =>
        simp only [hq, Bool.not_false, Bool.not_true] at hcall
        have hq' : Aside (opMay x = false) := hq
        clear hq
        go_wp2_with (first | (go_at_call 170; refine hcall.mono ?_; rintro e w' ⟨rfl, hb'⟩) | fail)
        go_ret
        refine ⟨⟨_, rfl, ?_⟩, bl_step BW.out hb'⟩
        rw [any_hit hx'.out hq'.out]
        exact decide_eq_true (by omega)
      | true =>
        simp only [hq, Bool.not_false, Bool.not_true] at hcall
        have hq' : Aside (opMay x = true) := hq
        clear hq
        go_wp2_with (first | (go_at_call 170; refine hcall.mono ?_; rintro e w' ⟨rfl, hb'⟩) | fail)
        go_roundg (n - (kk + 1))
        case measure => omega
        case rel =>
          refine ⟨kk + 1, by omega, by omega, by go_num, bl_step BW.out hb', (show Aside _ from fun j y hj hy => ?_)⟩
          by_cases e : j = kk
          · subst e
            rw [hx'.out] at hy
            cases hy
            exact hq'.out
          · exact AA.out j y (by omega) hy
    · have hltz : ¬ (kk : Int) < (n : Int) := by omega
      have : kk = n := by omega
      subst this
      go_wp2
      go_ret
      refine ⟨⟨_, rfl, ?_⟩, BW.out⟩
      rw [any_miss (fun j x hj hx => AA.out j x (by omega) hx)]
      rfl
theorem odd_any (A : Option Addr) (c n : Nat) (xs : List OpV) (w : World) (hl : Row w A xs) (hn : xs.length = n) :
    Calls Tryz.prog 175 #[.slice A n c, .func (.func 170) #[] #[]] w fun e w' => e = .returned (.bool (xs.any (fun o => !opMay o))) ∧ Below w.heap.size w w' := by
  go_enter Tryz.func175, Tryz.ntmps175
  go_wp2_with (first | (go_at_call 236; refine (index_c _ _ _ _ _ hl hn).mono ?_; rintro e w' ⟨⟨r, rfl, hr⟩, hb⟩) | fail)
  all_goals (go_ret; refine ⟨retB ?_, hb⟩; rw [← hr])
def opEq (x y : OpV) : Bool := x.1 == y.1 && (x.2.1 == y.2.1 && (x.2.2.toList == y.2.2.toList))
theorem opEq_iff (x y : OpV) : opEq x y = true ↔ x = y := by
  obtain ⟨a, b, c⟩ := x
  obtain ⟨a', b', c'⟩ := y
  simp only [opEq, eqs]
  simp
attribute [local go_sem high] eqOp
set_option maxHeartbeats 1000000 in
theorem same_c (A B : Option Addr) (c d n m : Nat) (xs ys : List OpV) (w : World) (hl : Row w A xs) (hr : Row w B ys) (hn : xs.length = n) (hm : ys.length = m) :
    Calls Tryz.prog 75 #[.slice A n c, .slice B m d] w fun e w' => e = .returned (.bool (decide (xs = ys))) ∧ Below w.heap.size w w' := by
  by_cases hnm : n = m
  · subst hnm
    have hb : n ≤ 9223372036854775807 := by rw [← hn]; exact hl.2.1
    have hrow : Aside (∀ (W : World), Below w.heap.size w W → Row W A xs ∧ Row W B ys) := fun W hW => ⟨hl.below hW, hr.below hW⟩
    clear hl hr
    go_enter Tryz.func75, Tryz.ntmps75
    go_wp2
    go_loopg [5] n (fun gg s5 wr => ∃ kk : Nat, kk ≤ n ∧ n - kk ≤ gg ∧ s5 = .int .i64 kk ∧ Aside (Below w.heap.size w wr) ∧ Aside (∀ j : Nat, j < kk → xs[j]? = ys[j]?))
    case atStart => exact ⟨0, Nat.zero_le _, by omega, rfl, Below.refl _ w, fun j hj => absurd hj (Nat.not_lt_zero _)⟩
    case round =>
      obtain ⟨kk, hkk, hg, rfl, BW, AA⟩ := hrel
      by_cases hlt : kk < n
      · have hltz : (kk : Int) < (n : Int) := by omega
        obtain ⟨b, off, x, rfl, hbs, hx, hok, c0, c1, c2⟩ := (hrow.out wr BW.out).1.at_ (j := kk) (by omega)
        obtain ⟨b', off', y, rfl, hbs', hy, hok', c0', c1', c2'⟩ := (hrow.out wr BW.out).2.at_ (j := kk) (by omega)
        have hx' : Aside (xs[kk]? = some x) := hx
        have hy' : Aside (ys[kk]? = some y) := hy
        clear hx hok hy hok' hrow
        cases hq : opEq x y with
        | false =>
          have hq' : Aside (opEq x y = false) := hq
          simp only [opEq] at hq
          go_wp2_with fail
          go_quiet (fail)
          go_wp2_with fail
          go_ret
          refine ⟨retB ?_, bl_drewN BW.out _⟩
          have hne : xs ≠ ys := by
            rintro rfl
            rw [hx'.out] at hy'
            have : x = y := Option.some.inj hy'.out
            rw [(opEq_iff x y).2 this] at hq'
            exact absurd hq'.out (by simp)
          simp [hne]
        | true =>
          have hq' : Aside (opEq x y = true) := hq
          simp only [opEq] at hq
          go_wp2_with fail
          go_quiet (fail)
          go_wp2_with fail
          go_roundg (n - (kk + 1))
          case measure => omega
          case rel =>
            refine ⟨kk + 1, by omega, by omega, by go_num, bl_drewN BW.out _, (show Aside _ from fun j hj => ?_)⟩
            by_cases e : j = kk
            · subst e
              rw [hx'.out, hy'.out, (opEq_iff x y).1 hq'.out]
            · exact AA.out j (by omega)
      · have hltz : ¬ (kk : Int) < (n : Int) := by omega
        have : kk = n := by omega
        subst this
        go_wp2
        go_ret
        refine ⟨retB ?_, BW.out⟩
        have he : xs = ys := List.ext_getElem? fun j => by
          by_cases hj : j < xs.length
          · exact AA.out j (by omega)
          · rw [List.getElem?_eq_none (by omega), List.getElem?_eq_none (by omega)]
        simp [he]
  · have hnz : ((n : Int) == (m : Int)) = false := by
      rw [beq_eq_false_iff_ne]
      omega
    have hne : xs ≠ ys := by
      rintro rfl
      omega
    clear hl hr
    go_enter Tryz.func75, Tryz.ntmps75
    go_wp2
    go_ret
    exact ⟨by simp [hne], Below.refl _ _⟩
end Go.Proofs.YtccblleobcidfaaGreat.Ops
end
/- Appends of one, two, three onto one's own row. -/
section
namespace Go.Proofs.YtccblleobcidfaaGreat.Gr
open Go.RowKit Go.Proofs.YtccblleobcidfaaGreat.Kt
set_option linter.unusedVariables false
set_option linter.unusedSimpArgs false
/-- the same, of elements of sz cells. -/
theorem row_stepz {w wr w3 : World} {T : TypeId} {ao : Option Addr} {k cv m sz : Nat} {v' : Value} {xs ys : List Value} {o : Obj} (hm : 0 < m) (h : wr.ownsRow w.heap.size T sz (.slice ao k cv) k xs) (h' : w3.ownsRow w.heap.size T sz v' (k + m) (xs ++ ys))
    (hg : (wr.alloc o).grownBy w3 (Value.slice ao k cv).ownBlock) (HB : Below w.heap.size w wr) : (∃ (g : Nat) (cv' : Nat), v' = .slice (some ⟨g, 0, none⟩) (k + m) cv' ∧ k + m ≤ cv') ∧ Below w.heap.size w w3 := by
  refine ⟨?_, (HB.alloc HB.size o).grown hg (by have := HB.size; simp; omega) (fun q hq => (h.lt q hq).1)⟩
  rcases h'.2 with ⟨_, h0⟩ | ⟨g3, cap3, _, h0, _, _, hc, _⟩
  · omega
  · exact ⟨_, _, h0, hc⟩
theorem cells_new (w : World) (cs : Array Value) (t : TypeId) : ∀ j u, cs.toList[j]? = some u → (w.alloc (.cells cs t)).cell? ((⟨w.heap.size, 0, none⟩ : Addr).add j) = some u := by
  intro j u hj
  have hB := Blk.new w cs t
  rw [add_plain, hB.cell j]
  simpa using hj
theorem cells_new1 (w : World) (o : Obj) (cs : Array Value) (t : TypeId) : ∀ j u, cs.toList[j]? = some u → ((w.alloc o).alloc (.cells cs t)).cell? ((⟨w.heap.size + 1, 0, none⟩ : Addr).add j) = some u := by
  have h := cells_new (w.alloc o) cs t
  rwa [show (w.alloc o).heap.size = w.heap.size + 1 by simp] at h
theorem own_below {w w' : World} {base : Nat} {e : TypeId} {size n : Nat} {v : Value} {xs : List Value} (h : w.ownsRow base e size v n xs) (hb : Below w.heap.size w w') : w'.ownsRow base e size v n xs :=
  h.kept (row := none) ⟨hb.os, hb.tape, hb.output, hb.size, fun k hk _ => hb.block k hk⟩ (by cases v.ownBlock <;> simp)
end Go.Proofs.YtccblleobcidfaaGreat.Gr
end
/- Layer 8: rows of steps spoilt. -/
section
namespace Go.Proofs.YtccblleobcidfaaGreat.Pl
open Go.RowKit Go.Proofs.YtccblleobcidfaaGreat.Kt Go.Proofs.YtccblleobcidfaaGreat.Lw Go.Proofs.YtccblleobcidfaaGreat.St Go.Proofs.YtccblleobcidfaaGreat.Nm Go.Proofs.YtccblleobcidfaaGreat.Sl Go.Proofs.YtccblleobcidfaaGreat.Gr Go.Proofs.YtccblleobcidfaaGreat.Ops
set_option linter.unusedVariables false
set_option linter.unusedSimpArgs false
theorem flat_at : ∀ {xs : List OpV} {j : Nat}, j < xs.length → ∃ a, (xs.flatMap encOp)[j * 3 + 1]? = some (.int .i64 a)
  | x :: xs, 0, h => ⟨x.2.1, by simp [encOp]⟩
  | x :: xs, j + 1, h => by
    obtain ⟨a, ha⟩ := flat_at (xs := xs) (j := j) (by simpa using h)
    refine ⟨a, ?_⟩
    rw [List.flatMap_cons, List.getElem?_append_right (by simp [encOp]; omega)]
    rw [← ha]
    congr 1
    simp [encOp]
    omega
end Go.Proofs.YtccblleobcidfaaGreat.Pl
end
/- Plain facts: the bits of an int under a mask are its remainder; what wraps stays, if it fits. -/
section
namespace Go.Proofs.YtccblleobcidfaaGreat.Bt
open Go

end Go.Proofs.YtccblleobcidfaaGreat.Bt
end
/- Bytes of a string, one of them turned, and back. -/
section
namespace Go.Proofs.YtccblleobcidfaaGreat.By
open Go.RowKit Go.Proofs.YtccblleobcidfaaGreat.Kt Go.Proofs.YtccblleobcidfaaGreat.Lw Go.Proofs.YtccblleobcidfaaGreat.St
set_option linter.unusedVariables false
set_option linter.unusedSimpArgs false

/-- bytes of a string: what stands where, and back. -/
theorem run_bytes (w : World) (s : ByteArray) :
    (convert 9 59 (.string s)).run Tryz.prog w = .ok (.slice (some ⟨w.heap.size, 0, none⟩) s.size (grownCap w s.size 0 5))
      (w.drew.alloc (.cells (bytesRow s (grownCap w s.size 0 5)) 5 ((bytesRow s (grownCap w s.size 0 5)).size, (bytesRow s (grownCap w s.size 0 5)).size + 1))) :=
  run_bytes_of_string w _ _ 5 s Tryz.underlying9 Tryz.underlying59 Tryz.underlying5
theorem bytes_cell (w : World) (s : ByteArray) (cap j : Nat) (fr : Nat × Nat) (hj : j < s.size) :
    (w.alloc (.cells (bytesRow s cap) 5 fr)).cell? ⟨w.heap.size, j, none⟩ = some (.int .u8 (byt s j)) := by
  rw [World.cell?_alloc_mark, bytesRow_at s cap j (by simpa using hj)]
  congr 2
  rw [← byt_at s j hj]; rfl
theorem bytesRow_size (s : ByteArray) (cap : Nat) : s.size ≤ (bytesRow s cap).size := by
  simp [bytesRow]
theorem bytes_frozen (w : World) (s : ByteArray) (cap j : Nat) (hj : j < s.size) :
    (w.alloc (.cells (bytesRow s cap) 5 ((bytesRow s cap).size, (bytesRow s cap).size + 1))).frozen? ⟨w.heap.size, j, none⟩ = false := by
  rw [World.frozen?_alloc_mark]
  have := bytesRow_size s cap
  simp; omega
theorem run_back (w : World) (g cap : Nat) (s : ByteArray) (n : Nat) (hn : n = s.size) (hc : ∀ j, j < s.size → w.cell? ⟨g, j, none⟩ = some (.int .u8 (byt s j))) :
    (convert 59 9 (.slice (some ⟨g, 0, none⟩) n cap)).run Tryz.prog w = .ok (.string s) w := by
  subst hn
  have h := run_convert_bytes_back (P := Tryz.prog) w 59 9 5 ⟨g, 0, none⟩ cap s.data.toList Tryz.underlying59 Tryz.underlying5 Tryz.underlying9 (by
    intro j hj
    have hj' : j < s.size := by simpa using hj
    have := hc j hj'
    rw [add_plain, this, ← byt_at s j hj']
    rfl)
  simpa using h
end Go.Proofs.YtccblleobcidfaaGreat.By
end
/- Regions that draw their order: the worlds behind calls that leave all elder memory alone are one class; a region of loads, arithmetic and such calls is walked once; so is one with a tail behind it that writes. -/
section
namespace Go.Proofs.YtccblleobcidfaaGreat.Kt
open Go.RowKit
set_option linter.unusedVariables false
set_option linter.unusedSimpArgs false

/-- a world behind w in which all that w had is as it was. -/
def Wld (w : World) : Type := { w' : World // Below w.heap.size w w' }
def Wld.val {w : World} (s : Wld w) : World := Subtype.val s
instance wldHas (w : World) : Nonempty (Wld w) := ⟨⟨w, Below.refl _ _⟩⟩
theorem Wld.bel {w : World} (s : Wld w) : Below w.heap.size w s.val := Subtype.property s
theorem Wld.elim {w : World} {Q : World → Prop} (h : ∀ w', Below w.heap.size w w' → Q w') : ∀ s : Wld w, Q s.val := fun s => h _ s.bel
theorem Wld.call {P : Program} {f : FuncId} {args : Array Value} {v : Value} {w : World} {s : Wld w} (h : Calls P f args s.val fun e w' => e = .returned v ∧ Below s.val.heap.size s.val w') :
    Calls P f args s.val fun e w'' => e = .returned v ∧ ∃ s' : Wld w, w'' = s'.val :=
  h.mono fun _ w' ⟨he, hb⟩ => ⟨he, ⟨w', bl_step s.bel hb⟩, rfl⟩
theorem Wld.same {P : Program} {f : FuncId} {args : Array Value} {v : Value} {w : World} {s : Wld w} (h : Calls P f args s.val fun e w' => e = .returned v ∧ s.val = w') :
    Calls P f args s.val fun e w'' => e = .returned v ∧ ∃ s' : Wld w, w'' = s'.val :=
  h.mono fun _ w' ⟨he, hb⟩ => ⟨he, s, hb.symm⟩
theorem Wld.cell {w : World} {g i : Nat} {v : Value} (h : w.cell? ⟨g, i, none⟩ = some v) (s : Wld w) : s.val.cell? ⟨g, i, none⟩ = some v := (cb s.bel h)

section
variable {P : Program} {ops : Array Oper} {md : Region.Mode} {C : World → Prop}
/-- the head, in any order; L is what holds when it is done. -/
def hdW (P : Program) (md : Region.Mode) (ops : Array Oper) (C : World → Prop) (n : Nat) (L : Array Bool → Act → Prop) : Nat → Array Bool → Act → Prop
  | 0, l, a => L l a
  | f + 1, l, a => Region.ready md ops l ≠ [] ∧ ∀ i ∈ Region.ready md ops l, i < n ∧ qOp P ops C i (hdW P md ops C n L f (l.setIfInBounds i true)) a
theorem any_of_hd {n g : Nat} {L : Array Bool → Act → Prop} {Q : Exit → Act → World → Prop} (hL : ∀ l a w, C w → L l a → wpAny P md ops Q g l a w) :
    ∀ (f : Nat) (l : Array Bool) (a : Act) (w : World), C w → hdW P md ops C n L f l a → wpAny P md ops Q (f + g) l a w := by
  intro f
  induction f with
  | zero =>
    intro l a w hw h
    rw [Nat.zero_add]
    exact hL l a w hw h
  | succ f ih =>
    intro l a w hw h
    rw [Nat.add_right_comm]
    refine ⟨fun h0 => absurd h0 h.1, fun i hi => ?_⟩
    exact wpOp_of_qOp hw (fun a' w' hw' h' => ih _ a' w' hw' h') (h.2 i hi).2
theorem hd_first {n i : Nat} {oi : Oper} {v : Value} {L : Array Bool → Act → Prop} (hi : ops[i]? = some oi) (hno : Region.noSelect ops = true)
    (hs : Region.sinkB md ops n = true) (hc : Region.chainB md ops n = true) (hn : n < ops.size) (hin : i < n) (hdone : ∀ l a, L l a → ∀ j ∈ Region.ready md ops l, n ≤ j) :
    ∀ (f : Nat) (l : Array Bool) (a : Act), HeadInv md ops n l →
      (∀ j oj, ops[j]? = some oj → j ≠ i → l.getD j true = false → (∀ e ∈ oj.after, Region.binds md e = true → e.on ≠ i) → oi.apart ops oj = true) →
      i ∈ Region.ready md ops l → YieldsIn P ops C oi v a → hdW P md ops C n L f (l.setIfInBounds i true) (a.put oi.dst v) → hdW P md ops C n L (f + 1) l a := by
  intro f
  induction f with
  | zero =>
    intro l a inv _ hr hy H
    have hun := (mem_ready.1 hr).1
    refine ⟨List.ne_nil_of_mem hr, fun j hj => ?_⟩
    have hjn : j < n := Nat.lt_of_not_le fun h => tail_waits hs hc hn inv _ i rfl hin hun j h hj
    refine ⟨hjn, ?_⟩
    rcases Nat.decEq j i with hji | hji
    · exact absurd (hdone _ _ H j (ready_mono hj hji)) (by omega)
    · subst hji
      exact hy.qOp hi H
  | succ f ih =>
    intro l a inv hfree hr hy H
    have hun := (mem_ready.1 hr).1
    refine ⟨List.ne_nil_of_mem hr, fun j hj => ?_⟩
    have hjn : j < n := Nat.lt_of_not_le fun h => tail_waits hs hc hn inv _ i rfl hin hun j h hj
    refine ⟨hjn, ?_⟩
    rcases Nat.decEq j i with hji | hji
    · obtain ⟨hju, oj, hoj, hall⟩ := mem_ready.1 hj
      have hnot : ∀ e ∈ oj.after, Region.binds md e = true → e.on ≠ i := by
        rintro e he hb rfl
        have := hall e he hb
        rw [getD_both hun] at this
        cases this
      have hap := hfree j oj hoj hji hju hnot
      have hq := qOp_put hoj hap (fun cs b => Region.noSelect_spec hno i oi cs b hi) (fun cs b => Region.noSelect_spec hno j oj cs b hoj) hy (H.2 j (ready_mono hj hji)).2
      refine qOp_mono (fun a' ha' => ?_) hq
      refine ih _ a' (inv.set hj hjn) (fun k ok hk hki hku hkn => hfree k ok hk hki ?_ hkn) (ready_mono hr (Ne.symm hji)) ha'.1 ?_
      · rcases Nat.decEq j k with hjk | hjk
        · rwa [getD_set_ne true hjk] at hku
        · subst hjk
          exact hju
      · rw [Array.setIfInBounds_comm _ _ hji]
        exact ha'.2
    · subst hji
      exact hy.qOp hi H
theorem hd_lex {n g : Nat} {Lq : Act → Prop} (hno : Region.noSelect ops = true) (hs : Region.sinkB md ops n = true) (hc : Region.chainB md ops n = true) (hn : n < ops.size) :
    ∀ (t : List Oper) (k : Nat) (l : Array Bool) (a : Act), (∀ j, j < t.length → t[j]? = ops[k + j]?) → k + t.length = n → HeadInv md ops n l →
    Region.lexHead md ops g t.length k l = true → wpQuiet P ops C Lq t a → hdW P md ops C n (fun l' a' => Region.seqB md ops g n l' = true ∧ Lq a') t.length l a := by
  intro t
  induction t with
  | nil =>
    intro k l a _ hk _ hB h
    obtain rfl : k = n := hk
    exact ⟨hB, h⟩
  | cons o t ih =>
    intro k l a ht hk inv hB h
    have h0 : ops[k]? = some o := (ht 0 (Nat.zero_lt_succ _)).symm
    simp only [List.length_cons, Region.lexHead, Bool.and_eq_true] at hB
    obtain ⟨⟨hr, hf⟩, hB'⟩ := hB
    rw [List.length_cons] at hk
    have hkn : k < n := by omega
    have hr' : k ∈ Region.ready md ops l := by simpa using hr
    have hq : qOp P ops C k (wpQuiet P ops C Lq t) a := by
      unfold qOp
      rw [h0]
      exact h
    obtain ⟨v, hy, hK⟩ := yieldsIn_of_qOp h0 hq
    refine hd_first h0 hno hs hc hn hkn (fun l' a' hl => seqB_ready hl.1) t.length l a inv (Region.free_spec h0 hf) hr' hy ?_
    refine ih (k + 1) _ _ (fun j hj => ?_) (by omega) (inv.set hr' hkn) hB' hK
    have := ht (j + 1) (Nat.succ_lt_succ hj)
    rw [show k + 1 + j = k + (j + 1) by omega, ← this]
    rfl
end
/-- loads, arithmetic, calls: in any order. -/
theorem wld_lit {P : Program} {id : Nat} {Q : Exit → Act → World → Prop} {a : Act} {w : World} {l : List Oper} (hm : P.follows .mixedOrders = true) (hB : Region.lexB .any l.toArray = true)
    (h : wpQuiet P l.toArray (fun w' => ∃ s : Wld w, w' = s.val) (fun a' => ∀ s : Wld w, Q .normal a' s.val) l a) : (Code.region id l.toArray true).wp P Q a w := by
  refine wp_region_quiet (C := fun w' => ∃ s : Wld w, w' = s.val) hm hB ⟨⟨w.drew, bl_drew (Below.refl _ _)⟩, rfl⟩ ?_
  have e : (fun a' => ∀ w', (∃ s : Wld w, w' = s.val) → Q .normal a' w') = fun a' => ∀ s : Wld w, Q .normal a' s.val := by
    funext a'
    apply propext
    exact ⟨fun h s => h _ ⟨s, rfl⟩, fun h w' ⟨s, hs⟩ => hs ▸ h s⟩
  rw [e]
  simpa using h
/-- the same, and a tail that writes, one after the other. -/
theorem wld_tail {P : Program} {id : Nat} {Q : Exit → Act → World → Prop} {a : Act} {w : World} {l : List Oper} (n : Nat) (hm : P.follows .mixedOrders = true) (hB : Region.lexTailB .any l.toArray n = true)
    (h : wpQuiet P l.toArray (fun w' => ∃ s : Wld w, w' = s.val) (fun a' => ∀ s : Wld w, wpList P l.toArray Q (l.drop n) a' s.val) (l.take n) a) : (Code.region id l.toArray true).wp P Q a w := by
  simp only [Region.lexTailB, Bool.and_eq_true, decide_eq_true_eq] at hB
  obtain ⟨⟨⟨⟨hno, hn⟩, hs⟩, hc⟩, hlex⟩ := hB
  have hz : l.toArray.size = l.length := by simp
  have htl : (l.take n).length = n := by rw [List.length_take]; omega
  have hdl : (l.drop n).length = l.toArray.size - n := by rw [List.length_drop, hz]
  have inv0 : HeadInv .any l.toArray n (Array.replicate l.toArray.size false) :=
    ⟨by simp, fun j oj _ hl => (by rw [getD_replicate_false] at hl; cases hl), fun t _ ht => getD_in (by simpa using ht) (getD_replicate_false _ _)⟩
  have H := hd_lex (md := .any) (g := l.toArray.size - n) hno hs hc hn (l.take n) 0 _ a
    (fun j hj => by rw [htl] at hj; rw [Nat.zero_add, List.getElem?_take_of_lt hj, List.getElem?_toArray]) (by rw [htl, Nat.zero_add]) inv0 (by rw [htl]; exact hlex) h
  refine wp_region_any hm ?_
  have hT : ∀ l' a' w', (∃ s : Wld w, w' = s.val) → (Region.seqB .any l.toArray (l.toArray.size - n) n l' = true ∧ ∀ s : Wld w, wpList P l.toArray Q (l.drop n) a' s.val) → wpAny P .any l.toArray Q (l.toArray.size - n) l' a' w' := by
    rintro l' a' w' ⟨s, rfl⟩ ⟨h1, h2⟩
    have := wpAny_of_seq (md := .any) (l.drop n) n l' a' s.val (fun j => by rw [List.getElem?_drop, List.getElem?_toArray]) (by rw [hdl]; exact h1) (h2 s)
    rwa [hdl] at this
  have := any_of_hd hT _ _ _ { w with drawn := w.drawn + 1 } ⟨⟨w.drew, bl_drew (Below.refl _ _)⟩, rfl⟩ H
  rw [htl, show n + (l.toArray.size - n) = l.toArray.size by omega] at this
  exact this
end Go.Proofs.YtccblleobcidfaaGreat.Kt
end
/- A store into a block that is known whole; worlds that differ from one another in one block and in new ones. -/
section
namespace Go.Proofs.YtccblleobcidfaaGreat.Kt
open Go.RowKit
set_option linter.unusedVariables false
set_option linter.unusedSimpArgs false
theorem blk_put {w : World} {g : Nat} {t : TypeId} {cs : Array Value} (h : Blk w g cs t) (i : Nat) (u : Value) : Blk (w.setCell ⟨g, i, none⟩ u) g (cs.setIfInBounds i u) t := by
  unfold Blk at h ⊢
  simp [World.setCell, Array.getElem?_modify, h]
theorem Blk.off {w : World} {g b i : Nat} {t : TypeId} {cs : Array Value} {u : Value} (hp : g ≠ b) (h : Blk w g cs t) : Blk (w.setCell ⟨b, i, none⟩ u) g cs t := h.far hp u
/-- behind a call: the block of K, as it then stood. -/
theorem Blk.on {w0 w w1 : World} {g : Nat} {cs0 cs : Array Value} {t : TypeId} (K : Blk w0 g cs0 t) (h : Blk w g cs t) (hb : Below w.heap.size w w1) : Blk w1 g cs t := h.below hb
theorem gb_refl (w : World) (g : Nat) : w.grownBy w (some g) := World.grownBy.refl w _
theorem gb_step {w W w2 : World} {r : Option Nat} (h : w.grownBy W r) (k : W.grownBy w2 r) : w.grownBy w2 r :=
  ⟨k.os.trans h.os, k.tape.trans h.tape, k.output.trans h.output, Nat.le_trans h.size k.size, fun b hb hr => (k.block b (Nat.lt_of_lt_of_le hb h.size) hr).trans (h.block b hb hr)⟩
theorem gb_bel {w W w2 : World} {r : Option Nat} (h : w.grownBy W r) (k : Below W.heap.size W w2) : w.grownBy w2 r :=
  gb_step h ⟨k.os, k.tape, k.output, k.size, fun b hb _ => k.block b hb⟩
theorem gb_alloc {w W : World} {r : Option Nat} (h : w.grownBy W r) (o : Obj) : w.grownBy (W.alloc o) r := gb_step h (World.grownBy_alloc W o r)
theorem gb_drew {w W : World} {r : Option Nat} (h : w.grownBy W r) : w.grownBy W.drew r := ⟨h.os, h.tape, h.output, h.size, h.block⟩
theorem gb_set {w W : World} {g j : Nat} {v : Value} (h : w.grownBy W (some g)) : w.grownBy (W.setCell ⟨g, j, none⟩ v) (some g) :=
  gb_step h ⟨rfl, rfl, rfl, by simp [World.setCell], fun b _ hr => Below.heap_setCell _ _ _ _ (fun e => hr (by rw [e]))⟩
/-- what turned in a block of the call's own alone is nothing to elder memory. -/
theorem bl_gb {w W w2 : World} {g : Nat} (h : Below w.heap.size w W) (k : W.grownBy w2 (some g)) (hg : w.heap.size ≤ g) : Below w.heap.size w w2 := h.grown k h.size (fun q hq => by cases hq; exact hg)
theorem blk_gb {w w' : World} {b g : Nat} {cs : Array Value} {t : TypeId} (h : Blk w b cs t) (k : w.grownBy w' (some g)) (hg : b ≠ g) : Blk w' b cs t :=
  (k.block b h.lt (fun e => hg (by cases e; rfl))).trans h
theorem Blk.set1_0 {w : World} {g : Nat} {t : TypeId} {v0 : Value} (h : Blk w g #[v0] t) (u : Value) : Blk (w.setCell ⟨g, 0, none⟩ u) g #[u] t := blk_put h 0 u
theorem Blk.set3_0 {w : World} {g : Nat} {t : TypeId} {v0 v1 v2 : Value} (h : Blk w g #[v0, v1, v2] t) (u : Value) : Blk (w.setCell ⟨g, 0, none⟩ u) g #[u, v1, v2] t := blk_put h 0 u
theorem Blk.set3_1 {w : World} {g : Nat} {t : TypeId} {v0 v1 v2 : Value} (h : Blk w g #[v0, v1, v2] t) (u : Value) : Blk (w.setCell ⟨g, 1, none⟩ u) g #[v0, u, v2] t := blk_put h 1 u
theorem Blk.set3_2 {w : World} {g : Nat} {t : TypeId} {v0 v1 v2 : Value} (h : Blk w g #[v0, v1, v2] t) (u : Value) : Blk (w.setCell ⟨g, 2, none⟩ u) g #[v0, v1, u] t := blk_put h 2 u
theorem Blk.set4_0 {w : World} {g : Nat} {t : TypeId} {v0 v1 v2 v3 : Value} (h : Blk w g #[v0, v1, v2, v3] t) (u : Value) : Blk (w.setCell ⟨g, 0, none⟩ u) g #[u, v1, v2, v3] t := blk_put h 0 u
theorem Blk.set4_1 {w : World} {g : Nat} {t : TypeId} {v0 v1 v2 v3 : Value} (h : Blk w g #[v0, v1, v2, v3] t) (u : Value) : Blk (w.setCell ⟨g, 1, none⟩ u) g #[v0, u, v2, v3] t := blk_put h 1 u
theorem Blk.set4_2 {w : World} {g : Nat} {t : TypeId} {v0 v1 v2 v3 : Value} (h : Blk w g #[v0, v1, v2, v3] t) (u : Value) : Blk (w.setCell ⟨g, 2, none⟩ u) g #[v0, v1, u, v3] t := blk_put h 2 u
theorem Blk.set4_3 {w : World} {g : Nat} {t : TypeId} {v0 v1 v2 v3 : Value} (h : Blk w g #[v0, v1, v2, v3] t) (u : Value) : Blk (w.setCell ⟨g, 3, none⟩ u) g #[v0, v1, v2, u] t := blk_put h 3 u
theorem Blk.set5_0 {w : World} {g : Nat} {t : TypeId} {v0 v1 v2 v3 v4 : Value} (h : Blk w g #[v0, v1, v2, v3, v4] t) (u : Value) : Blk (w.setCell ⟨g, 0, none⟩ u) g #[u, v1, v2, v3, v4] t := blk_put h 0 u
theorem Blk.set5_1 {w : World} {g : Nat} {t : TypeId} {v0 v1 v2 v3 v4 : Value} (h : Blk w g #[v0, v1, v2, v3, v4] t) (u : Value) : Blk (w.setCell ⟨g, 1, none⟩ u) g #[v0, u, v2, v3, v4] t := blk_put h 1 u
theorem Blk.set5_2 {w : World} {g : Nat} {t : TypeId} {v0 v1 v2 v3 v4 : Value} (h : Blk w g #[v0, v1, v2, v3, v4] t) (u : Value) : Blk (w.setCell ⟨g, 2, none⟩ u) g #[v0, v1, u, v3, v4] t := blk_put h 2 u
theorem Blk.set5_3 {w : World} {g : Nat} {t : TypeId} {v0 v1 v2 v3 v4 : Value} (h : Blk w g #[v0, v1, v2, v3, v4] t) (u : Value) : Blk (w.setCell ⟨g, 3, none⟩ u) g #[v0, v1, v2, u, v4] t := blk_put h 3 u
theorem Blk.set5_4 {w : World} {g : Nat} {t : TypeId} {v0 v1 v2 v3 v4 : Value} (h : Blk w g #[v0, v1, v2, v3, v4] t) (u : Value) : Blk (w.setCell ⟨g, 4, none⟩ u) g #[v0, v1, v2, v3, u] t := blk_put h 4 u
theorem Blk.set6_0 {w : World} {g : Nat} {t : TypeId} {v0 v1 v2 v3 v4 v5 : Value} (h : Blk w g #[v0, v1, v2, v3, v4, v5] t) (u : Value) : Blk (w.setCell ⟨g, 0, none⟩ u) g #[u, v1, v2, v3, v4, v5] t := blk_put h 0 u
theorem Blk.set6_1 {w : World} {g : Nat} {t : TypeId} {v0 v1 v2 v3 v4 v5 : Value} (h : Blk w g #[v0, v1, v2, v3, v4, v5] t) (u : Value) : Blk (w.setCell ⟨g, 1, none⟩ u) g #[v0, u, v2, v3, v4, v5] t := blk_put h 1 u
theorem Blk.set6_2 {w : World} {g : Nat} {t : TypeId} {v0 v1 v2 v3 v4 v5 : Value} (h : Blk w g #[v0, v1, v2, v3, v4, v5] t) (u : Value) : Blk (w.setCell ⟨g, 2, none⟩ u) g #[v0, v1, u, v3, v4, v5] t := blk_put h 2 u
theorem Blk.set6_3 {w : World} {g : Nat} {t : TypeId} {v0 v1 v2 v3 v4 v5 : Value} (h : Blk w g #[v0, v1, v2, v3, v4, v5] t) (u : Value) : Blk (w.setCell ⟨g, 3, none⟩ u) g #[v0, v1, v2, u, v4, v5] t := blk_put h 3 u
theorem Blk.set6_4 {w : World} {g : Nat} {t : TypeId} {v0 v1 v2 v3 v4 v5 : Value} (h : Blk w g #[v0, v1, v2, v3, v4, v5] t) (u : Value) : Blk (w.setCell ⟨g, 4, none⟩ u) g #[v0, v1, v2, v3, u, v5] t := blk_put h 4 u
theorem Blk.set6_5 {w : World} {g : Nat} {t : TypeId} {v0 v1 v2 v3 v4 v5 : Value} (h : Blk w g #[v0, v1, v2, v3, v4, v5] t) (u : Value) : Blk (w.setCell ⟨g, 5, none⟩ u) g #[v0, v1, v2, v3, v4, u] t := blk_put h 5 u
theorem Blk.set7_0 {w : World} {g : Nat} {t : TypeId} {v0 v1 v2 v3 v4 v5 v6 : Value} (h : Blk w g #[v0, v1, v2, v3, v4, v5, v6] t) (u : Value) : Blk (w.setCell ⟨g, 0, none⟩ u) g #[u, v1, v2, v3, v4, v5, v6] t := blk_put h 0 u
theorem Blk.set7_1 {w : World} {g : Nat} {t : TypeId} {v0 v1 v2 v3 v4 v5 v6 : Value} (h : Blk w g #[v0, v1, v2, v3, v4, v5, v6] t) (u : Value) : Blk (w.setCell ⟨g, 1, none⟩ u) g #[v0, u, v2, v3, v4, v5, v6] t := blk_put h 1 u
theorem Blk.set7_2 {w : World} {g : Nat} {t : TypeId} {v0 v1 v2 v3 v4 v5 v6 : Value} (h : Blk w g #[v0, v1, v2, v3, v4, v5, v6] t) (u : Value) : Blk (w.setCell ⟨g, 2, none⟩ u) g #[v0, v1, u, v3, v4, v5, v6] t := blk_put h 2 u
theorem Blk.set7_3 {w : World} {g : Nat} {t : TypeId} {v0 v1 v2 v3 v4 v5 v6 : Value} (h : Blk w g #[v0, v1, v2, v3, v4, v5, v6] t) (u : Value) : Blk (w.setCell ⟨g, 3, none⟩ u) g #[v0, v1, v2, u, v4, v5, v6] t := blk_put h 3 u
theorem Blk.set7_4 {w : World} {g : Nat} {t : TypeId} {v0 v1 v2 v3 v4 v5 v6 : Value} (h : Blk w g #[v0, v1, v2, v3, v4, v5, v6] t) (u : Value) : Blk (w.setCell ⟨g, 4, none⟩ u) g #[v0, v1, v2, v3, u, v5, v6] t := blk_put h 4 u
theorem Blk.set7_5 {w : World} {g : Nat} {t : TypeId} {v0 v1 v2 v3 v4 v5 v6 : Value} (h : Blk w g #[v0, v1, v2, v3, v4, v5, v6] t) (u : Value) : Blk (w.setCell ⟨g, 5, none⟩ u) g #[v0, v1, v2, v3, v4, u, v6] t := blk_put h 5 u
theorem Blk.set7_6 {w : World} {g : Nat} {t : TypeId} {v0 v1 v2 v3 v4 v5 v6 : Value} (h : Blk w g #[v0, v1, v2, v3, v4, v5, v6] t) (u : Value) : Blk (w.setCell ⟨g, 6, none⟩ u) g #[v0, v1, v2, v3, v4, v5, u] t := blk_put h 6 u
end Go.Proofs.YtccblleobcidfaaGreat.Kt
end
/- A store into a larger block that is known whole (printed by gen_blx.py). -/
section
namespace Go.Proofs.YtccblleobcidfaaGreat.Kt
open Go.RowKit
set_option linter.unusedVariables false
set_option linter.unusedSimpArgs false
/-- a block's cells in one rule: the walk reckons cs[i]? by itself (shorter and faster than a fact a cell). -/
theorem Blk.ev {w : World} {g : Nat} {cs : Array Value} {t : TypeId} (h : Blk w g cs t) : (∀ i, w.cell? ⟨g, i, none⟩ = cs[i]?) ∧ (∀ i, w.frozen? ⟨g, i, none⟩ = false) ∧ g < w.heap.size ∧ g ≠ w.heap.size ∧ w.heap.size ≠ g := by
  refine ⟨fun i => ?_, h.frozen, h.lt, Nat.ne_of_lt h.lt, (Nat.ne_of_lt h.lt).symm⟩
  have h' := h
  unfold Blk at h'
  simp [World.cell?, h']
theorem Blk.all11 {w : World} {g : Nat} {t : TypeId} {v0 v1 v2 v3 v4 v5 v6 v7 v8 v9 v10 : Value} (h : Blk w g #[v0, v1, v2, v3, v4, v5, v6, v7, v8, v9, v10] t) : w.cell? ⟨g, 0, none⟩ = some v0 ∧ w.cell? ⟨g, 1, none⟩ = some v1 ∧ w.cell? ⟨g, 2, none⟩ = some v2 ∧ w.cell? ⟨g, 3, none⟩ = some v3 ∧ w.cell? ⟨g, 4, none⟩ = some v4 ∧ w.cell? ⟨g, 5, none⟩ = some v5 ∧ w.cell? ⟨g, 6, none⟩ = some v6 ∧ w.cell? ⟨g, 7, none⟩ = some v7 ∧ w.cell? ⟨g, 8, none⟩ = some v8 ∧ w.cell? ⟨g, 9, none⟩ = some v9 ∧ w.cell? ⟨g, 10, none⟩ = some v10 ∧ (∀ i, w.frozen? ⟨g, i, none⟩ = false) ∧ g < w.heap.size ∧ g ≠ w.heap.size ∧ w.heap.size ≠ g := ⟨h.cell 0, h.cell 1, h.cell 2, h.cell 3, h.cell 4, h.cell 5, h.cell 6, h.cell 7, h.cell 8, h.cell 9, h.cell 10, h.frozen, h.lt, Nat.ne_of_lt h.lt, (Nat.ne_of_lt h.lt).symm⟩
theorem Blk.set11_0 {w : World} {g : Nat} {t : TypeId} {v0 v1 v2 v3 v4 v5 v6 v7 v8 v9 v10 : Value} (h : Blk w g #[v0, v1, v2, v3, v4, v5, v6, v7, v8, v9, v10] t) (u : Value) : Blk (w.setCell ⟨g, 0, none⟩ u) g #[u, v1, v2, v3, v4, v5, v6, v7, v8, v9, v10] t := blk_put h 0 u
theorem Blk.set11_1 {w : World} {g : Nat} {t : TypeId} {v0 v1 v2 v3 v4 v5 v6 v7 v8 v9 v10 : Value} (h : Blk w g #[v0, v1, v2, v3, v4, v5, v6, v7, v8, v9, v10] t) (u : Value) : Blk (w.setCell ⟨g, 1, none⟩ u) g #[v0, u, v2, v3, v4, v5, v6, v7, v8, v9, v10] t := blk_put h 1 u
theorem Blk.set11_2 {w : World} {g : Nat} {t : TypeId} {v0 v1 v2 v3 v4 v5 v6 v7 v8 v9 v10 : Value} (h : Blk w g #[v0, v1, v2, v3, v4, v5, v6, v7, v8, v9, v10] t) (u : Value) : Blk (w.setCell ⟨g, 2, none⟩ u) g #[v0, v1, u, v3, v4, v5, v6, v7, v8, v9, v10] t := blk_put h 2 u
theorem Blk.set11_3 {w : World} {g : Nat} {t : TypeId} {v0 v1 v2 v3 v4 v5 v6 v7 v8 v9 v10 : Value} (h : Blk w g #[v0, v1, v2, v3, v4, v5, v6, v7, v8, v9, v10] t) (u : Value) : Blk (w.setCell ⟨g, 3, none⟩ u) g #[v0, v1, v2, u, v4, v5, v6, v7, v8, v9, v10] t := blk_put h 3 u
theorem Blk.set11_4 {w : World} {g : Nat} {t : TypeId} {v0 v1 v2 v3 v4 v5 v6 v7 v8 v9 v10 : Value} (h : Blk w g #[v0, v1, v2, v3, v4, v5, v6, v7, v8, v9, v10] t) (u : Value) : Blk (w.setCell ⟨g, 4, none⟩ u) g #[v0, v1, v2, v3, u, v5, v6, v7, v8, v9, v10] t := blk_put h 4 u
theorem Blk.set11_5 {w : World} {g : Nat} {t : TypeId} {v0 v1 v2 v3 v4 v5 v6 v7 v8 v9 v10 : Value} (h : Blk w g #[v0, v1, v2, v3, v4, v5, v6, v7, v8, v9, v10] t) (u : Value) : Blk (w.setCell ⟨g, 5, none⟩ u) g #[v0, v1, v2, v3, v4, u, v6, v7, v8, v9, v10] t := blk_put h 5 u
theorem Blk.set11_6 {w : World} {g : Nat} {t : TypeId} {v0 v1 v2 v3 v4 v5 v6 v7 v8 v9 v10 : Value} (h : Blk w g #[v0, v1, v2, v3, v4, v5, v6, v7, v8, v9, v10] t) (u : Value) : Blk (w.setCell ⟨g, 6, none⟩ u) g #[v0, v1, v2, v3, v4, v5, u, v7, v8, v9, v10] t := blk_put h 6 u
theorem Blk.set11_7 {w : World} {g : Nat} {t : TypeId} {v0 v1 v2 v3 v4 v5 v6 v7 v8 v9 v10 : Value} (h : Blk w g #[v0, v1, v2, v3, v4, v5, v6, v7, v8, v9, v10] t) (u : Value) : Blk (w.setCell ⟨g, 7, none⟩ u) g #[v0, v1, v2, v3, v4, v5, v6, u, v8, v9, v10] t := blk_put h 7 u
theorem Blk.set11_8 {w : World} {g : Nat} {t : TypeId} {v0 v1 v2 v3 v4 v5 v6 v7 v8 v9 v10 : Value} (h : Blk w g #[v0, v1, v2, v3, v4, v5, v6, v7, v8, v9, v10] t) (u : Value) : Blk (w.setCell ⟨g, 8, none⟩ u) g #[v0, v1, v2, v3, v4, v5, v6, v7, u, v9, v10] t := blk_put h 8 u
theorem Blk.set11_9 {w : World} {g : Nat} {t : TypeId} {v0 v1 v2 v3 v4 v5 v6 v7 v8 v9 v10 : Value} (h : Blk w g #[v0, v1, v2, v3, v4, v5, v6, v7, v8, v9, v10] t) (u : Value) : Blk (w.setCell ⟨g, 9, none⟩ u) g #[v0, v1, v2, v3, v4, v5, v6, v7, v8, u, v10] t := blk_put h 9 u
theorem Blk.set11_10 {w : World} {g : Nat} {t : TypeId} {v0 v1 v2 v3 v4 v5 v6 v7 v8 v9 v10 : Value} (h : Blk w g #[v0, v1, v2, v3, v4, v5, v6, v7, v8, v9, v10] t) (u : Value) : Blk (w.setCell ⟨g, 10, none⟩ u) g #[v0, v1, v2, v3, v4, v5, v6, v7, v8, v9, u] t := blk_put h 10 u
theorem Blk.set17_0 {w : World} {g : Nat} {t : TypeId} {v0 v1 v2 v3 v4 v5 v6 v7 v8 v9 v10 v11 v12 v13 v14 v15 v16 : Value} (h : Blk w g #[v0, v1, v2, v3, v4, v5, v6, v7, v8, v9, v10, v11, v12, v13, v14, v15, v16] t) (u : Value) : Blk (w.setCell ⟨g, 0, none⟩ u) g #[u, v1, v2, v3, v4, v5, v6, v7, v8, v9, v10, v11, v12, v13, v14, v15, v16] t := blk_put h 0 u
theorem Blk.set17_1 {w : World} {g : Nat} {t : TypeId} {v0 v1 v2 v3 v4 v5 v6 v7 v8 v9 v10 v11 v12 v13 v14 v15 v16 : Value} (h : Blk w g #[v0, v1, v2, v3, v4, v5, v6, v7, v8, v9, v10, v11, v12, v13, v14, v15, v16] t) (u : Value) : Blk (w.setCell ⟨g, 1, none⟩ u) g #[v0, u, v2, v3, v4, v5, v6, v7, v8, v9, v10, v11, v12, v13, v14, v15, v16] t := blk_put h 1 u
theorem Blk.set17_2 {w : World} {g : Nat} {t : TypeId} {v0 v1 v2 v3 v4 v5 v6 v7 v8 v9 v10 v11 v12 v13 v14 v15 v16 : Value} (h : Blk w g #[v0, v1, v2, v3, v4, v5, v6, v7, v8, v9, v10, v11, v12, v13, v14, v15, v16] t) (u : Value) : Blk (w.setCell ⟨g, 2, none⟩ u) g #[v0, v1, u, v3, v4, v5, v6, v7, v8, v9, v10, v11, v12, v13, v14, v15, v16] t := blk_put h 2 u
theorem Blk.set17_3 {w : World} {g : Nat} {t : TypeId} {v0 v1 v2 v3 v4 v5 v6 v7 v8 v9 v10 v11 v12 v13 v14 v15 v16 : Value} (h : Blk w g #[v0, v1, v2, v3, v4, v5, v6, v7, v8, v9, v10, v11, v12, v13, v14, v15, v16] t) (u : Value) : Blk (w.setCell ⟨g, 3, none⟩ u) g #[v0, v1, v2, u, v4, v5, v6, v7, v8, v9, v10, v11, v12, v13, v14, v15, v16] t := blk_put h 3 u
theorem Blk.set17_4 {w : World} {g : Nat} {t : TypeId} {v0 v1 v2 v3 v4 v5 v6 v7 v8 v9 v10 v11 v12 v13 v14 v15 v16 : Value} (h : Blk w g #[v0, v1, v2, v3, v4, v5, v6, v7, v8, v9, v10, v11, v12, v13, v14, v15, v16] t) (u : Value) : Blk (w.setCell ⟨g, 4, none⟩ u) g #[v0, v1, v2, v3, u, v5, v6, v7, v8, v9, v10, v11, v12, v13, v14, v15, v16] t := blk_put h 4 u
theorem Blk.set17_5 {w : World} {g : Nat} {t : TypeId} {v0 v1 v2 v3 v4 v5 v6 v7 v8 v9 v10 v11 v12 v13 v14 v15 v16 : Value} (h : Blk w g #[v0, v1, v2, v3, v4, v5, v6, v7, v8, v9, v10, v11, v12, v13, v14, v15, v16] t) (u : Value) : Blk (w.setCell ⟨g, 5, none⟩ u) g #[v0, v1, v2, v3, v4, u, v6, v7, v8, v9, v10, v11, v12, v13, v14, v15, v16] t := blk_put h 5 u
theorem Blk.set17_6 {w : World} {g : Nat} {t : TypeId} {v0 v1 v2 v3 v4 v5 v6 v7 v8 v9 v10 v11 v12 v13 v14 v15 v16 : Value} (h : Blk w g #[v0, v1, v2, v3, v4, v5, v6, v7, v8, v9, v10, v11, v12, v13, v14, v15, v16] t) (u : Value) : Blk (w.setCell ⟨g, 6, none⟩ u) g #[v0, v1, v2, v3, v4, v5, u, v7, v8, v9, v10, v11, v12, v13, v14, v15, v16] t := blk_put h 6 u
theorem Blk.set17_7 {w : World} {g : Nat} {t : TypeId} {v0 v1 v2 v3 v4 v5 v6 v7 v8 v9 v10 v11 v12 v13 v14 v15 v16 : Value} (h : Blk w g #[v0, v1, v2, v3, v4, v5, v6, v7, v8, v9, v10, v11, v12, v13, v14, v15, v16] t) (u : Value) : Blk (w.setCell ⟨g, 7, none⟩ u) g #[v0, v1, v2, v3, v4, v5, v6, u, v8, v9, v10, v11, v12, v13, v14, v15, v16] t := blk_put h 7 u
theorem Blk.set17_8 {w : World} {g : Nat} {t : TypeId} {v0 v1 v2 v3 v4 v5 v6 v7 v8 v9 v10 v11 v12 v13 v14 v15 v16 : Value} (h : Blk w g #[v0, v1, v2, v3, v4, v5, v6, v7, v8, v9, v10, v11, v12, v13, v14, v15, v16] t) (u : Value) : Blk (w.setCell ⟨g, 8, none⟩ u) g #[v0, v1, v2, v3, v4, v5, v6, v7, u, v9, v10, v11, v12, v13, v14, v15, v16] t := blk_put h 8 u
theorem Blk.set17_9 {w : World} {g : Nat} {t : TypeId} {v0 v1 v2 v3 v4 v5 v6 v7 v8 v9 v10 v11 v12 v13 v14 v15 v16 : Value} (h : Blk w g #[v0, v1, v2, v3, v4, v5, v6, v7, v8, v9, v10, v11, v12, v13, v14, v15, v16] t) (u : Value) : Blk (w.setCell ⟨g, 9, none⟩ u) g #[v0, v1, v2, v3, v4, v5, v6, v7, v8, u, v10, v11, v12, v13, v14, v15, v16] t := blk_put h 9 u
theorem Blk.set17_10 {w : World} {g : Nat} {t : TypeId} {v0 v1 v2 v3 v4 v5 v6 v7 v8 v9 v10 v11 v12 v13 v14 v15 v16 : Value} (h : Blk w g #[v0, v1, v2, v3, v4, v5, v6, v7, v8, v9, v10, v11, v12, v13, v14, v15, v16] t) (u : Value) : Blk (w.setCell ⟨g, 10, none⟩ u) g #[v0, v1, v2, v3, v4, v5, v6, v7, v8, v9, u, v11, v12, v13, v14, v15, v16] t := blk_put h 10 u
theorem Blk.set17_11 {w : World} {g : Nat} {t : TypeId} {v0 v1 v2 v3 v4 v5 v6 v7 v8 v9 v10 v11 v12 v13 v14 v15 v16 : Value} (h : Blk w g #[v0, v1, v2, v3, v4, v5, v6, v7, v8, v9, v10, v11, v12, v13, v14, v15, v16] t) (u : Value) : Blk (w.setCell ⟨g, 11, none⟩ u) g #[v0, v1, v2, v3, v4, v5, v6, v7, v8, v9, v10, u, v12, v13, v14, v15, v16] t := blk_put h 11 u
theorem Blk.set17_12 {w : World} {g : Nat} {t : TypeId} {v0 v1 v2 v3 v4 v5 v6 v7 v8 v9 v10 v11 v12 v13 v14 v15 v16 : Value} (h : Blk w g #[v0, v1, v2, v3, v4, v5, v6, v7, v8, v9, v10, v11, v12, v13, v14, v15, v16] t) (u : Value) : Blk (w.setCell ⟨g, 12, none⟩ u) g #[v0, v1, v2, v3, v4, v5, v6, v7, v8, v9, v10, v11, u, v13, v14, v15, v16] t := blk_put h 12 u
theorem Blk.set17_13 {w : World} {g : Nat} {t : TypeId} {v0 v1 v2 v3 v4 v5 v6 v7 v8 v9 v10 v11 v12 v13 v14 v15 v16 : Value} (h : Blk w g #[v0, v1, v2, v3, v4, v5, v6, v7, v8, v9, v10, v11, v12, v13, v14, v15, v16] t) (u : Value) : Blk (w.setCell ⟨g, 13, none⟩ u) g #[v0, v1, v2, v3, v4, v5, v6, v7, v8, v9, v10, v11, v12, u, v14, v15, v16] t := blk_put h 13 u
theorem Blk.set17_14 {w : World} {g : Nat} {t : TypeId} {v0 v1 v2 v3 v4 v5 v6 v7 v8 v9 v10 v11 v12 v13 v14 v15 v16 : Value} (h : Blk w g #[v0, v1, v2, v3, v4, v5, v6, v7, v8, v9, v10, v11, v12, v13, v14, v15, v16] t) (u : Value) : Blk (w.setCell ⟨g, 14, none⟩ u) g #[v0, v1, v2, v3, v4, v5, v6, v7, v8, v9, v10, v11, v12, v13, u, v15, v16] t := blk_put h 14 u
theorem Blk.set17_15 {w : World} {g : Nat} {t : TypeId} {v0 v1 v2 v3 v4 v5 v6 v7 v8 v9 v10 v11 v12 v13 v14 v15 v16 : Value} (h : Blk w g #[v0, v1, v2, v3, v4, v5, v6, v7, v8, v9, v10, v11, v12, v13, v14, v15, v16] t) (u : Value) : Blk (w.setCell ⟨g, 15, none⟩ u) g #[v0, v1, v2, v3, v4, v5, v6, v7, v8, v9, v10, v11, v12, v13, v14, u, v16] t := blk_put h 15 u
theorem Blk.set17_16 {w : World} {g : Nat} {t : TypeId} {v0 v1 v2 v3 v4 v5 v6 v7 v8 v9 v10 v11 v12 v13 v14 v15 v16 : Value} (h : Blk w g #[v0, v1, v2, v3, v4, v5, v6, v7, v8, v9, v10, v11, v12, v13, v14, v15, v16] t) (u : Value) : Blk (w.setCell ⟨g, 16, none⟩ u) g #[v0, v1, v2, v3, v4, v5, v6, v7, v8, v9, v10, v11, v12, v13, v14, v15, u] t := blk_put h 16 u
end Go.Proofs.YtccblleobcidfaaGreat.Kt
end
/- '==' of hosts, as one Bool. -/
section
namespace Go.Proofs.YtccblleobcidfaaGreat.Es
open Go.RowKit
set_option linter.unusedVariables false
set_option linter.unusedSimpArgs false
theorem eqHost (d : Nat) (w : World) (x0 y0 : Int) (x1 y1 : ByteArray) (x2 y2 : Int) (x3 y3 : Bool) (x4 y4 : Int) (x5 y5 : ByteArray) (x6 y6 : Int) : (Op.equalIn (d + 2) 30 (.agg #[.int .i64 x0, .string x1, .int .i64 x2, .bool x3, .int .i64 x4, .string x5, .int .i64 x6]) (.agg #[.int .i64 y0, .string y1, .int .i64 y2, .bool y3, .int .i64 y4, .string y5, .int .i64 y6])).run Tryz.prog w = .ok ((x0 == y0) && ((x1.toList == y1.toList) && ((x2 == y2) && ((x3 == y3) && ((x4 == y4) && ((x5.toList == y5.toList) && (x6 == y6))))))) w :=
  eqA_of Tryz.underlying30 (by kernel_rfl) (eqf_cons (by rfl) (by go_simp; rfl) (by go_simp; rfl) (by go_simp) (eqf_cons (by rfl) (by go_simp; rfl) (by go_simp; rfl) (by go_simp) (eqf_cons (by rfl) (by go_simp; rfl) (by go_simp; rfl) (by go_simp) (eqf_cons (by rfl) (by go_simp; rfl) (by go_simp; rfl) (by go_simp) (eqf_cons (by rfl) (by go_simp; rfl) (by go_simp; rfl) (by go_simp) (eqf_cons (by rfl) (by go_simp; rfl) (by go_simp; rfl) (by go_simp) (eqf_last (by rfl) (by go_simp; rfl) (by go_simp; rfl) (by go_simp))))))))
end Go.Proofs.YtccblleobcidfaaGreat.Es
end

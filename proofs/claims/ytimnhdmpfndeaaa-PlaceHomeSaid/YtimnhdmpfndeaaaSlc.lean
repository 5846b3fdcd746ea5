/- Slices that are read: a row of elements, each of so many cells, that lies in memory; a nil slice is a row of none. -/
import Derived.Test.YtimnhdmpfndeaaaKit
import Derived.Deep.LoopGhost
import Derived.Deep.Draws
import Derived.Maps.AppendAt
import Derived.Shelf.SlicesQ.Load
namespace Go.Proofs.Ytimnhdmpfndeaaa.Sl
open Go.RowKit Go.Proofs.Ytimnhdmpfndeaaa.Kt
set_option linter.unusedVariables false
set_option linter.unusedSimpArgs false
section
variable {α : Type} {enc : α → List Value} {k : Nat} {w w' : World} {A : Option Addr} {xs : List α}
/-- the elements xs lie one behind the other from A on. -/
def Lies (enc : α → List Value) (k : Nat) (w : World) (A : Option Addr) (xs : List α) : Prop :=
  xs = [] ∨ ∃ b off, A = some ⟨b, off, none⟩ ∧ b < w.heap.size ∧ ∀ j x, xs[j]? = some x → ∀ i v, (enc x)[i]? = some v → w.cell? ⟨b, off + j * k + i, none⟩ = some v
theorem Lies.nil : Lies enc k w A [] := .inl rfl
theorem Lies.below (h : Lies enc k w A xs) (hb : Below w.heap.size w w') : Lies enc k w' A xs := by
  rcases h with h | ⟨b, off, rfl, hlt, hc⟩
  · exact .inl h
  · exact .inr ⟨b, off, rfl, Nat.lt_of_lt_of_le hlt hb.size, fun j x hx i v hv => (hb.cell (p := ⟨b, off + j * k + i, none⟩) hlt).trans (hc j x hx i v hv)⟩
theorem Lies.alloc (h : Lies enc k w A xs) (o : Obj) : Lies enc k (w.alloc o) A xs := h.below (bl_alloc (Below.refl _ _) o)
theorem Lies.drew (h : Lies enc k w A xs) : Lies enc k w.drew A xs := h.below (bl_drew (Below.refl _ _))
theorem Lies.drewN (h : Lies enc k w A xs) (n : Nat) : Lies enc k (w.drewN n) A xs := h.below (bl_drewN (Below.refl _ _) n)
theorem Lies.some_ (h : Lies enc k w A xs) (hn : xs ≠ []) : ∃ b off, A = some ⟨b, off, none⟩ ∧ b < w.heap.size ∧ ∀ j x, xs[j]? = some x → ∀ i v, (enc x)[i]? = some v → w.cell? ⟨b, off + j * k + i, none⟩ = some v := by
  rcases h with h | h
  · exact absurd h hn
  · exact h
end
/-! a row of one's own that grows -/
section
variable {α : Type} {enc : α → List Value} {k : Nat} {w w' : World} {A : Option Addr} {xs : List α} {P : Program}
theorem Lies.set (h : Lies enc k w A xs) {p : Addr} (hp : ∀ b off, A = some ⟨b, off, none⟩ → b ≠ p.block) (v : Value) : Lies enc k (w.setCell p v) A xs := by
  rcases h with h | ⟨b, off, rfl, hlt, hc⟩
  · exact .inl h
  · refine .inr ⟨b, off, rfl, by simpa [World.setCell] using hlt, fun j x hx i u hu => ?_⟩
    exact (World.cell?_of_block (a := ⟨b, off + j * k + i, none⟩) (Below.heap_setCell w p v b (hp b off rfl))).trans (hc j x hx i u hu)
theorem flat_at (hk : ∀ x, (enc x).length = k) : ∀ (xs : List α) (j : Nat) (x : α) (i : Nat) (v : Value), xs[j]? = some x → (enc x)[i]? = some v → (xs.flatMap enc)[j * k + i]? = some v := by
  intro xs
  induction xs with
  | nil => intro j x i v h; simp at h
  | cons y ys ih =>
    intro j x i v h hv
    have hi : i < (enc x).length := by
      rcases Nat.lt_or_ge i (enc x).length with h | h
      · exact h
      · rw [List.getElem?_eq_none h] at hv; cases hv
    rw [List.flatMap_cons]
    cases j with
    | zero =>
      simp at h
      subst h
      rw [List.getElem?_append_left (by simpa using hi)]
      simpa using hv
    | succ j =>
      rw [List.getElem?_append_right (by rw [hk, Nat.succ_mul]; omega), hk, show (j + 1) * k + i - k = j * k + i by rw [Nat.succ_mul]; omega]
      exact ih j x i v (by simpa using h) hv
theorem flat_len (hk : ∀ x, (enc x).length = k) (xs : List α) : (xs.flatMap enc).length = xs.length * k := by
  induction xs with
  | nil => simp
  | cons y ys ih => rw [List.flatMap_cons, List.length_append, ih, hk, List.length_cons, Nat.succ_mul]; omega
theorem flat_all {p : Value → Prop} (h : ∀ x, ∀ u ∈ enc x, p u) (xs : List α) : ∀ u ∈ xs.flatMap enc, p u := by
  intro u hu
  obtain ⟨x, _, hx⟩ := List.mem_flatMap.1 hu
  exact h x u hx
theorem lies_own {base : Nat} {e : TypeId} {n c : Nat} (hk : ∀ x, (enc x).length = k) (h : w.ownsRow base e k (.slice A n c) n (xs.flatMap enc)) (hn : xs.length = n) : Lies enc k w A xs := by
  rcases h.2 with ⟨hv, h0⟩ | ⟨g, cap, cur, hv, hb, hg, _⟩
  · left
    exact List.eq_nil_of_length_eq_zero (by omega)
  · right
    injection hv with hA
    subst hA
    refine ⟨g, 0, rfl, ?_, fun j x hx i v hi => ?_⟩
    · rcases Nat.lt_or_ge g w.heap.size with hlt | hge
      · exact hlt
      · rw [Array.getElem?_eq_none hge] at hg; cases hg
    · have := h.cells (g := g) rfl (j * k + i) v (flat_at hk xs j x i v hx hi)
      rwa [add_plain, ← Nat.zero_add (j * k + i), ← Nat.add_assoc] at this
theorem add_off (b off j : Nat) : (⟨b, off, none⟩ : Addr).add j = ⟨b, off + j, none⟩ := by unfold Addr.add; split <;> simp_all
theorem lies_news {b off : Nat} (hk : ∀ x, (enc x).length = k) (hpos : 0 < k) (hc : ∀ j x, xs[j]? = some x → ∀ i v, (enc x)[i]? = some v → w.cell? ⟨b, off + j * k + i, none⟩ = some v) :
    ∀ j u, (xs.flatMap enc)[j]? = some u → w.cell? ((⟨b, off, none⟩ : Addr).add j) = some u := by
  intro j u hu
  have hj : j < xs.length * k := by
    rcases Nat.lt_or_ge j (xs.flatMap enc).length with h | h
    · rwa [flat_len hk] at h
    · rw [List.getElem?_eq_none h] at hu; cases hu
  have hd : j / k < xs.length := Nat.div_lt_of_lt_mul (by rw [Nat.mul_comm]; exact hj)
  have hm : j % k < k := Nat.mod_lt _ hpos
  have e : j = j / k * k + j % k := by rw [Nat.mul_comm]; exact (Nat.div_add_mod j k).symm
  have hx : xs[j / k]? = some xs[j / k] := List.getElem?_eq_getElem hd
  have hv : (enc xs[j / k])[j % k]? = some ((enc xs[j / k])[j % k]'(by rw [hk]; exact hm)) := List.getElem?_eq_getElem _
  have h1 := flat_at hk xs _ _ _ _ hx hv
  rw [← e, hu] at h1
  injection h1 with h1
  have h2 := hc _ _ hx _ _ hv
  rw [← h1, Nat.add_assoc, ← e] at h2
  rw [add_off]
  exact h2
/-- append(v, xs...): v one's own row, xs a row that lies anywhere, none let in. -/
theorem run_grow (w : World) (base : Nat) (t ty e : TypeId) (i : TypeInfo) (z : Value) (bytes : Nat) (ht : P.underlying t = some (.slice e)) (hi : P.info? e = some i) (hz : i.zero = some z)
    (hsize : i.size = k) (hby : i.bytes = bytes) (hzs : z.cells.size = k) (hpos : 0 < k) (hk : ∀ x, (enc x).length = k) (h1 : ∀ x, ∀ u ∈ enc x, u.oneCell' = true)
    (v : Value) (n : Nat) (ys : List α) (hown : w.ownsRow base e k v n (ys.flatMap enc)) (A : Option Addr) (m c : Nat) (xs : List α) (hl : Lies enc k w A xs) (hm : xs.length = m)
    (h63 : n + m ≤ maxLen) (hbytes : (n + m) * bytes ≤ 140737488355328) (hbase : base ≤ w.heap.size) :
    ∃ A' c' w', (Builtin.append_ #[t, t] ty #[v, .slice A m c]).run P w = .ok (.slice A' (n + m) c') w' ∧ w'.ownsRow base e k (.slice A' (n + m) c') (n + m) ((ys ++ xs).flatMap enc) ∧ w.grownBy w' v.ownBlock ∧
      ((Value.slice A' (n + m) c').ownBlock = v.ownBlock ∨ (Value.slice A' (n + m) c').ownBlock = some w.heap.size) := by
  have key : ∃ v' w', (Builtin.append_ #[t, t] ty #[v, .slice A m c]).run P w = .ok v' w' ∧ w'.ownsRow base e k v' (n + m) ((ys ++ xs).flatMap enc) ∧ w.grownBy w' v.ownBlock ∧ (v'.ownBlock = v.ownBlock ∨ v'.ownBlock = some w.heap.size) := by
    have some_ : ∀ b off, (xs = [] ∨ ∀ j x, xs[j]? = some x → ∀ i v, (enc x)[i]? = some v → w.cell? ⟨b, off + j * k + i, none⟩ = some v) → ∃ v' w', (Builtin.append_ #[t, t] ty #[v, .slice (some ⟨b, off, none⟩) m c]).run P w = .ok v' w' ∧ w'.ownsRow base e k v' (n + m) ((ys ++ xs).flatMap enc) ∧ w.grownBy w' v.ownBlock ∧ (v'.ownBlock = v.ownBlock ∨ v'.ownBlock = some w.heap.size) := by
      intro b off hc
      obtain ⟨v', w', a1, a2, a3, _, a5⟩ := run_append_own_at (P := P) w base t ty e i z k bytes ht hi hz hsize hby hzs hpos v n (ys.flatMap enc) hown ⟨b, off, none⟩ m c (xs.flatMap enc) (by rw [flat_len hk, hm])
        (by
          rcases hc with rfl | hc
          · intro j u hu; simp at hu
          · exact lies_news hk hpos hc) (flat_all h1 xs) h63 hbytes hbase
      exact ⟨v', w', a1, by rwa [List.flatMap_append], a3, a5⟩
    rcases A with _ | ⟨b, off, p⟩
    · rcases hl with rfl | ⟨b, off, e', _⟩
      · have h0 : m = 0 := by simpa using hm.symm
        subst h0
        refine ⟨v, w, ?_, by simpa using hown, World.grownBy.refl w _, .inl rfl⟩
        rcases hown.2 with ⟨rfl, rfl⟩ | ⟨g, cap, cur, rfl, _, _, hnc, _⟩
        · simp [Builtin.append_, run_underlying ht, sizeOf, typeInfo, hi, Builtin.lenOf, Builtin.firstCells]
        · simp [Builtin.append_, run_underlying ht, sizeOf, typeInfo, hi, Builtin.lenOf, Builtin.firstCells, hnc, storeCells]
      · cases e'
    · rcases hl with rfl | ⟨b', off', e', hlt, hc⟩
      · have h0 : m = 0 := by simpa using hm.symm
        subst h0
        obtain ⟨v', w', a1, a2, a3, _, a5⟩ := run_append_own_at (P := P) w base t ty e i z k bytes ht hi hz hsize hby hzs hpos v n (ys.flatMap enc) hown ⟨b, off, p⟩ 0 c [] (by simp) (fun j u hu => by simp at hu) (fun u hu => by simp at hu) h63 hbytes hbase
        exact ⟨v', w', a1, by simpa using a2, a3, a5⟩
      · cases e'
        exact some_ _ _ (.inr hc)
  obtain ⟨v', w', a1, a2, a3, a4⟩ := key
  rcases a2.2 with ⟨hv, h0⟩ | ⟨g, cap, cur, hv, _⟩
  · subst hv
    refine ⟨none, 0, w', ?_, ?_, a3, ?_⟩
    · rw [h0]; exact a1
    · rw [h0] at a2 ⊢; exact a2
    · rw [h0]; exact a4
  · subst hv
    exact ⟨_, cap, w', a1, a2, a3, a4⟩
theorem wp_grow {o : Oper} {a : Act} {K : Act → World → Prop} {Q : Exit → Act → World → Prop} (s x : Operand) (t : TypeId)
    (ho : o.op = .call { callee := .builtin .append, args := #[s, x], argTypes := #[t, t] })
    (w : World) (base : Nat) (e : TypeId) (i : TypeInfo) (z : Value) (bytes : Nat) (ht : P.underlying t = some (.slice e)) (hi : P.info? e = some i) (hz : i.zero = some z)
    (hsize : i.size = k) (hby : i.bytes = bytes) (hzs : z.cells.size = k) (hpos : 0 < k) (hk : ∀ x, (enc x).length = k) (h1 : ∀ x, ∀ u ∈ enc x, u.oneCell' = true)
    (v : Value) (hs : a.eval s = v) (n : Nat) (ys : List α) (hown : w.ownsRow base e k v n (ys.flatMap enc)) (A : Option Addr) (m c : Nat) (hx : a.eval x = .slice A m c) (xs : List α) (hl : Lies enc k w A xs) (hm : xs.length = m)
    (h63 : n + m ≤ maxLen) (hbytes : (n + m) * bytes ≤ 140737488355328) (hbase : base ≤ w.heap.size)
    (h : ∀ A' c' w', w'.ownsRow base e k (.slice A' (n + m) c') (n + m) ((ys ++ xs).flatMap enc) → w.grownBy w' v.ownBlock →
      ((Value.slice A' (n + m) c').ownBlock = v.ownBlock ∨ (Value.slice A' (n + m) c').ownBlock = some w.heap.size) → K (a.put o.dst (.slice A' (n + m) c')) w') : o.wp P a w K Q := by
  obtain ⟨A', c', w', hr, h2, h3, h4⟩ := run_grow (P := P) w base t o.type e i z bytes ht hi hz hsize hby hzs hpos hk h1 v n ys hown A m c xs hl hm h63 hbytes hbase
  unfold Oper.wp execOp
  simp only [ho, resolve, invoke, builtin, Sem.run_bind, Sem.run_pure, Result.andThen_ok, List.map_toArray, List.map_cons, List.map_nil, hs, hx, hr]
  exact h A' c' w' h2 h3 h4
theorem wpList_grow {ops : Array Oper} {rest : List Oper} {o : Oper} {a : Act} {Q : Exit → Act → World → Prop} (hgd : o.guard = none) (s x : Operand) (t : TypeId)
    (ho : o.op = .call { callee := .builtin .append, args := #[s, x], argTypes := #[t, t] })
    (w : World) (base : Nat) (e : TypeId) (i : TypeInfo) (z : Value) (bytes : Nat) (ht : P.underlying t = some (.slice e)) (hi : P.info? e = some i) (hz : i.zero = some z)
    (hsize : i.size = k) (hby : i.bytes = bytes) (hzs : z.cells.size = k) (hpos : 0 < k) (hk : ∀ x, (enc x).length = k) (h1 : ∀ x, ∀ u ∈ enc x, u.oneCell' = true)
    (v : Value) (hs : a.eval s = v) (n : Nat) (ys : List α) (hown : w.ownsRow base e k v n (ys.flatMap enc)) (A : Option Addr) (m c : Nat) (hx : a.eval x = .slice A m c) (xs : List α) (hl : Lies enc k w A xs) (hm : xs.length = m)
    (h63 : n + m ≤ maxLen) (hbytes : (n + m) * bytes ≤ 140737488355328) (hbase : base ≤ w.heap.size)
    (h : ∀ A' c' w', w'.ownsRow base e k (.slice A' (n + m) c') (n + m) ((ys ++ xs).flatMap enc) → w.grownBy w' v.ownBlock →
      ((Value.slice A' (n + m) c').ownBlock = v.ownBlock ∨ (Value.slice A' (n + m) c').ownBlock = some w.heap.size) → wpList P ops Q rest (a.put o.dst (.slice A' (n + m) c')) w') : wpList P ops Q (o :: rest) a w :=
  wpList_plain hgd fun _ hK => wp_grow s x t ho w base e i z bytes ht hi hz hsize hby hzs hpos hk h1 v hs n ys hown A m c hx xs hl hm h63 hbytes hbase fun A' c' w' h2 h3 h4 => hK _ _ (h A' c' w' h2 h3 h4)
theorem Blk.grown {g : Nat} {cs : Array Value} {t : TypeId} {row : Option Nat} (h : Blk w g cs t) (hg : w.grownBy w' row) (hr : some g ≠ row) : Blk w' g cs t := by
  have hlt := h.lt
  exact (hg.block g hlt hr).trans h
theorem bl_grown {w0 : World} {row : Option Nat} (h : Below w0.heap.size w0 w) (hg : w.grownBy w' row) (hr : ∀ g, row = some g → w0.heap.size ≤ g) : Below w0.heap.size w0 w' :=
  ⟨hg.os.trans h.os, hg.tape.trans h.tape, hg.output.trans h.output, Nat.le_trans h.size hg.size, fun g hlt => (hg.block g (Nat.lt_of_lt_of_le hlt h.size) (fun e => by have := hr g e.symm; omega)).trans (h.block g hlt)⟩
end
theorem own_empty (w : World) (base : Nat) (e : TypeId) (k : Nat) (hb : base ≤ w.heap.size) : (w.alloc (.cells #[] e)).ownsRow base e k (.slice (some ⟨w.heap.size, 0, none⟩) 0 0) 0 [] :=
  World.ownsRow_lit w #[] 0 hb (by decide) (by simp)
theorem own_empty2 (w : World) (o0 o1 : Obj) (e : TypeId) (k : Nat) : (((w.alloc o0).alloc o1).alloc (.cells #[] e)).ownsRow (w.heap.size + 2) e k (.slice (some ⟨w.heap.size + 1 + 1, 0, none⟩) 0 0) 0 [] := by
  have h := own_empty ((w.alloc o0).alloc o1) (w.heap.size + 2) e k (by simp)
  have e2 : ((w.alloc o0).alloc o1).heap.size = w.heap.size + 1 + 1 := by simp
  rwa [e2] at h
theorem own_from {w : World} {A : Option Addr} {n c : Nat} {v : Value} {B : Nat} (h : (Value.slice A n c).ownBlock = v.ownBlock ∨ (Value.slice A n c).ownBlock = some w.heap.size) (hv : ∀ g, v.ownBlock = some g → B ≤ g) (hw : B ≤ w.heap.size) :
    ∀ b off, A = some ⟨b, off, none⟩ → B ≤ b := by
  rintro b off rfl
  rcases h with h | h
  · exact hv b (by rw [← h]; rfl)
  · have : b = w.heap.size := by simpa [Value.ownBlock] using h
    omega
theorem after2 {w w2 : World} {cs0 cs1 : Array Value} {T0 T1 e : TypeId} {A : Option Addr} {n c : Nat}
    (hg : (((w.alloc (.cells cs0 T0)).alloc (.cells cs1 T1)).alloc (.cells #[] e)).grownBy w2 (Value.slice (some ⟨w.heap.size + 1 + 1, 0, none⟩) 0 0).ownBlock)
    (hat : (Value.slice A n c).ownBlock = (Value.slice (some ⟨w.heap.size + 1 + 1, 0, none⟩) 0 0).ownBlock ∨ (Value.slice A n c).ownBlock = some (((w.alloc (.cells cs0 T0)).alloc (.cells cs1 T1)).alloc (.cells #[] e)).heap.size) :
    Below w.heap.size w w2 ∧ Blk w2 w.heap.size cs0 T0 ∧ Blk w2 (w.heap.size + 1) cs1 T1 ∧ ∀ b off, A = some ⟨b, off, none⟩ → w.heap.size + 2 ≤ b := by
  refine ⟨bl_grown (bl_alloc (bl_alloc (bl_alloc (Below.refl _ _) _) _) _) hg ?_, ?_, ?_, own_from hat ?_ (by simp)⟩
  · intro g h
    have : w.heap.size + 1 + 1 = g := by simpa [Value.ownBlock] using h
    omega
  · exact Blk.grown (((Blk.new w cs0 T0).alloc _).alloc _) hg (by simp [Value.ownBlock]; omega)
  · exact Blk.grown ((Blk.new1 w _ cs1 T1).alloc _) hg (by simp [Value.ownBlock]; try omega)
  · intro g h
    have : w.heap.size + 1 + 1 = g := by simpa [Value.ownBlock] using h
    omega
theorem blk_set {w : World} {g : Nat} {t : TypeId} {cs : Array Value} (h : Blk w g cs t) (i : Nat) (u : Value) : Blk (w.setCell ⟨g, i, none⟩ u) g (cs.setIfInBounds i u) t := by
  unfold Blk at h ⊢
  simp [World.setCell, Array.getElem?_modify, h]
theorem Lies.put {α : Type} {enc : α → List Value} {k B g i : Nat} {w : World} {A : Option Addr} {xs : List α} {v : Value} (hA : ∀ b off, A = some ⟨b, off, none⟩ → B ≤ b) (hp : g < B) (h : Lies enc k w A xs) : Lies enc k (w.setCell ⟨g, i, none⟩ v) A xs :=
  h.set (fun b off e => by have := hA b off e; show b ≠ g; omega) v
end Go.Proofs.Ytimnhdmpfndeaaa.Sl

/- Texts laid as one: Dla Dlc. -/
import Derived.Test.YtccblleobcidfaaGreatGf
import Derived.Test.YtccblleobcidfaaGreatGa
/- Layers 7, 9: the slot that is not the active one's; the steps that erase a slot: what the references answer. -/
section
namespace Go.Proofs.YtccblleobcidfaaGreat.Dv
open Go.RowKit Go.Proofs.YtccblleobcidfaaGreat.Kt Go.Proofs.YtccblleobcidfaaGreat.Lw Go.Proofs.YtccblleobcidfaaGreat.St Go.Proofs.YtccblleobcidfaaGreat.Nm Go.Proofs.YtccblleobcidfaaGreat.Es Go.Proofs.YtccblleobcidfaaGreat.By Go.Proofs.YtccblleobcidfaaGreat.En Go.Proofs.YtccblleobcidfaaGreat.Jr Go.Proofs.YtccblleobcidfaaGreat.Im Go.Proofs.YtccblleobcidfaaGreat.Sl Go.Proofs.YtccblleobcidfaaGreat.Gr Go.Proofs.YtccblleobcidfaaGreat.Ops Go.Proofs.YtccblleobcidfaaGreat.Ch Go.Proofs.YtccblleobcidfaaGreat.Fl Go.Proofs.YtccblleobcidfaaGreat.Pl
set_option linter.unusedVariables false
set_option linter.unusedSimpArgs false
attribute [local irreducible] gotB goodB Cr.crcB nQ nS nZ nM placeB wholeB
/-- the slot that is not the active one's. -/
def otherN (f : ByteArray) : Int := match activeO f with | some p => 1 - p.s | none => 0
theorem other_rng (f : ByteArray) : 0 ≤ otherN f ∧ otherN f ≤ 1 := by
  unfold otherN
  cases h : activeO f with
  | none => simp
  | some p =>
    have := (may_parts (act_ok h).may).2.1
    simp only
    omega
/-- the steps that erase so many sectors from a place on. -/
def erN (b : Nat) (k : Nat) : List OpV := (List.range k).map fun i => (true, ((b + 96 * i : Nat) : Int), ⟨#[]⟩)
def erL (s : Int) : List OpV := erN (baseN s) 3
theorem erN_succ (b k : Nat) : erN b (k + 1) = erN b k ++ [(true, ((b + 96 * k : Nat) : Int), ⟨#[]⟩)] := by simp [erN, List.range_succ]
theorem erN_len (b k : Nat) : (erN b k).length = k := by simp [erN]
theorem infoOp' : (Tryz.prog.info? 183).map (fun i => (i.zero, i.size, i.bytes)) = some (some (.agg #[.bool false, .int .i64 0, .string ⟨#[]⟩]), 3, 32) := by kernel_rfl
/-- a device, an error that a call gives. -/
def GivesE (w : World) (d : DS) (E : Int) (e : Ending) (w' : World) : Prop := (∃ A n c, e = .returned (.tuple #[(.agg #[.int .i64 d.st, .int .i64 d.su, .int .i64 d.nx, .int .i64 d.go, .int .i64 d.sl, .slice A n c]), .int .i64 E]) ∧ d.ops.length = n ∧ Own w' w.heap.size A d.ops) ∧ Below w.heap.size w w'
theorem size_nil {t : ByteArray} (h : t.size = 0) : t = ⟨#[]⟩ := by
  apply ext_data
  have : t.data.toList.length = t.size := by rw [Array.length_toList]; rfl
  exact List.eq_nil_of_length_eq_zero (by omega)
theorem size_some {t : ByteArray} (h : ¬ t.size = 0) : t.toList.isEmpty = false := by
  cases e : t.toList.isEmpty
  · rfl
  · exfalso
    apply h
    have h1 : t.toList = [] := by simpa using e
    rw [Lib.toList_data] at h1
    have : t.data.toList.length = t.size := by rw [Array.length_toList]; rfl
    rw [h1] at this
    simpa using this.symm
/-- may a block be taken? -/
def downOk (f : ByteArray) (d : DS) (b : Int) (t : ByteArray) : Bool := decide (f.size = 768) && (d.may && ((d.st == 0 || d.st == 3) && (rngB b 0 65535 && decide (t.size ≤ 32))))
def slotAt (s : Int) : Int := (baseN s : Int)
/-- what a device makes of the first block. -/
def downM (f : ByteArray) (su : Int) (t : ByteArray) : DS := ⟨1, su, 1, t.size, otherN f, erL (otherN f) ++ wordsL (slotAt (otherN f)) t⟩
/-- what a device makes of a block. -/
def downD (f : ByteArray) (d : DS) (b : Int) (t : ByteArray) : DS :=
  if d.st = 0 then
    if t.size = 0 then DS.fail 5
    else if b ≠ 0 then DS.fail 4
    else downM f d.su t
  else if b = d.nx - 1 then ⟨1, d.su, d.nx, d.go, d.sl, d.ops⟩
  else if b ≠ d.nx then DS.fail 4
  else if t.size = 0 then ⟨4, d.su, d.nx, d.go, d.sl, d.ops⟩
  else if d.go % 32 ≠ 0 ∨ 288 < d.go + (t.size : Int) ∨ 16 ≤ d.nx then DS.fail 4
  else ⟨1, d.su, d.nx + 1, d.go + (t.size : Int), d.sl, wordsL (slotAt d.sl + d.go) t⟩
theorem er_may {b k : Nat} (hb : b % 96 = 0) (hk : b + 96 * k ≤ 768) : MayL (erN b k) := by
  intro o ho
  simp only [erN, List.mem_map, List.mem_range] at ho
  obtain ⟨i, hi, rfl⟩ := ho
  refine ⟨?_, ?_, ?_, ?_⟩
  · have h1 : ((⟨#[]⟩ : ByteArray).toList.isEmpty) = true := by decide +kernel
    have h2 : (((b + 96 * i : Nat) : Int) % 96 == 0) = true := by simp; omega
    simp only [opMay, cond_true, h1, h2, Bool.and_true, rngB]
    simp
    omega
  · simp only; omega
  · simp only; omega
  · simp only; decide
theorem begin_may {s : Int} {t : ByteArray} (h0 : 0 ≤ s) (h1 : s ≤ 1) (ht : t.size ≤ 32) : MayL (erL s ++ wordsL (baseN s : Int) t) := by
  obtain ⟨b1, b2⟩ := base_le h0 h1
  have b4 : baseN s % 96 = 0 := by unfold baseN; omega
  exact (er_may b4 (by omega)).app (words_may (by omega) (by omega) (by omega))
theorem begin_ops {s : Int} {t : ByteArray} (h0 : 0 ≤ s) (h1 : s ≤ 1) (ht : t.size ≤ 32) (o : OpV) (ho : o ∈ erL s ++ wordsL (baseN s : Int) t) : OpOk o := (begin_may h0 h1 ht o ho).2
theorem down_yes {f : ByteArray} {d : DS} {b : Int} {t : ByteArray} (h : downOk f d b t = true) : (f.size = 768 ∧ d.may = true) ∧ (d.st = 0 ∨ d.st = 3) ∧ rngB b 0 65535 = true ∧ t.size ≤ 32 := by
  simp only [downOk, Bool.and_eq_true, Bool.or_eq_true, decide_eq_true_eq, beq_iff_eq] at h
  exact ⟨⟨h.1, h.2.1⟩, h.2.2.1, h.2.2.2.1, h.2.2.2.2⟩
end Go.Proofs.YtccblleobcidfaaGreat.Dv
end
/- Layers 7, 9, 17: the program's Other, Erases, words: what they answer. -/
section
namespace Go.Proofs.YtccblleobcidfaaGreat.Dv
open Go.RowKit Go.Proofs.YtccblleobcidfaaGreat.Kt Go.Proofs.YtccblleobcidfaaGreat.Lw Go.Proofs.YtccblleobcidfaaGreat.St Go.Proofs.YtccblleobcidfaaGreat.Nm Go.Proofs.YtccblleobcidfaaGreat.Es Go.Proofs.YtccblleobcidfaaGreat.By Go.Proofs.YtccblleobcidfaaGreat.En Go.Proofs.YtccblleobcidfaaGreat.Jr Go.Proofs.YtccblleobcidfaaGreat.Im Go.Proofs.YtccblleobcidfaaGreat.Sl Go.Proofs.YtccblleobcidfaaGreat.Gr Go.Proofs.YtccblleobcidfaaGreat.Ops Go.Proofs.YtccblleobcidfaaGreat.Ch Go.Proofs.YtccblleobcidfaaGreat.Fl Go.Proofs.YtccblleobcidfaaGreat.Pl
set_option linter.unusedVariables false
set_option linter.unusedSimpArgs false
attribute [local irreducible] gotB goodB Cr.crcB nQ nS nZ nM placeB wholeB
theorem Own.alloc {w : World} {base : Nat} {A : Option Addr} {xs : List OpV} (h : Own w base A xs) (o : Obj) : Own (w.alloc o) base A xs := h.below (bl_alloc (Below.refl _ _) o)
theorem Own.drewn {w : World} {base : Nat} {A : Option Addr} {xs : List OpV} (h : Own w base A xs) : Own w.drew base A xs := h
/-- a block that lies lower than what turned. -/
theorem blk_low {w w1 : World} {base g : Nat} {cs : Array Value} {t : TypeId} (K : Blk w g cs t) (hb : Below base w w1) (h : g < base) : Blk w1 g cs t := (hb.block g h).trans K
theorem bl_own {w w' : World} {base : Nat} {e : TypeId} {k n : Nat} {v : Value} {xs : List Value} (h : w.ownsRow base e k v n xs) (hg : w.grownBy w' v.ownBlock) (hs : base ≤ w.heap.size) : Below base w w' := (Below.refl base w).grown hg hs (fun k hk => own_base h k hk)
/-- an append of a row onto one's own, at a step of a region that draws its order. -/
theorem step_grow {P : Program} {α : Type} {k : Nat} {enc : α → List Value} {o : Oper} {a : Act} {K : Act → World → Prop} {Q : Exit → Act → World → Prop} {E : Prop} {yz : Nat → Option Bool} (hw : Region.wanted o yz = true) (s x : Operand) (t : TypeId)
    (ho : o.op = .call { callee := .builtin .append, args := #[s, x], argTypes := #[t, t] })
    (w : World) (base : Nat) (e : TypeId) (i : TypeInfo) (z : Value) (bytes : Nat) (ht : P.underlying t = some (.slice e)) (hi : P.info? e = some i) (hz : i.zero = some z)
    (hsize : i.size = k) (hby : i.bytes = bytes) (hzs : z.cells.size = k) (hpos : 0 < k) (hk : ∀ x, (enc x).length = k) (h1 : ∀ x, ∀ u ∈ enc x, u.oneCell' = true)
    (v : Value) (hs : a.eval s = v) (n : Nat) (ys : List α) (hown : w.ownsRow base e k v n (ys.flatMap enc)) (A : Option Addr) (m c : Nat) (hx : a.eval x = .slice A m c) (xs : List α) (hl : Lies enc k w A xs) (hm : xs.length = m)
    (h63 : n + m ≤ maxLen) (hbytes : (n + m) * bytes ≤ 140737488355328) (hbase : base ≤ w.heap.size)
    (h : ∀ A' c' w', w'.ownsRow base e k (.slice A' (n + m) c') (n + m) ((ys ++ xs).flatMap enc) → w.grownBy w' v.ownBlock →
      ((Value.slice A' (n + m) c').ownBlock = v.ownBlock ∨ (Value.slice A' (n + m) c').ownBlock = some w.heap.size) → K (a.put o.dst (.slice A' (n + m) c')) w') : if Region.wanted o yz = true then Oper.wp P o a w K Q else E := by
  rw [if_pos hw]
  exact wp_grow s x t ho w base e i z bytes ht hi hz hsize hby hzs hpos hk h1 v hs n ys hown A m c hx xs hl hm h63 hbytes hbase h
theorem other_c (f : ByteArray) (w : World) (hf : f.size = 768) : Calls Tryz.prog 68 #[.string f] w fun e w' => e = .returned (.tuple #[.int .i64 (otherN f), .int .i64 0]) ∧ Below w.heap.size w w' := by
  have HB := Below.refl w.heap.size w
  cases ha : activeO f with
  | some p =>
    have ac := Lib.hid (fun W : World => active_c f W hf)
    rw [(act_some ha).1, (act_some ha).2] at ac
    have hv := Lib.hid (show otherN f = 1 - p.s by simp only [otherN, ha])
    have hs := (may_parts (act_ok ha).may).2.1
    obtain ⟨hs0, hs1⟩ := hs
    clear ha
    go_enter Tryz.func68, Tryz.ntmps68
    go_wp2_with (first | (go_at_call 64; with_reducible refine (ac.out _).mono ?_; rintro e w' ⟨rfl, hb⟩; have HB := bl_step (w := w) zq0 hb; have hzB := HB.size; have K1 := fun cs => Blk.new w' cs 69) | fail)
    go_ret2
    exact ⟨by rw [hv.out]; rfl, zq1⟩
  | none =>
    have ac := Lib.hid (fun W : World => active_c f W hf)
    rw [(act_none ha).1, (act_none ha).2] at ac
    have hv := Lib.hid (show otherN f = 0 by simp only [otherN, ha])
    clear ha
    go_enter Tryz.func68, Tryz.ntmps68
    go_wp2_with (first | (go_at_call 64; with_reducible refine (ac.out _).mono ?_; rintro e w' ⟨rfl, hb⟩; have HB := bl_step (w := w) zq0 hb; have hzB := HB.size; have K1 := fun cs => Blk.new w' cs 69) | fail)
    go_ret2
    exact ⟨by rw [hv.out]; rfl, zq1⟩
theorem begin_at (s : Int) (k : Nat) (w : World) (h0 : 0 ≤ s) (h1 : s ≤ 1) (hk : k < 3) : Calls Tryz.prog 214 #[.int .i64 (2 + 3 * s + (k : Int))] w fun e w' => e = .returned (.int .i64 ((baseN s + 96 * k : Nat) : Int)) ∧ w = w' := by
  have hE := Lib.hid (show (2 + 3 * s + (k : Int)) * 96 = ((baseN s + 96 * k : Nat) : Int) by unfold baseN; omega)
  go_enter Tryz.func214, Tryz.ntmps214
  go_wp2
  go_ret
  exact ⟨by rw [← hE.out]; rfl, rfl⟩
set_option maxRecDepth 100000 in
set_option maxHeartbeats 6400000 in
theorem erases_c (s : Int) (w : World) (h0 : 0 ≤ s) (h1 : s ≤ 1) :
    Calls Tryz.prog 194 #[.int .i64 s] w fun e w' => ∃ A c, e = .returned (.tuple #[.slice A 3 c, .int .i64 0]) ∧ w'.ownsRow w.heap.size 183 3 (.slice A 3 c) 3 ((erL s).flatMap encOp) ∧ Below w.heap.size w w' := by
  obtain ⟨i0, hi, hz0, hz1, hz2⟩ := info_parts infoOp'
  obtain ⟨b1, b2⟩ := base_le h0 h1
  have sl := Lib.hid (fun W : World => slot_c s W)
  rw [show rngB s 0 1 = true by simp [rngB]; omega] at sl
  have se := Lib.hid (fun W : World => sector_c s W h0 h1)
  have bb := Lib.hid (fun (k : Nat) (hk : k < 3) (W : World) => begin_at s k W h0 h1 hk)
  have hE := Lib.hid (show erL s = erN (baseN s) 3 from rfl)
  generalize baseN s = b at *
  go_enter Tryz.func194, Tryz.ntmps194
  go_upto_region 5 with (first | (go_at_call 174; with_reducible refine (sl.out _).mono ?_; rintro e w' ⟨rfl, rfl⟩) | fail)
  go_loopg [4, 9] 3 (fun gg s6 s7 wr => ∃ (k : Nat) (A : Option Addr) (c : Nat), k ≤ 3 ∧ 3 - k ≤ gg ∧ s7 = .int .i64 k ∧ s6 = .slice A k c ∧ Aside (wr.ownsRow w.heap.size 183 3 (.slice A k c) k ((erN b k).flatMap encOp)) ∧ Aside (Below w.heap.size w wr))
  case atStart => exact ⟨0, none, 0, by omega, by omega, rfl, rfl, World.ownsRow_nil _ _ _ _, Below.refl _ _⟩
  case round =>
    obtain ⟨k, A, c, hk, hg, rfl, rfl, BO, BW⟩ := hrel
    have HB := BW.out
    have hsize := HB.size
    by_cases hlt : k < 3
    · have h1 : (k : Int) < 3 := by omega
      have bk := Lib.hid (bb.out k hlt)
      clear bb
      go_upto_region 8 with (first | (go_at_call 215; with_reducible refine (se.out _).mono ?_; rintro e w' ⟨rfl, rfl⟩) | (go_at_call 214; with_reducible refine (bk.out _).mono ?_; rintro e w' ⟨rfl, rfl⟩) | (at_builtin; refine wpList_append_own _ rfl _ _ 26 rfl w.heap.size 183 i0 (.agg #[.bool false, .int .i64 0, .string ⟨#[]⟩]) 3 32 Tryz.underlying26 hi hz0 hz1 hz2 rfl (by decide) _ _ _ rfl (BO.out.alloc _) ⟨wr.heap.size, 0, none⟩ 1 1 [.bool true, .int .i64 ((b + 96 * k : Nat) : Int), .string ⟨#[]⟩] rfl rfl (cells_new _ _ _) (fun x hx => by simp at hx; rcases hx with rfl | rfl | rfl <;> rfl) (by unfold maxLen; omega) (by omega) (by have := HB.size; simp; omega) ?_; intro v' w3 hown' hgrow3 hnil3) | fail)
      obtain ⟨⟨g3, cv', rfl, hcv⟩, hb3⟩ := row_stepz (by decide) BO.out hown' hgrow3 HB
      have hfl : (erN b (k + 1)).flatMap encOp = (erN b k).flatMap encOp ++ [.bool true, .int .i64 ((b + 96 * k : Nat) : Int), .string ⟨#[]⟩] := by rw [erN_succ, List.flatMap_append, List.flatMap_singleton]; rfl
      rw [← hfl] at hown'
      clear hfl
      go_wp2_with fail
      go_roundg (3 - (k + 1))
      case measure => omega
      case rel => exact ⟨k + 1, _, cv', by omega, by omega, by go_num, rfl, hown', hb3⟩
    · obtain rfl : k = 3 := by omega
      have hown := BO.out
      go_wp2_with fail
      go_ret2
      exact ⟨A, c, rfl, by rw [hE.out]; exact hown, HB⟩
theorem dwords_c (s g : Int) (t : ByteArray) (w : World) (h0 : 0 ≤ s) (h1 : s ≤ 1) (g0 : 0 ≤ g) (g4 : g % 4 = 0) (gz : g + (t.size : Int) ≤ 288) :
    Calls Tryz.prog 195 #[.int .i64 s, .int .i64 g, .string t] w fun e w' => ∃ A c, e = .returned (.slice A ((t.size + 3) / 4) c) ∧ w'.ownsRow w.heap.size 183 3 (.slice A ((t.size + 3) / 4) c) ((t.size + 3) / 4) ((wordsL (slotAt s + g) t).flatMap encOp) ∧ Below w.heap.size w w' := by
  have bs := Lib.hid (fun W : World => base_c s W h0 h1)
  obtain ⟨b1, b2⟩ := base_le h0 h1
  have b4 : baseN s % 96 = 0 := by unfold baseN; omega
  have wd := Lib.hid (fun W : World => words_c ((baseN s : Int) + g) t W (by omega) (by omega) (by omega))
  have hE := Lib.hid (show wordsL (slotAt s + g) t = wordsL ((baseN s : Int) + g) t from rfl)
  generalize wordsL ((baseN s : Int) + g) t = WL at *
  generalize baseN s = bn at *
  generalize (t.size + 3) / 4 = m at *
  go_enter Tryz.func195, Tryz.ntmps195
  go_wp2_with (first | (go_at_call 160; with_reducible refine (bs.out _).mono ?_; rintro e w' ⟨rfl, rfl⟩) | (go_at_call 248; (with_reducible refine (wd.out _).mono ?_); rintro e w6 ⟨A6, c6, rfl, hown6, hb⟩) | fail)
  go_ret
  exact ⟨A6, c6, rfl, by rw [hE.out]; exact hown6, hb⟩
end Go.Proofs.YtccblleobcidfaaGreat.Dv
end

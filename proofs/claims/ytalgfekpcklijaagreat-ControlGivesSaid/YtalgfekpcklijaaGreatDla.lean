/- Layers 7, 9: the slot that is not the active one's; the steps that erase a slot: what the references answer. -/
import Derived.Test.YtalgfekpcklijaaGreatGf
import Derived.Test.YtalgfekpcklijaaGreatDca
namespace Go.Proofs.YtalgfekpcklijaaGreat.Dv
open Go.RowKit Go.Proofs.YtalgfekpcklijaaGreat.Kt Go.Proofs.YtalgfekpcklijaaGreat.Lw Go.Proofs.YtalgfekpcklijaaGreat.St Go.Proofs.YtalgfekpcklijaaGreat.Nm Go.Proofs.YtalgfekpcklijaaGreat.Es Go.Proofs.YtalgfekpcklijaaGreat.By Go.Proofs.YtalgfekpcklijaaGreat.En Go.Proofs.YtalgfekpcklijaaGreat.Jr Go.Proofs.YtalgfekpcklijaaGreat.Im Go.Proofs.YtalgfekpcklijaaGreat.Sl Go.Proofs.YtalgfekpcklijaaGreat.Gr Go.Proofs.YtalgfekpcklijaaGreat.Ops Go.Proofs.YtalgfekpcklijaaGreat.Ch Go.Proofs.YtalgfekpcklijaaGreat.Fl Go.Proofs.YtalgfekpcklijaaGreat.Pl
set_option linter.unusedVariables false
set_option linter.unusedSimpArgs false
attribute [local irreducible] gotB goodB Cr.crcB nQ nS nZ nM placeB wholeB
/-- the slot that is not the active one's. -/
def otherN (f : ByteArray) : Int := match activeO f with | some p => 1 - p.s | none => 0
theorem other_rng (f : ByteArray) : 0 ≤ otherN f ∧ otherN f ≤ 1 := by
  unfold otherN
  cases h : activeO f with
  | none => simp
  | some p =>
    have := (may_parts (act_ok h).may).2.1
    simp only
    omega
theorem rother_c (f : ByteArray) (w : World) (hf : f.size = 768) : Calls Tryz.prog 111 #[.string f] w fun e w' => e = .returned (.tuple #[.int .i64 (otherN f), .int .i64 0]) ∧ Below w.heap.size w w' := by
  have HB := Below.refl w.heap.size w
  cases ha : activeO f with
  | some p =>
    have ac := Lib.hid (fun W : World => ractive_c f W hf)
    rw [(act_some ha).1, (act_some ha).2] at ac
    have hv := Lib.hid (show otherN f = 1 - p.s by simp only [otherN, ha])
    have hs := (may_parts (act_ok ha).may).2.1
    obtain ⟨hs0, hs1⟩ := hs
    clear ha
    go_enter Tryz.func111, Tryz.ntmps111
    go_wp2_with (first | (go_at_call 40; with_reducible refine (ac.out _).mono ?_; rintro e w' ⟨rfl, hb⟩; have HB := bl_step (w := w) (by repeat (with_reducible first | exact HB | (refine bl_set ?_ (by omega)) | apply bl_alloc | apply bl_drew | apply bl_drewN | fail)) hb; have hzB := HB.size; have K1 := fun cs => Blk.new w' cs 85) | fail)
    go_ret2
    exact ⟨by rw [hv.out]; rfl, (by repeat (with_reducible first | exact Below.refl _ _ | assumption | (refine bl_set ?_ (by omega)) | apply bl_alloc | apply bl_drewN | apply bl_drew | (refine bl_step ?_ (by assumption)) | fail))⟩
  | none =>
    have ac := Lib.hid (fun W : World => ractive_c f W hf)
    rw [(act_none ha).1, (act_none ha).2] at ac
    have hv := Lib.hid (show otherN f = 0 by simp only [otherN, ha])
    clear ha
    go_enter Tryz.func111, Tryz.ntmps111
    go_wp2_with (first | (go_at_call 40; with_reducible refine (ac.out _).mono ?_; rintro e w' ⟨rfl, hb⟩; have HB := bl_step (w := w) (by repeat (with_reducible first | exact HB | (refine bl_set ?_ (by omega)) | apply bl_alloc | apply bl_drew | apply bl_drewN | fail)) hb; have hzB := HB.size; have K1 := fun cs => Blk.new w' cs 85) | fail)
    go_ret2
    exact ⟨by rw [hv.out]; rfl, (by repeat (with_reducible first | exact Below.refl _ _ | assumption | (refine bl_set ?_ (by omega)) | apply bl_alloc | apply bl_drewN | apply bl_drew | (refine bl_step ?_ (by assumption)) | fail))⟩
/-- the steps that erase so many sectors from a place on. -/
def erN (b : Nat) (k : Nat) : List OpV := (List.range k).map fun i => (true, ((b + 96 * i : Nat) : Int), ⟨#[]⟩)
def erL (s : Int) : List OpV := erN (baseN s) 3
theorem erN_succ (b k : Nat) : erN b (k + 1) = erN b k ++ [(true, ((b + 96 * k : Nat) : Int), ⟨#[]⟩)] := by simp [erN, List.range_succ]
theorem erN_len (b k : Nat) : (erN b k).length = k := by simp [erN]
theorem infoOp' : (Tryz.prog.info? 118).map (fun i => (i.zero, i.size, i.bytes)) = some (some (.agg #[.bool false, .int .i64 0, .string ⟨#[]⟩]), 3, 32) := by kernel_rfl
set_option maxRecDepth 100000 in
set_option maxHeartbeats 6400000 in
theorem rerases_c (s : Int) (w : World) (h0 : 0 ≤ s) (h1 : s ≤ 1) :
    Calls Tryz.prog 112 #[.int .i64 s] w fun e w' => ∃ A c, e = .returned (.tuple #[.slice A 3 c, .int .i64 0]) ∧ w'.ownsRow w.heap.size 118 3 (.slice A 3 c) 3 ((erL s).flatMap encOp) ∧ Below w.heap.size w w' := by
  obtain ⟨i0, hi, hz0, hz1, hz2⟩ := info_parts infoOp'
  obtain ⟨b1, b2⟩ := base_le h0 h1
  have bb := Lib.hid (fun W : World => rbase_c s W h0 h1)
  have hE := Lib.hid (show erL s = erN (baseN s) 3 from rfl)
  generalize baseN s = b at *
  clear h0 h1
  go_enter Tryz.func112, Tryz.ntmps112
  go_upto_region 6 with (first | (go_at_call 94; with_reducible refine (bb.out _).mono ?_; rintro e w' ⟨rfl, rfl⟩) | fail)
  go_loopg [6, 7] 3 (fun gg s6 s7 wr => ∃ (k : Nat) (A : Option Addr) (c : Nat), k ≤ 3 ∧ 3 - k ≤ gg ∧ s7 = .int .i64 k ∧ s6 = .slice A k c ∧ Aside (wr.ownsRow w.heap.size 118 3 (.slice A k c) k ((erN b k).flatMap encOp)) ∧ Aside (Below w.heap.size w wr))
  case atStart => exact ⟨0, none, 0, by omega, by omega, rfl, rfl, World.ownsRow_nil _ _ _ _, Below.refl _ _⟩
  case round =>
    obtain ⟨k, A, c, hk, hg, rfl, rfl, BO, BW⟩ := hrel
    have HB := BW.out
    have hsize := HB.size
    by_cases hlt : k < 3
    · have h1 : (k : Int) < 3 := by omega
      have he := Lib.hid (show (b : Int) + (k : Int) * 96 = ((b + 96 * k : Nat) : Int) by omega)
      go_upto_region 7 with (first | (at_builtin; refine wpList_append_own _ rfl _ _ 22 rfl w.heap.size 118 i0 (.agg #[.bool false, .int .i64 0, .string ⟨#[]⟩]) 3 32 Tryz.underlying22 hi hz0 hz1 hz2 rfl (by decide) _ _ _ rfl (BO.out.alloc _) ⟨wr.heap.size, 0, none⟩ 1 1 [.bool true, .int .i64 ((b : Int) + (k : Int) * 96), .string ⟨#[]⟩] rfl rfl (cells_new _ _ _) (fun x hx => by simp at hx; rcases hx with rfl | rfl | rfl <;> rfl) (by unfold maxLen; omega) (by omega) (by have := HB.size; simp; omega) ?_; intro v' w3 hown' hgrow3 hnil3) | fail)
      obtain ⟨⟨g3, cv', rfl, hcv⟩, hb3⟩ := row_stepz (by decide) BO.out hown' hgrow3 HB
      have hfl : (erN b (k + 1)).flatMap encOp = (erN b k).flatMap encOp ++ [.bool true, .int .i64 ((b : Int) + (k : Int) * 96), .string ⟨#[]⟩] := by rw [erN_succ, List.flatMap_append, List.flatMap_singleton, he.out]; rfl
      rw [← hfl] at hown'
      clear hfl he
      go_wp2_with fail
      go_roundg (3 - (k + 1))
      case measure => omega
      case rel => exact ⟨k + 1, _, cv', by omega, by omega, by go_num, rfl, hown', hb3⟩
    · obtain rfl : k = 3 := by omega
      have hown := BO.out
      go_wp2_with fail
      go_ret2
      exact ⟨A, c, rfl, by rw [hE.out]; exact hown, HB⟩
/-- a device, an error that a call gives. -/
def GivesE (w : World) (d : DS) (E : Int) (e : Ending) (w' : World) : Prop := (∃ A n c, e = .returned (.tuple #[(.agg #[.int .i64 d.st, .int .i64 d.su, .int .i64 d.nx, .int .i64 d.go, .int .i64 d.sl, .slice A n c]), .int .i64 E]) ∧ d.ops.length = n ∧ Own w' w.heap.size A d.ops) ∧ Below w.heap.size w w'
theorem size_nil {t : ByteArray} (h : t.size = 0) : t = ⟨#[]⟩ := by
  apply ext_data
  have : t.data.toList.length = t.size := by rw [Array.length_toList]; rfl
  exact List.eq_nil_of_length_eq_zero (by omega)
theorem size_some {t : ByteArray} (h : ¬ t.size = 0) : t.toList.isEmpty = false := by
  cases e : t.toList.isEmpty
  · rfl
  · exfalso
    apply h
    have h1 : t.toList = [] := by simpa using e
    rw [Lib.toList_data] at h1
    have : t.data.toList.length = t.size := by rw [Array.length_toList]; rfl
    rw [h1] at this
    simpa using this.symm
/-- may a block be taken? -/
def downOk (f : ByteArray) (d : DS) (b : Int) (t : ByteArray) : Bool := decide (f.size = 768) && (d.may && ((d.st == 0 || d.st == 3) && (rngB b 0 65535 && decide (t.size ≤ 32))))
def slotAt (s : Int) : Int := (baseN s : Int)
/-- what a device makes of the first block. -/
def downM (f : ByteArray) (su : Int) (t : ByteArray) : DS := ⟨1, su, 1, t.size, otherN f, erL (otherN f) ++ wordsL (slotAt (otherN f)) t⟩
/-- what a device makes of a block. -/
def downD (f : ByteArray) (d : DS) (b : Int) (t : ByteArray) : DS :=
  if d.st = 0 then
    if t.size = 0 then DS.fail 5
    else if b ≠ 0 then DS.fail 4
    else downM f d.su t
  else if b = d.nx - 1 then ⟨1, d.su, d.nx, d.go, d.sl, d.ops⟩
  else if b ≠ d.nx then DS.fail 4
  else if t.size = 0 then ⟨4, d.su, d.nx, d.go, d.sl, d.ops⟩
  else if d.go % 32 ≠ 0 ∨ 288 < d.go + (t.size : Int) ∨ 16 ≤ d.nx then DS.fail 4
  else ⟨1, d.su, d.nx + 1, d.go + (t.size : Int), d.sl, wordsL (slotAt d.sl + d.go) t⟩
theorem er_may {b k : Nat} (hb : b % 96 = 0) (hk : b + 96 * k ≤ 768) : MayL (erN b k) := by
  intro o ho
  simp only [erN, List.mem_map, List.mem_range] at ho
  obtain ⟨i, hi, rfl⟩ := ho
  refine ⟨?_, ?_, ?_, ?_⟩
  · have h1 : ((⟨#[]⟩ : ByteArray).toList.isEmpty) = true := by decide +kernel
    have h2 : (((b + 96 * i : Nat) : Int) % 96 == 0) = true := by simp; omega
    simp only [opMay, cond_true, h1, h2, Bool.and_true, rngB]
    simp
    omega
  · simp only; omega
  · simp only; omega
  · simp only; decide
theorem begin_may {s : Int} {t : ByteArray} (h0 : 0 ≤ s) (h1 : s ≤ 1) (ht : t.size ≤ 32) : MayL (erL s ++ wordsL (baseN s : Int) t) := by
  obtain ⟨b1, b2⟩ := base_le h0 h1
  have b4 : baseN s % 96 = 0 := by unfold baseN; omega
  exact (er_may b4 (by omega)).app (words_may (by omega) (by omega) (by omega))
theorem begin_ops {s : Int} {t : ByteArray} (h0 : 0 ≤ s) (h1 : s ≤ 1) (ht : t.size ≤ 32) (o : OpV) (ho : o ∈ erL s ++ wordsL (baseN s : Int) t) : OpOk o := (begin_may h0 h1 ht o ho).2
theorem down_yes {f : ByteArray} {d : DS} {b : Int} {t : ByteArray} (h : downOk f d b t = true) : (f.size = 768 ∧ d.may = true) ∧ (d.st = 0 ∨ d.st = 3) ∧ rngB b 0 65535 = true ∧ t.size ≤ 32 := by
  simp only [downOk, Bool.and_eq_true, Bool.or_eq_true, decide_eq_true_eq, beq_iff_eq] at h
  exact ⟨⟨h.1, h.2.1⟩, h.2.2.1, h.2.2.2.1, h.2.2.2.2⟩
theorem down_no {f : ByteArray} {d : DS} {b : Int} {t : ByteArray} (h : downOk f d b t = false) (hf : f.size = 768) (hm : d.may = true) : (¬ d.st = 0 ∧ ¬ d.st = 3) ∨ ((d.st = 0 ∨ d.st = 3) ∧ rngB b 0 65535 = false) ∨ ((d.st = 0 ∨ d.st = 3) ∧ rngB b 0 65535 = true ∧ ¬ t.size ≤ 32) := by
  have e1 : decide (f.size = 768) = true := decide_eq_true hf
  simp only [downOk, e1, hm, Bool.true_and] at h
  by_cases h0 : d.st = 0 ∨ d.st = 3
  · right
    have e2 : (d.st == 0 || d.st == 3) = true := by simpa using h0
    rw [e2, Bool.true_and] at h
    cases hr : rngB b 0 65535
    · exact .inl ⟨h0, rfl⟩
    · rw [hr, Bool.true_and] at h
      exact .inr ⟨h0, rfl, by simpa using h⟩
  · left
    exact ⟨fun e => h0 (.inl e), fun e => h0 (.inr e)⟩
end Go.Proofs.YtalgfekpcklijaaGreat.Dv

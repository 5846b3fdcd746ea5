/- Layers 7, 9, 17: the program's Other, Erases, words: what they answer. -/
import Derived.Test.YtalgfekpcklijaaGreatDla
namespace Go.Proofs.YtalgfekpcklijaaGreat.Dv
open Go.RowKit Go.Proofs.YtalgfekpcklijaaGreat.Kt Go.Proofs.YtalgfekpcklijaaGreat.Lw Go.Proofs.YtalgfekpcklijaaGreat.St Go.Proofs.YtalgfekpcklijaaGreat.Nm Go.Proofs.YtalgfekpcklijaaGreat.Es Go.Proofs.YtalgfekpcklijaaGreat.By Go.Proofs.YtalgfekpcklijaaGreat.En Go.Proofs.YtalgfekpcklijaaGreat.Jr Go.Proofs.YtalgfekpcklijaaGreat.Im Go.Proofs.YtalgfekpcklijaaGreat.Sl Go.Proofs.YtalgfekpcklijaaGreat.Gr Go.Proofs.YtalgfekpcklijaaGreat.Ops Go.Proofs.YtalgfekpcklijaaGreat.Ch Go.Proofs.YtalgfekpcklijaaGreat.Fl Go.Proofs.YtalgfekpcklijaaGreat.Pl
set_option linter.unusedVariables false
set_option linter.unusedSimpArgs false
attribute [local irreducible] gotB goodB Cr.crcB nQ nS nZ nM placeB wholeB
theorem Own.alloc {w : World} {base : Nat} {A : Option Addr} {xs : List OpV} (h : Own w base A xs) (o : Obj) : Own (w.alloc o) base A xs := h.below (bl_alloc (Below.refl _ _) o)
theorem Own.drewn {w : World} {base : Nat} {A : Option Addr} {xs : List OpV} (h : Own w base A xs) : Own w.drew base A xs := h
/-- a block that lies lower than what turned. -/
theorem blk_low {w w1 : World} {base g : Nat} {cs : Array Value} {t : TypeId} (K : Blk w g cs t) (hb : Below base w w1) (h : g < base) : Blk w1 g cs t := (hb.block g h).trans K
theorem bl_own {w w' : World} {base : Nat} {e : TypeId} {k n : Nat} {v : Value} {xs : List Value} (h : w.ownsRow base e k v n xs) (hg : w.grownBy w' v.ownBlock) (hs : base ≤ w.heap.size) : Below base w w' := (Below.refl base w).grown hg hs (fun k hk => own_base h k hk)
/-- an append of a row onto one's own, at a step of a region that draws its order. -/
theorem step_grow {P : Program} {α : Type} {k : Nat} {enc : α → List Value} {o : Oper} {a : Act} {K : Act → World → Prop} {Q : Exit → Act → World → Prop} {E : Prop} {yz : Nat → Option Bool} (hw : Region.wanted o yz = true) (s x : Operand) (t : TypeId)
    (ho : o.op = .call { callee := .builtin .append, args := #[s, x], argTypes := #[t, t] })
    (w : World) (base : Nat) (e : TypeId) (i : TypeInfo) (z : Value) (bytes : Nat) (ht : P.underlying t = some (.slice e)) (hi : P.info? e = some i) (hz : i.zero = some z)
    (hsize : i.size = k) (hby : i.bytes = bytes) (hzs : z.cells.size = k) (hpos : 0 < k) (hk : ∀ x, (enc x).length = k) (h1 : ∀ x, ∀ u ∈ enc x, u.oneCell' = true)
    (v : Value) (hs : a.eval s = v) (n : Nat) (ys : List α) (hown : w.ownsRow base e k v n (ys.flatMap enc)) (A : Option Addr) (m c : Nat) (hx : a.eval x = .slice A m c) (xs : List α) (hl : Lies enc k w A xs) (hm : xs.length = m)
    (h63 : n + m ≤ maxLen) (hbytes : (n + m) * bytes ≤ 140737488355328) (hbase : base ≤ w.heap.size)
    (h : ∀ A' c' w', w'.ownsRow base e k (.slice A' (n + m) c') (n + m) ((ys ++ xs).flatMap enc) → w.grownBy w' v.ownBlock →
      ((Value.slice A' (n + m) c').ownBlock = v.ownBlock ∨ (Value.slice A' (n + m) c').ownBlock = some w.heap.size) → K (a.put o.dst (.slice A' (n + m) c')) w') : if Region.wanted o yz = true then Oper.wp P o a w K Q else E := by
  rw [if_pos hw]
  exact wp_grow s x t ho w base e i z bytes ht hi hz hsize hby hzs hpos hk h1 v hs n ys hown A m c hx xs hl hm h63 hbytes hbase h
theorem other_c (f : ByteArray) (w : World) (hf : f.size = 768) : Calls Tryz.prog 198 #[.string f] w fun e w' => e = .returned (.tuple #[.int .i64 (otherN f), .int .i64 0]) ∧ Below w.heap.size w w' := by
  have HB := Below.refl w.heap.size w
  cases ha : activeO f with
  | some p =>
    have ac := Lib.hid (fun W : World => active_c f W hf)
    rw [(act_some ha).1, (act_some ha).2] at ac
    have hv := Lib.hid (show otherN f = 1 - p.s by simp only [otherN, ha])
    have hs := (may_parts (act_ok ha).may).2.1
    obtain ⟨hs0, hs1⟩ := hs
    clear ha
    go_enter Tryz.func198, Tryz.ntmps198
    go_wp2_with (first | (go_at_call 181; with_reducible refine (ac.out _).mono ?_; rintro e w' ⟨rfl, hb⟩; have HB := bl_step (w := w) (by repeat (with_reducible first | exact HB | (refine bl_set ?_ (by omega)) | apply bl_alloc | apply bl_drew | apply bl_drewN | fail)) hb; have hzB := HB.size; have K1 := fun cs => Blk.new w' cs 85) | fail)
    go_ret2
    exact ⟨by rw [hv.out]; rfl, (by repeat (with_reducible first | exact Below.refl _ _ | assumption | (refine bl_set ?_ (by omega)) | apply bl_alloc | apply bl_drewN | apply bl_drew | (refine bl_step ?_ (by assumption)) | fail))⟩
  | none =>
    have ac := Lib.hid (fun W : World => active_c f W hf)
    rw [(act_none ha).1, (act_none ha).2] at ac
    have hv := Lib.hid (show otherN f = 0 by simp only [otherN, ha])
    clear ha
    go_enter Tryz.func198, Tryz.ntmps198
    go_wp2_with (first | (go_at_call 181; with_reducible refine (ac.out _).mono ?_; rintro e w' ⟨rfl, hb⟩; have HB := bl_step (w := w) (by repeat (with_reducible first | exact HB | (refine bl_set ?_ (by omega)) | apply bl_alloc | apply bl_drew | apply bl_drewN | fail)) hb; have hzB := HB.size; have K1 := fun cs => Blk.new w' cs 85) | fail)
    go_ret2
    exact ⟨by rw [hv.out]; rfl, (by repeat (with_reducible first | exact Below.refl _ _ | assumption | (refine bl_set ?_ (by omega)) | apply bl_alloc | apply bl_drewN | apply bl_drew | (refine bl_step ?_ (by assumption)) | fail))⟩
theorem begin_at (s : Int) (k : Nat) (w : World) (h0 : 0 ≤ s) (h1 : s ≤ 1) (hk : k < 3) : Calls Tryz.prog 214 #[.int .i64 (2 + 3 * s + (k : Int))] w fun e w' => e = .returned (.int .i64 ((baseN s + 96 * k : Nat) : Int)) ∧ w = w' := by
  have hE := Lib.hid (show (2 + 3 * s + (k : Int)) * 96 = ((baseN s + 96 * k : Nat) : Int) by unfold baseN; omega)
  go_enter Tryz.func214, Tryz.ntmps214
  go_wp2
  go_ret
  exact ⟨by rw [← hE.out]; rfl, rfl⟩
set_option maxRecDepth 100000 in
set_option maxHeartbeats 6400000 in
theorem erases_c (s : Int) (w : World) (h0 : 0 ≤ s) (h1 : s ≤ 1) :
    Calls Tryz.prog 199 #[.int .i64 s] w fun e w' => ∃ A c, e = .returned (.tuple #[.slice A 3 c, .int .i64 0]) ∧ w'.ownsRow w.heap.size 118 3 (.slice A 3 c) 3 ((erL s).flatMap encOp) ∧ Below w.heap.size w w' := by
  obtain ⟨i0, hi, hz0, hz1, hz2⟩ := info_parts infoOp'
  obtain ⟨b1, b2⟩ := base_le h0 h1
  have sl := Lib.hid (fun W : World => slot_c s W)
  rw [show rngB s 0 1 = true by simp [rngB]; omega] at sl
  have se := Lib.hid (fun W : World => sector_c s W h0 h1)
  have bb := Lib.hid (fun (k : Nat) (hk : k < 3) (W : World) => begin_at s k W h0 h1 hk)
  have hE := Lib.hid (show erL s = erN (baseN s) 3 from rfl)
  generalize baseN s = b at *
  go_enter Tryz.func199, Tryz.ntmps199
  go_upto_region 5 with (first | (go_at_call 100; with_reducible refine (sl.out _).mono ?_; rintro e w' ⟨rfl, rfl⟩) | fail)
  go_loopg [4, 9] 3 (fun gg s6 s7 wr => ∃ (k : Nat) (A : Option Addr) (c : Nat), k ≤ 3 ∧ 3 - k ≤ gg ∧ s7 = .int .i64 k ∧ s6 = .slice A k c ∧ Aside (wr.ownsRow w.heap.size 118 3 (.slice A k c) k ((erN b k).flatMap encOp)) ∧ Aside (Below w.heap.size w wr))
  case atStart => exact ⟨0, none, 0, by omega, by omega, rfl, rfl, World.ownsRow_nil _ _ _ _, Below.refl _ _⟩
  case round =>
    obtain ⟨k, A, c, hk, hg, rfl, rfl, BO, BW⟩ := hrel
    have HB := BW.out
    have hsize := HB.size
    by_cases hlt : k < 3
    · have h1 : (k : Int) < 3 := by omega
      have bk := Lib.hid (bb.out k hlt)
      clear bb
      go_upto_region 8 with (first | (go_at_call 215; with_reducible refine (se.out _).mono ?_; rintro e w' ⟨rfl, rfl⟩) | (go_at_call 214; with_reducible refine (bk.out _).mono ?_; rintro e w' ⟨rfl, rfl⟩) | (at_builtin; refine wpList_append_own _ rfl _ _ 22 rfl w.heap.size 118 i0 (.agg #[.bool false, .int .i64 0, .string ⟨#[]⟩]) 3 32 Tryz.underlying22 hi hz0 hz1 hz2 rfl (by decide) _ _ _ rfl (BO.out.alloc _) ⟨wr.heap.size, 0, none⟩ 1 1 [.bool true, .int .i64 ((b + 96 * k : Nat) : Int), .string ⟨#[]⟩] rfl rfl (cells_new _ _ _) (fun x hx => by simp at hx; rcases hx with rfl | rfl | rfl <;> rfl) (by unfold maxLen; omega) (by omega) (by have := HB.size; simp; omega) ?_; intro v' w3 hown' hgrow3 hnil3) | fail)
      obtain ⟨⟨g3, cv', rfl, hcv⟩, hb3⟩ := row_stepz (by decide) BO.out hown' hgrow3 HB
      have hfl : (erN b (k + 1)).flatMap encOp = (erN b k).flatMap encOp ++ [.bool true, .int .i64 ((b + 96 * k : Nat) : Int), .string ⟨#[]⟩] := by rw [erN_succ, List.flatMap_append, List.flatMap_singleton]; rfl
      rw [← hfl] at hown'
      clear hfl
      go_wp2_with fail
      go_roundg (3 - (k + 1))
      case measure => omega
      case rel => exact ⟨k + 1, _, cv', by omega, by omega, by go_num, rfl, hown', hb3⟩
    · obtain rfl : k = 3 := by omega
      have hown := BO.out
      go_wp2_with fail
      go_ret2
      exact ⟨A, c, rfl, by rw [hE.out]; exact hown, HB⟩
theorem dwords_c (s g : Int) (t : ByteArray) (w : World) (h0 : 0 ≤ s) (h1 : s ≤ 1) (g0 : 0 ≤ g) (g4 : g % 4 = 0) (gz : g + (t.size : Int) ≤ 288) :
    Calls Tryz.prog 200 #[.int .i64 s, .int .i64 g, .string t] w fun e w' => ∃ A c, e = .returned (.slice A ((t.size + 3) / 4) c) ∧ w'.ownsRow w.heap.size 118 3 (.slice A ((t.size + 3) / 4) c) ((t.size + 3) / 4) ((wordsL (slotAt s + g) t).flatMap encOp) ∧ Below w.heap.size w w' := by
  have bs := Lib.hid (fun W : World => base_c s W h0 h1)
  obtain ⟨b1, b2⟩ := base_le h0 h1
  have b4 : baseN s % 96 = 0 := by unfold baseN; omega
  have wd := Lib.hid (fun W : World => words_c ((baseN s : Int) + g) t W (by omega) (by omega) (by omega))
  have hE := Lib.hid (show wordsL (slotAt s + g) t = wordsL ((baseN s : Int) + g) t from rfl)
  generalize wordsL ((baseN s : Int) + g) t = WL at *
  generalize baseN s = bn at *
  generalize (t.size + 3) / 4 = m at *
  go_enter Tryz.func200, Tryz.ntmps200
  go_wp2_with (first | (go_at_call 207; with_reducible refine (bs.out _).mono ?_; rintro e w' ⟨rfl, rfl⟩) | (go_at_call 216; (with_reducible refine (wd.out _).mono ?_); rintro e w6 ⟨A6, c6, rfl, hown6, hb⟩) | fail)
  go_ret
  exact ⟨A6, c6, rfl, by rw [hE.out]; exact hown6, hb⟩
end Go.Proofs.YtalgfekpcklijaaGreat.Dv

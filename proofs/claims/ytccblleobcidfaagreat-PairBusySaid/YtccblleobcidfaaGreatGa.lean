/- Texts laid as one: Dev Dew Dca. -/
import Derived.Test.YtccblleobcidfaaGreatGb
import Derived.Maps.AppendAt
/- Layer 16: devices: what the program's and the references' functions answer. -/
section
namespace Go.Proofs.YtccblleobcidfaaGreat.Dv
open Go.RowKit Go.Proofs.YtccblleobcidfaaGreat.Kt Go.Proofs.YtccblleobcidfaaGreat.Lw Go.Proofs.YtccblleobcidfaaGreat.St Go.Proofs.YtccblleobcidfaaGreat.Nm Go.Proofs.YtccblleobcidfaaGreat.Es Go.Proofs.YtccblleobcidfaaGreat.Sl Go.Proofs.YtccblleobcidfaaGreat.Ops
set_option linter.unusedVariables false
set_option linter.unusedSimpArgs false
theorem state_c (x : Int) (w : World) : Calls Tryz.prog 172 #[.int .i64 x] w fun e w' => e = .returned (.bool (rngB x 0 7)) ∧ w = w' := by
  go_enter Tryz.func172, Tryz.ntmps172
  go_wp2
  all_goals (go_ret; refine ⟨retB ?_, rfl⟩; rw [Bool.eq_iff_iff]; simp [rngB] <;> omega)
theorem status_c (x : Int) (w : World) : Calls Tryz.prog 173 #[.int .i64 x] w fun e w' => e = .returned (.bool (rngB x 0 6)) ∧ w = w' := by
  go_enter Tryz.func173, Tryz.ntmps173
  go_wp2
  all_goals (go_ret; refine ⟨retB ?_, rfl⟩; rw [Bool.eq_iff_iff]; simp [rngB] <;> omega)
theorem rstate_c (x : Int) (w : World) : Calls Tryz.prog 238 #[.int .i64 x] w fun e w' => e = .returned (.bool (rngB x 0 7)) ∧ w = w' := by
  go_enter Tryz.func238, Tryz.ntmps238
  go_wp2_with (first | (go_at_call 109; refine (upTo_c _ _ _ _).mono ?_; rintro e w' ⟨rfl, rfl⟩) | fail)
  go_ret
  exact ⟨by simp, rfl⟩
theorem rstatus_c (x : Int) (w : World) : Calls Tryz.prog 239 #[.int .i64 x] w fun e w' => e = .returned (.bool (rngB x 0 6)) ∧ w = w' := by
  go_enter Tryz.func239, Tryz.ntmps239
  go_wp2_with (first | (go_at_call 109; refine (upTo_c _ _ _ _).mono ?_; rintro e w' ⟨rfl, rfl⟩) | fail)
  go_ret
  exact ⟨by simp, rfl⟩
theorem in_c (x l m : Int) (w : World) : Calls Tryz.prog 152 #[.int .i64 x, .int .i64 l, .int .i64 m] w fun e w' => e = .returned (.bool (rngB x l m)) ∧ w = w' := by
  go_enter Tryz.func152, Tryz.ntmps152
  go_wp2
  all_goals (go_ret; refine ⟨retB ?_, rfl⟩; rw [Bool.eq_iff_iff]; simp [rngB] <;> omega)
theorem size_c (x : Int) (w : World) : Calls Tryz.prog 80 #[.int .i64 x] w fun e w' => e = .returned (.bool (rngB x 1 288)) ∧ w = w' := by
  go_enter Tryz.func80, Tryz.ntmps80
  go_wp2_with (first | (go_at_call 152; refine (in_c _ _ _ _).mono ?_; rintro e w' ⟨rfl, rfl⟩) | fail)
  go_ret
  exact ⟨by simp, rfl⟩
theorem slot_c (x : Int) (w : World) : Calls Tryz.prog 174 #[.int .i64 x] w fun e w' => e = .returned (.bool (rngB x 0 1)) ∧ w = w' := by
  go_enter Tryz.func174, Tryz.ntmps174
  go_wp2_with (first | (go_at_call 152; refine (in_c _ _ _ _).mono ?_; rintro e w' ⟨rfl, rfl⟩) | fail)
  go_ret
  exact ⟨by simp, rfl⟩
theorem upTo16_c (x l m : Int) (w : World) : Calls Tryz.prog 121 #[.int .i64 x, .int .i64 l, .int .i64 m] w fun e w' => e = .returned (.bool (rngB x l m)) ∧ w = w' := by
  go_enter Tryz.func121, Tryz.ntmps121
  go_wp2
  all_goals (go_ret; refine ⟨retB ?_, rfl⟩; rw [Bool.eq_iff_iff]; simp [rngB] <;> omega)
def devMay (s st nx g sl : Int) (xs : List OpV) : Bool := rngB s 0 7 && (rngB st 0 6 && (rngB nx 0 16 && (rngB g 0 288 && (rngB sl 0 1 && (decide ((xs.length : Int) ≤ 768) && !(xs.any (fun o => !opMay o)))))))
set_option maxHeartbeats 3200000 in
theorem devMay_c (s st nx g sl : Int) (A : Option Addr) (c n : Nat) (xs : List OpV) (w : World) (hl : Row w A xs) (hn : xs.length = n) :
    Calls Tryz.prog 104 #[.agg #[.int .i64 s, .int .i64 st, .int .i64 nx, .int .i64 g, .int .i64 sl, .slice A n c]] w fun e w' => e = .returned (.bool (devMay s st nx g sl xs)) ∧ Below w.heap.size w w' := by
  have HB := Below.refl w.heap.size w
  have K0 := fun cs => Blk.new w cs 28
  go_enter Tryz.func104, Tryz.ntmps104
  go_wp2_with (first | (go_at_call 172; refine (state_c _ _).mono ?_; rintro e w' ⟨rfl, rfl⟩) | (go_at_call 173; refine (status_c _ _).mono ?_; rintro e w' ⟨rfl, rfl⟩) | (go_at_call 80; refine (size_c _ _).mono ?_; rintro e w' ⟨rfl, rfl⟩) | (go_at_call 174; refine (slot_c _ _).mono ?_; rintro e w' ⟨rfl, rfl⟩) | (go_at_call 175; refine (odd_any _ _ _ _ _ (hl.below (bl_alloc (Below.refl _ _) _)) hn).mono ?_; rintro e w' ⟨rfl, hb⟩; have HB := bl_step zq4 hb; have K0 := Blk.below zq7 hb; obtain ⟨_, _, _, _, _, _, _, _, _, _⟩ := Blk.all6 K0) | fail)
  all_goals (go_ret; refine ⟨retB ?_, zq1⟩)
  all_goals (clear hl K0 HB; subst hn; simp only [devMay])
  all_goals (first | (simp_all [rngB]; done) | (simp_all [rngB]; omega))
set_option maxHeartbeats 3200000 in
theorem rdevMay_c (s st nx g sl : Int) (A : Option Addr) (c n : Nat) (xs : List OpV) (w : World) (hl : Row w A xs) (hn : xs.length = n) :
    Calls Tryz.prog 178 #[.agg #[.int .i64 s, .int .i64 st, .int .i64 nx, .int .i64 g, .int .i64 sl, .slice A n c]] w fun e w' => e = .returned (.bool (devMay s st nx g sl xs)) ∧ Below w.heap.size w w' := by
  have hb : n ≤ 9223372036854775807 := by rw [← hn]; exact hl.2.1
  have hrow : Aside (∀ (W : World), Below w.heap.size w W → Row W A xs) := fun W hW => hl.below hW
  clear hl
  have HB := Below.refl w.heap.size w
  have K0 := Blk.new w #[.int .i64 s, .int .i64 st, .int .i64 nx, .int .i64 g, .int .i64 sl, .slice A n c] 28
  go_enter Tryz.func178, Tryz.ntmps178
  go_wp2
  have HB1 := bl_alloc HB (.cells #[.int .i64 s, .int .i64 st, .int .i64 nx, .int .i64 g, .int .i64 sl, .slice A n c] 28)
  generalize w.alloc (.cells #[.int .i64 s, .int .i64 st, .int .i64 nx, .int .i64 g, .int .i64 sl, .slice A n c] 28) = w1 at *
  go_loopg [3] n (fun gg s3 wr => ∃ kk : Nat, kk ≤ n ∧ n - kk ≤ gg ∧ s3 = .int .i64 kk ∧ Aside (Below w.heap.size w wr) ∧ Aside (Blk wr w.heap.size #[.int .i64 s, .int .i64 st, .int .i64 nx, .int .i64 g, .int .i64 sl, .slice A n c] 28) ∧ Aside (∀ j x, j < kk → xs[j]? = some x → opMay x = true))
  case atStart => exact ⟨0, Nat.zero_le _, by omega, rfl, HB1, K0, fun j x hj => absurd hj (Nat.not_lt_zero _)⟩
  case round =>
    clear K0 HB1 w1
    obtain ⟨kk, hkk, hg, rfl, BW, BK, AA⟩ := hrel
    obtain ⟨_, _, _, _, _, _, _, _, _, _⟩ := Blk.all6 BK.out
    have HB := BW.out
    have K0 := BK.out
    by_cases hlt : kk < n
    · have hltz : (kk : Int) < (n : Int) := by omega
      obtain ⟨b, off, x, rfl, hbs, hx, hok, c0, c1, c2⟩ := (hrow.out wr BW.out).at_ (j := kk) (by omega)
      have hcall := rOpMay_c x wr hok
      have hx' : Aside (xs[kk]? = some x) := hx
      clear hx hok
      cases hq : opMay x with
      | false =>
        simp only [hq] at hcall
        have hq' : Aside (opMay x = false) := hq
        clear hq
        go_wp2_with (first | (go_at_call 231; refine hcall.mono ?_; rintro e w' ⟨rfl, hb'⟩) | fail)
        go_ret
        refine ⟨retB ?_, bl_step BW.out hb'⟩
        simp [devMay, any_hit hx'.out hq'.out]
      | true =>
        simp only [hq] at hcall
        have hq' : Aside (opMay x = true) := hq
        clear hq
        go_wp2_with (first | (go_at_call 231; refine hcall.mono ?_; rintro e w' ⟨rfl, hb'⟩) | fail)
        go_roundg (n - (kk + 1))
        case measure => omega
        case rel =>
          refine ⟨kk + 1, by omega, by omega, by go_num, bl_step BW.out hb', BK.out.below hb', (show Aside _ from fun j y hj hy => ?_)⟩
          by_cases e : j = kk
          · subst e
            rw [hx'.out] at hy
            cases hy
            exact hq'.out
          · exact AA.out j y (by omega) hy
    · have hltz : ¬ (kk : Int) < (n : Int) := by omega
      have : kk = n := by omega
      subst this
      have hany := any_miss (fun j x hj hx => AA.out j x (by omega) hx)
      clear AA
      go_wp2_with (first | (go_at_call 238; refine (rstate_c _ _).mono ?_; rintro e w' ⟨rfl, rfl⟩) | (go_at_call 239; refine (rstatus_c _ _).mono ?_; rintro e w' ⟨rfl, rfl⟩) | (go_at_call 121; refine (upTo16_c _ _ _ _).mono ?_; rintro e w' ⟨rfl, rfl⟩) | fail)
      all_goals (go_ret; refine ⟨retB ?_, BW.out⟩)
      all_goals (clear BW BK HB K0 hrow; simp only [devMay, hany])
      all_goals simp_all
end Go.Proofs.YtccblleobcidfaaGreat.Dv
end
/- Layer 16: devices: failing, copies, likeness. -/
section
namespace Go.Proofs.YtccblleobcidfaaGreat.Dv
open Go.RowKit Go.Proofs.YtccblleobcidfaaGreat.Kt Go.Proofs.YtccblleobcidfaaGreat.Lw Go.Proofs.YtccblleobcidfaaGreat.St Go.Proofs.YtccblleobcidfaaGreat.Nm Go.Proofs.YtccblleobcidfaaGreat.Es Go.Proofs.YtccblleobcidfaaGreat.Sl Go.Proofs.YtccblleobcidfaaGreat.Ops
set_option linter.unusedVariables false
set_option linter.unusedSimpArgs false
theorem op_info : (Tryz.prog.info? 183).map (fun i => (i.zero, i.size, i.bytes)) = some (some (.agg #[.bool false, .int .i64 0, .string ⟨#[]⟩]), 3, 32) := by kernel_rfl
theorem encOp_len (x : OpV) : (encOp x).length = 3 := rfl
theorem encOp_one (x : OpV) : ∀ u ∈ encOp x, u.oneCell' = true := by
  intro u hu
  simp [encOp] at hu
  rcases hu with rfl | rfl | rfl <;> rfl
def sameDev (s st nx g sl : Int) (xs : List OpV) (s' st' nx' g' sl' : Int) (ys : List OpV) : Bool := s == s' && (st == st' && (nx == nx' && (g == g' && (sl == sl' && decide (xs = ys)))))
theorem sameDev_refl (s st nx g sl : Int) (xs : List OpV) : sameDev s st nx g sl xs s st nx g sl xs = true := by simp [sameDev]
set_option maxHeartbeats 3200000 in
theorem sameDev_c (s st nx g sl s' st' nx' g' sl' : Int) (A B : Option Addr) (c d n n' : Nat) (xs ys : List OpV) (w : World) (hl : Row w A xs) (hr : Row w B ys) (hn : xs.length = n) (hn' : ys.length = n') :
    Calls Tryz.prog 46 #[.agg #[.int .i64 s, .int .i64 st, .int .i64 nx, .int .i64 g, .int .i64 sl, .slice A n c], .agg #[.int .i64 s', .int .i64 st', .int .i64 nx', .int .i64 g', .int .i64 sl', .slice B n' d]] w fun e w' => e = .returned (.bool (sameDev s st nx g sl xs s' st' nx' g' sl' ys)) ∧ Below w.heap.size w w' := by
  have HB := Below.refl w.heap.size w
  have K0 := fun cs => Blk.new w cs 28
  have K1 := fun cs0 cs => Blk.new1 w (.cells cs0 28) cs 28
  go_enter Tryz.func46, Tryz.ntmps46
  go_wp2_with (first | (go_at_call 75; refine (same_c _ _ _ _ _ _ _ _ _ (hl.below (bl_alloc (bl_alloc (Below.refl _ _) _) _)) (hr.below (bl_alloc (bl_alloc (Below.refl _ _) _) _)) hn hn').mono ?_; rintro e w' ⟨rfl, hb⟩; have HB := bl_step zq4 hb; have K0 := Blk.below zq7 hb; obtain ⟨_, _, _, _, _, _, _, _, _, _⟩ := Blk.all6 K0; have K1 := Blk.below zq16 hb; obtain ⟨_, _, _, _, _, _, _, _, _, _⟩ := Blk.all6 K1) | fail)
  all_goals (go_ret; refine ⟨retB ?_, zq1⟩; simp_all [sameDev])
theorem new_c (w : World) : Calls Tryz.prog 78 #[] w fun e w' => e = .returned (.agg #[.int .i64 0, .int .i64 0, .int .i64 0, .int .i64 0, .int .i64 0, .slice none 0 0]) ∧ Below w.heap.size w w' := by
  have HB := Below.refl w.heap.size w
  go_enter Tryz.func78, Tryz.ntmps78
  go_wp2
  exact bodyPost_ret (v := .agg #[.int .i64 0, .int .i64 0, .int .i64 0, .int .i64 0, .int .i64 0, .slice none 0 0]) (by simp [results, Tryz.results78, go_sem]) rfl ⟨rfl, zq1⟩
theorem failed_c (k : Int) (w : World) : Calls Tryz.prog 135 #[.int .i64 k] w fun e w' => e = .returned (.agg #[.int .i64 7, .int .i64 k, .int .i64 0, .int .i64 0, .int .i64 0, .slice none 0 0]) ∧ Below w.heap.size w w' := by
  have HB := Below.refl w.heap.size w
  have K0 := fun cs => Blk.new w cs 28
  go_enter Tryz.func135, Tryz.ntmps135
  go_wp2_with (first | (go_at_call 78; refine (new_c _).mono ?_; rintro e w' ⟨rfl, hb⟩; have HB := bl_step zq4 hb; have K0 := Blk.below zq7 hb; obtain ⟨_, _, _, _, _, _, _, _, _, _⟩ := Blk.all6 K0) | fail)
  exact bodyPost_ret (v := .agg #[.int .i64 7, .int .i64 k, .int .i64 0, .int .i64 0, .int .i64 0, .slice none 0 0]) (by simp [results, Tryz.results135, go_sem, *]) rfl ⟨rfl, zq1⟩
def failOk (may : Bool) (k : Int) : Bool := may && (rngB k 0 6 && !(k == 0))
theorem fail_no {k : Int} (h : failOk true k = false) : rngB k 0 6 = false ∨ (rngB k 0 6 = true ∧ k = 0) := by
  simp only [failOk, Bool.true_and] at h
  cases hr : rngB k 0 6
  · exact .inl rfl
  · rw [hr] at h
    exact .inr ⟨rfl, by simpa using h⟩
theorem sameR_c (s st nx g sl : Int) (A B : Option Addr) (c d n n' : Nat) (xs : List OpV) (w : World) (hl : Row w A xs) (hr : Row w B xs) (hn : xs.length = n) (hn' : xs.length = n') :
    Calls Tryz.prog 46 #[.agg #[.int .i64 s, .int .i64 st, .int .i64 nx, .int .i64 g, .int .i64 sl, .slice A n c], .agg #[.int .i64 s, .int .i64 st, .int .i64 nx, .int .i64 g, .int .i64 sl, .slice B n' d]] w fun e w' => e = .returned (.bool true) ∧ Below w.heap.size w w' :=
  (sameDev_c s st nx g sl s st nx g sl A B c d n n' xs xs w hl hr hn hn').mono fun e w' h => ⟨by rw [h.1, sameDev_refl], h.2⟩
theorem Row.none {w : World} {A : Option Addr} : Row w A [] := ⟨Lies.nil, by simp, fun o ho => by simp at ho⟩
end Go.Proofs.YtccblleobcidfaaGreat.Dv
end
/- Devices: the plain form; rows of steps of one's own; copies. -/
section
namespace Go.Proofs.YtccblleobcidfaaGreat.Dv
open Go.RowKit Go.Proofs.YtccblleobcidfaaGreat.Kt Go.Proofs.YtccblleobcidfaaGreat.Lw Go.Proofs.YtccblleobcidfaaGreat.St Go.Proofs.YtccblleobcidfaaGreat.Nm Go.Proofs.YtccblleobcidfaaGreat.Es Go.Proofs.YtccblleobcidfaaGreat.Sl Go.Proofs.YtccblleobcidfaaGreat.Gr Go.Proofs.YtccblleobcidfaaGreat.Ops Go.Proofs.YtccblleobcidfaaGreat.Pl
set_option linter.unusedVariables false
set_option linter.unusedSimpArgs false
/-- a device. -/
structure DS where
  st : Int
  su : Int
  nx : Int
  go : Int
  sl : Int
  ops : List OpV
def DS.may (d : DS) : Bool := devMay d.st d.su d.nx d.go d.sl d.ops
def DS.zero : DS := ⟨0, 0, 0, 0, 0, []⟩
def DS.fail (k : Int) : DS := ⟨7, k, 0, 0, 0, []⟩
theorem may_len {d : DS} (h : d.may = true) : d.ops.length ≤ 768 := by
  simp [DS.may, devMay] at h
  omega
theorem may_ops {d : DS} (h : d.may = true) : ∀ o ∈ d.ops, opMay o = true := by
  simp [DS.may, devMay] at h
  rintro ⟨b, a, t⟩ ho
  cases b
  · exact h.2.2.2.2.2.2.1 a t ho
  · exact h.2.2.2.2.2.2.2 a t ho
theorem may_nums {d : DS} (h : d.may = true) : (0 ≤ d.st ∧ d.st ≤ 7) ∧ (0 ≤ d.su ∧ d.su ≤ 6) ∧ (0 ≤ d.nx ∧ d.nx ≤ 16) ∧ (0 ≤ d.go ∧ d.go ≤ 288) ∧ (0 ≤ d.sl ∧ d.sl ≤ 1) := by
  simp [DS.may, devMay, rngB] at h
  exact ⟨h.1, h.2.1, h.2.2.1, h.2.2.2.1, h.2.2.2.2.1⟩
theorem own_at0 {W : World} {base k n c : Nat} {e : TypeId} {A : Option Addr} {cs : List Value} (h : W.ownsRow base e k (.slice A n c) n cs) (hn : 0 < n) : ∃ g, A = some ⟨g, 0, none⟩ ∧ base ≤ g := by
  rcases h.2 with ⟨_, h0⟩ | ⟨g, cap, cur, hv, hb, hg, hnc, hcm, _⟩
  · omega
  · injection hv with h1 h2 h3
    exact ⟨g, h1, hb⟩
/-- a row of steps in blocks from base on alone. -/
def Own (w : World) (base : Nat) (A : Option Addr) (xs : List OpV) : Prop := Row w A xs ∧ (xs = [] ∨ ∃ g off, A = some ⟨g, off, none⟩ ∧ base ≤ g ∧ g < w.heap.size ∧ ∀ j, w.frozen? ⟨g, off + j, none⟩ = false)
theorem Own.nil {w : World} {base : Nat} {A : Option Addr} : Own w base A [] := ⟨Row.none, .inl rfl⟩
theorem Own.below {w w' : World} {base : Nat} {A : Option Addr} {xs : List OpV} (h : Own w base A xs) (hb : Below w.heap.size w w') : Own w' base A xs := by
  refine ⟨h.1.below hb, ?_⟩
  rcases h.2 with h | ⟨g, off, rfl, h1, h2, h3⟩
  · exact .inl h
  · exact .inr ⟨g, off, rfl, h1, Nat.lt_of_lt_of_le h2 hb.size, fun j => (World.frozen?_of_block (a := ⟨g, off + j, none⟩) (hb.block g h2)).trans (h3 j)⟩
theorem Own.mono {w : World} {base base' : Nat} {A : Option Addr} {xs : List OpV} (h : Own w base A xs) (hb : base' ≤ base) : Own w base' A xs := by
  refine ⟨h.1, ?_⟩
  rcases h.2 with h | ⟨g, off, rfl, h1, h2⟩
  · exact .inl h
  · exact .inr ⟨g, off, rfl, Nat.le_trans hb h1, h2⟩
theorem own_of {w : World} {base n c : Nat} {A : Option Addr} {xs : List OpV} {T : TypeId} (h : w.ownsRow base T 3 (.slice A n c) n (xs.flatMap encOp)) (hn : xs.length = n) (hl : n ≤ 9223372036854775807) (ho : ∀ o ∈ xs, OpOk o) : Own w base A xs := by
  have hL := lies_own encOp_len h hn
  refine ⟨⟨hL, by omega, ho⟩, ?_⟩
  by_cases hx : xs = []
  · exact .inl hx
  · obtain ⟨g, off, rfl, hlt, _⟩ := hL.some_ hx
    have hn0 : 0 < n := by
      rw [← hn]
      exact List.length_pos_iff.2 hx
    obtain ⟨g', he, hb⟩ := own_at0 h hn0
    injection he with he
    injection he with h1 h2 _
    subst h1 h2
    exact .inr ⟨g, 0, rfl, hb, hlt, fun j => by rw [Nat.zero_add]; exact h.frozenAt j⟩
theorem Own.tail {w : World} {base : Nat} {A : Option Addr} {x : OpV} {xs : List OpV} {g off : Nat} (h : Own w base (some ⟨g, off, none⟩) (x :: xs)) : Own w base (some ⟨g, off + 3, none⟩) xs := by
  obtain ⟨⟨hL, hl, ho⟩, hw⟩ := h
  obtain ⟨b, off', he, hlt, hc⟩ := hL.some_ (by simp)
  injection he with he
  injection he with h1 h2 _
  subst h1 h2
  refine ⟨⟨.inr ⟨g, off + 3, rfl, hlt, fun j y hj i v hv => ?_⟩, by simp at hl; omega, fun o h => ho o (by simp [h])⟩, ?_⟩
  · have := hc (j + 1) y (by simpa using hj) i v hv
    rw [show off + (j + 1) * 3 + i = off + 3 + j * 3 + i by omega] at this
    exact this
  · rcases hw with h | ⟨g', off', he, h3, h4, h5⟩
    · cases h
    · injection he with he
      injection he with h1 h2 _
      subst h1 h2
      exact .inr ⟨g, off + 3, rfl, h3, h4, fun j => by rw [Nat.add_assoc]; exact h5 (3 + j)⟩
end Go.Proofs.YtccblleobcidfaaGreat.Dv
end

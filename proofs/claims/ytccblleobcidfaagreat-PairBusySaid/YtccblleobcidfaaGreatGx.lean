/- Texts laid as one: Suc Sud Sue Sfl Sfq Sfm. -/
import Derived.Test.YtccblleobcidfaaGreatGk
import Derived.Test.YtccblleobcidfaaGreatGn
import Derived.Test.YtccblleobcidfaaGreatGb
/- Layer 11: files: what the program's and the references' functions answer. -/
section
namespace Go.Proofs.YtccblleobcidfaaGreat.Sf
open Go.RowKit Go.Proofs.YtccblleobcidfaaGreat.Kt Go.Proofs.YtccblleobcidfaaGreat.Lw Go.Proofs.YtccblleobcidfaaGreat.St Go.Proofs.YtccblleobcidfaaGreat.Nm Go.Proofs.YtccblleobcidfaaGreat.Ic Go.Proofs.YtccblleobcidfaaGreat.Cr
set_option linter.unusedVariables false
set_option linter.unusedSimpArgs false
theorem in_c (x l m : Int) (w : World) : Calls Tryz.prog 152 #[.int .i64 x, .int .i64 l, .int .i64 m] w fun e w' => e = .returned (.bool (rngB x l m)) ∧ w = w' := by
  go_enter Tryz.func152, Tryz.ntmps152
  go_wp2
  all_goals (go_ret; refine ⟨retB ?_, rfl⟩; rw [Bool.eq_iff_iff]; simp [rngB] <;> omega)
theorem size_c (x : Int) (w : World) : Calls Tryz.prog 80 #[.int .i64 x] w fun e w' => e = .returned (.bool (rngB x 1 288)) ∧ w = w' := by
  go_enter Tryz.func80, Tryz.ntmps80
  go_wp2_with (first | (go_at_call 152; refine (in_c _ _ _ _).mono ?_; rintro e w' ⟨rfl, rfl⟩) | fail)
  go_ret
  exact ⟨by simp, rfl⟩
/-- what stands ahead of the sum. -/
def bodyB (s : ByteArray) (v p r : Int) : ByteArray := s ++ lowB r 2 ++ lowB p 2 ++ lowB v 2 ++ ⟨#[0, 1, 85, 70, 68, 16]⟩
theorem bodyB_size (s : ByteArray) (v p r : Int) : (bodyB s v p r).size = s.size + 12 := by
  simp only [bodyB, ByteArray.size_append, lowB_size]
  rfl
theorem low16 : lowB 16 1 = ⟨#[16]⟩ := by decide +kernel
theorem body_ref (s : ByteArray) (v p r : Int) : s ++ lowB r 2 ++ lowB p 2 ++ lowB v 2 ++ ⟨#[0, 1, 85, 70, 68]⟩ ++ lowB 16 1 = bodyB s v p r := by
  rw [low16, bodyB, ByteArray.append_assoc]
  rfl
def bldOk (s : ByteArray) (v p r : Int) : Bool := rngB s.size 1 288 && mayB v p r
def bldB (s : ByteArray) (v p r : Int) : ByteArray := bif bldOk s v p r then bodyB s v p r ++ lowB (crcB (bodyB s v p r)) 4 else ByteArray.empty
def bldE (s : ByteArray) (v p r : Int) : Int := bif bldOk s v p r then 0 else 1100
theorem rng_le {x : Nat} {l u : Int} (h : rngB (x : Int) l u = true) : (x : Int) ≤ u := by
  simp [rngB] at h
  exact h.2
set_option maxHeartbeats 1600000 in
theorem build_c (s : ByteArray) (v p r : Int) (w : World) (hs : s.size ≤ 9223372036854775807) : Calls Tryz.prog 65 #[.string s, .agg #[.int .i64 v, .int .i64 p, .int .i64 r]] w fun e w' => e = .returned (.tuple #[.string (bldB s v p r), .int .i64 (bldE s v p r)]) ∧ Below w.heap.size w w' := by
  have HB := Below.refl w.heap.size w
  have K0 := Blk.new w #[.int .i64 v, .int .i64 p, .int .i64 r] 25
  cases hr : rngB s.size 1 288
  · go_enter Tryz.func65, Tryz.ntmps65
    go_wp2_with (first | (go_at_call 80; refine (size_c _ _).mono ?_; rintro e w' ⟨rfl, rfl⟩) | fail)
    go_ret2
    exact ⟨by simp [bldB, bldE, bldOk, hr]; rfl, zq1⟩
  · cases hm : mayB v p r
    · go_enter Tryz.func65, Tryz.ntmps65
      go_wp2_with (first | (go_at_call 80; refine (size_c _ _).mono ?_; rintro e w' ⟨rfl, rfl⟩) | (go_at_call 77; refine (may_c _ _ _ _).mono ?_; rintro e w' ⟨rfl, hb⟩; have HB := bl_step zq4 hb; have K0 := Blk.below zq7 hb; obtain ⟨_, _, _, _, _, _, _⟩ := Blk.all3 K0) | fail)
      go_ret2
      exact ⟨by simp [bldB, bldE, bldOk, hr, hm]; rfl, HB⟩
    · have hz := rng_le hr
      go_enter Tryz.func65, Tryz.ntmps65
      go_wp2_with (first | (go_at_call 80; refine (size_c _ _).mono ?_; rintro e w' ⟨rfl, rfl⟩) | (go_at_call 77; refine (may_c _ _ _ _).mono ?_; rintro e w' ⟨rfl, hb⟩; have HB := bl_step zq4 hb; have K0 := Blk.below zq7 hb; obtain ⟨_, _, _, _, _, _, _⟩ := Blk.all3 K0) | fail)
      have HC : w'.cell? ⟨w.heap.size, 0, none⟩ = some (.int .i64 v) ∧ w'.cell? ⟨w.heap.size, 1, none⟩ = some (.int .i64 p) ∧ w'.cell? ⟨w.heap.size, 2, none⟩ = some (.int .i64 r) := ⟨K0.cell 0, K0.cell 1, K0.cell 2⟩
      have z1 := lowB_size v 2
      have z2 := lowB_size p 2
      have z3 := lowB_size r 2
      have z4 := lowB_size 16 1
      have z5 := bodyB_size s v p r
      have q1 : (9223372036854775807 < s.size + 2) = False := by simp; omega
      have q2 : (9223372036854775807 < s.size + 2 + 2) = False := by simp; omega
      have q3 : (9223372036854775807 < s.size + 2 + 2 + 2) = False := by simp; omega
      have q4 : (9223372036854775807 < s.size + 2 + 2 + 2 + 6) = False := by simp; omega
      have q5 : (9223372036854775807 < s.size + 2 + 2 + 2 + 5) = False := by simp; omega
      have q6 : (9223372036854775807 < s.size + 2 + 2 + 2 + 5 + 1) = False := by simp; omega
      have hbd : bldB s v p r = bodyB s v p r ++ lowB (crcB (bodyB s v p r)) 4 := by simp [bldB, bldOk, hr, hm]
      have hbe : bldE s v p r = 0 := by simp [bldE, bldOk, hr, hm]
      have hdef := Lib.hid (show s ++ lowB r 2 ++ lowB p 2 ++ lowB v 2 ++ ⟨#[0, 1, 85, 70, 68, 16]⟩ = bodyB s v p r from rfl)
      go_region_held3 (fun W => W.cell? ⟨w.heap.size, 0, none⟩ = some (.int .i64 v) ∧ W.cell? ⟨w.heap.size, 1, none⟩ = some (.int .i64 p) ∧ W.cell? ⟨w.heap.size, 2, none⟩ = some (.int .i64 r) ∧ Below w'.heap.size w' W) (first | (refine k3 HC ?_; (repeat (with_reducible first | exact Below.refl _ _ | (apply kz3; assumption) | apply bl_alloc | apply bl_drew | apply bl_drewN | (refine bl_setn ?_ (by apply kz3; assumption)) | (refine bl_step ?_ (by assumption)) | fail)); done) | fail) (first | (go_at_call 129; refine (low_c _ _ _ (by omega) (by omega)).mono ?_; rintro e wq ⟨rfl, hb⟩) | fail)
      rw [hdef.out]
      have z6 := lowB_size (crcB (bodyB s v p r)) 4
      have q7 : (9223372036854775807 < s.size + 12 + 4) = False := by simp; omega
      have hb := kz3 (w0 := w') (by assumption)
      have HB := bl_step zq4 hb
      clear z1 z2 z3 z4 q1 q2 q3 q4 q5 q6
      go_wp2_with (first | (go_at_call 82; refine (sum_c _ _ (by omega)).mono ?_; rintro e w' ⟨rfl, hb⟩; have HB := bl_step zq4 hb) | (go_at_call 129; refine (low_c _ _ _ (by omega) (by omega)).mono ?_; rintro e w' ⟨rfl, hb⟩; have HB := bl_step zq4 hb) | fail)
      go_ret2
      exact ⟨by rw [hbd, hbe]; rfl, zq1⟩
set_option maxHeartbeats 1600000 in
theorem rbuild_c (s : ByteArray) (v p r : Int) (w : World) (hs : s.size ≤ 9223372036854775807) : Calls Tryz.prog 47 #[.string s, .agg #[.int .i64 v, .int .i64 p, .int .i64 r]] w fun e w' => e = .returned (.tuple #[.string (bldB s v p r), .int .i64 (bldE s v p r)]) ∧ Below w.heap.size w w' := by
  have HB := Below.refl w.heap.size w
  have K0 := Blk.new w #[.int .i64 v, .int .i64 p, .int .i64 r] 25
  cases hr : rngB s.size 1 288
  · go_enter Tryz.func47, Tryz.ntmps47
    go_wp2_with (first | (go_at_call 109; refine (upTo_c _ _ _ _).mono ?_; rintro e w' ⟨rfl, rfl⟩) | fail)
    go_ret2
    exact ⟨by simp [bldB, bldE, bldOk, hr]; rfl, zq1⟩
  · cases hm : mayB v p r
    · go_enter Tryz.func47, Tryz.ntmps47
      go_wp2_with (first | (go_at_call 109; refine (upTo_c _ _ _ _).mono ?_; rintro e w' ⟨rfl, rfl⟩) | (go_at_call 103; refine (idsMay_c _ _ _ _).mono ?_; rintro e w' ⟨rfl, hb⟩; have HB := bl_step zq4 hb; have K0 := Blk.below zq7 hb; obtain ⟨_, _, _, _, _, _, _⟩ := Blk.all3 K0) | fail)
      go_ret2
      exact ⟨by simp [bldB, bldE, bldOk, hr, hm]; rfl, HB⟩
    · have hz := rng_le hr
      go_enter Tryz.func47, Tryz.ntmps47
      go_wp2_with (first | (go_at_call 109; refine (upTo_c _ _ _ _).mono ?_; rintro e w' ⟨rfl, rfl⟩) | (go_at_call 103; refine (idsMay_c _ _ _ _).mono ?_; rintro e w' ⟨rfl, hb⟩; have HB := bl_step zq4 hb; have K0 := Blk.below zq7 hb; obtain ⟨_, _, _, _, _, _, _⟩ := Blk.all3 K0) | fail)
      have HC : w'.cell? ⟨w.heap.size, 0, none⟩ = some (.int .i64 v) ∧ w'.cell? ⟨w.heap.size, 1, none⟩ = some (.int .i64 p) ∧ w'.cell? ⟨w.heap.size, 2, none⟩ = some (.int .i64 r) := ⟨K0.cell 0, K0.cell 1, K0.cell 2⟩
      have z1 := lowB_size v 2
      have z2 := lowB_size p 2
      have z3 := lowB_size r 2
      have z4 := lowB_size 16 1
      have z5 := bodyB_size s v p r
      have q1 : (9223372036854775807 < s.size + 2) = False := by simp; omega
      have q2 : (9223372036854775807 < s.size + 2 + 2) = False := by simp; omega
      have q3 : (9223372036854775807 < s.size + 2 + 2 + 2) = False := by simp; omega
      have q4 : (9223372036854775807 < s.size + 2 + 2 + 2 + 6) = False := by simp; omega
      have q5 : (9223372036854775807 < s.size + 2 + 2 + 2 + 5) = False := by simp; omega
      have q6 : (9223372036854775807 < s.size + 2 + 2 + 2 + 5 + 1) = False := by simp; omega
      have hbd : bldB s v p r = bodyB s v p r ++ lowB (crcB (bodyB s v p r)) 4 := by simp [bldB, bldOk, hr, hm]
      have hbe : bldE s v p r = 0 := by simp [bldE, bldOk, hr, hm]
      have hdef := Lib.hid (body_ref s v p r)
      go_region_held3 (fun W => W.cell? ⟨w.heap.size, 0, none⟩ = some (.int .i64 v) ∧ W.cell? ⟨w.heap.size, 1, none⟩ = some (.int .i64 p) ∧ W.cell? ⟨w.heap.size, 2, none⟩ = some (.int .i64 r) ∧ Below w'.heap.size w' W) (first | (refine k3 HC ?_; (repeat (with_reducible first | exact Below.refl _ _ | (apply kz3; assumption) | apply bl_alloc | apply bl_drew | apply bl_drewN | (refine bl_setn ?_ (by apply kz3; assumption)) | (refine bl_step ?_ (by assumption)) | fail)); done) | fail) (first | (go_at_call 110; refine (rlow_c _ _ _ (by omega) (by omega)).mono ?_; rintro e wq ⟨rfl, hb⟩) | fail)
      rw [hdef.out]
      have z6 := lowB_size (crcB (bodyB s v p r)) 4
      have q7 : (9223372036854775807 < s.size + 12 + 4) = False := by simp; omega
      have hb := kz3 (w0 := w') (by assumption)
      have HB := bl_step zq4 hb
      clear z1 z2 z3 z4 q1 q2 q3 q4 q5 q6
      go_wp2_with (first | (go_at_call 111; refine (rcrc_c _ _ (by omega)).mono ?_; rintro e w' ⟨rfl, rfl⟩) | (go_at_call 110; refine (rlow_c _ _ _ (by omega) (by omega)).mono ?_; rintro e w' ⟨rfl, hb⟩; have HB := bl_step zq4 hb) | fail)
      go_ret2
      exact ⟨by rw [hbd, hbe]; rfl, zq1⟩
end Go.Proofs.YtccblleobcidfaaGreat.Sf
end
/- Layer 11: files read: what the program's and the references' functions answer. -/
section
namespace Go.Proofs.YtccblleobcidfaaGreat.Sf
open Go.RowKit Go.Proofs.YtccblleobcidfaaGreat.Kt Go.Proofs.YtccblleobcidfaaGreat.Lw Go.Proofs.YtccblleobcidfaaGreat.St Go.Proofs.YtccblleobcidfaaGreat.Nm Go.Proofs.YtccblleobcidfaaGreat.Ic Go.Proofs.YtccblleobcidfaaGreat.Cr
set_option linter.unusedVariables false
set_option linter.unusedSimpArgs false
/-- has a text a suffix's form? -/
def parM (s : ByteArray) : Bool := (s.extract (s.size - 16 + 6) (s.size - 16 + 12)).toList == [0, 1, 85, 70, 68, 16]
def parF (s : ByteArray) : Bool := rngB ((s.size : Int) - 16) 1 288 && parM s
def parS (s : ByteArray) : Bool := numB (s.extract (s.size - 16 + 12) s.size) == crcB (s.extract 0 (s.size - 16 + 12))
def parOk (s : ByteArray) : Bool := parF s && parS s
def parE (s : ByteArray) : Int := bif parF s then (bif parS s then 0 else 1101) else 1100
def parB (s : ByteArray) : ByteArray := bif parOk s then s.extract 0 (s.size - 16) else ⟨#[]⟩
def parR (s : ByteArray) : Int := bif parOk s then numB (s.extract (s.size - 16) (s.size - 16 + 2)) else 0
def parP (s : ByteArray) : Int := bif parOk s then numB (s.extract (s.size - 16 + 2) (s.size - 16 + 4)) else 0
def parV (s : ByteArray) : Int := bif parOk s then numB (s.extract (s.size - 16 + 4) (s.size - 16 + 6)) else 0
set_option maxHeartbeats 1600000 in
theorem pid_c (s : ByteArray) (k : Nat) (i : Int) (bs bk : Nat) (w : World) (hk : s.size = k + 16) (hb : k ≤ 288) (hi : i = 0 ∨ i = 1 ∨ i = 2) (c0 : w.cell? ⟨bs, 0, none⟩ = some (.string s)) (c1 : w.cell? ⟨bk, 0, none⟩ = some (.int .i64 k)) :
    Calls Tryz.prog 83 #[.int .i64 i, .pointer (some ⟨bs, 0, none⟩), .pointer (some ⟨bk, 0, none⟩)] w fun e w' => e = .returned (.int .i64 (numB (s.extract (k + (2 * i).toNat) (k + (2 * (i + 1)).toNat)))) ∧ w = w' := by
  rcases hi with rfl | rfl | rfl
  · have z : (s.extract k (k + 2)).size ≤ 4 := by simp; omega
    go_enter Tryz.func83, Tryz.ntmps83
    go_wp2_with (first | (go_at_call 81; refine (num_c _ _ z).mono ?_; rintro e w' ⟨rfl, rfl⟩) | fail)
    go_ret
    exact ⟨rfl, rfl⟩
  · have z : (s.extract (k + 2) (k + 4)).size ≤ 4 := by simp; omega
    go_enter Tryz.func83, Tryz.ntmps83
    go_wp2_with (first | (go_at_call 81; refine (num_c _ _ z).mono ?_; rintro e w' ⟨rfl, rfl⟩) | fail)
    go_ret
    exact ⟨rfl, rfl⟩
  · have z : (s.extract (k + 4) (k + 6)).size ≤ 4 := by simp; omega
    go_enter Tryz.func83, Tryz.ntmps83
    go_wp2_with (first | (go_at_call 81; refine (num_c _ _ z).mono ?_; rintro e w' ⟨rfl, rfl⟩) | fail)
    go_ret
    exact ⟨rfl, rfl⟩
theorem far3 {W : World} {g b : Nat} {v0 v1 v2 u : Value} (hne : b ≠ g) (h : W.cell? ⟨b, 0, none⟩ = some u) : (((W.setCell ⟨g, 0, none⟩ v0).setCell ⟨g, 1, none⟩ v1).setCell ⟨g, 2, none⟩ v2).drew.cell? ⟨b, 0, none⟩ = some u := by
  show (((W.setCell ⟨g, 0, none⟩ v0).setCell ⟨g, 1, none⟩ v1).setCell ⟨g, 2, none⟩ v2).cell? ⟨b, 0, none⟩ = some u
  have e := fun (V : World) (i : Nat) (v : Value) => World.cell?_setCell_other V ⟨g, i, none⟩ ⟨b, 0, none⟩ v (fun h => hne (congrArg Addr.block h).symm)
  rw [e, e, e]
  exact h
def parV3 (s : ByteArray) : Value := .tuple #[.string (parB s), .agg #[.int .i64 (parV s), .int .i64 (parP s), .int .i64 (parR s)], .int .i64 (parE s)]
theorem parV3_form {s : ByteArray} (h : parF s = false) : parV3 s = .tuple #[.string ⟨#[]⟩, .agg #[.int .i64 0, .int .i64 0, .int .i64 0], .int .i64 1100] := by
  simp [parV3, parB, parV, parP, parR, parE, parOk, h]
theorem parV3_sum {s : ByteArray} (h : parF s = true) (h2 : parS s = false) : parV3 s = .tuple #[.string ⟨#[]⟩, .agg #[.int .i64 0, .int .i64 0, .int .i64 0], .int .i64 1101] := by
  simp [parV3, parB, parV, parP, parR, parE, parOk, h, h2]
theorem parV3_ok {s : ByteArray} {k : Nat} (hk : s.size = k + 16) (h : parF s = true) (h2 : parS s = true) : parV3 s = .tuple #[.string (s.extract 0 k), .agg #[.int .i64 (numB (s.extract (k + 4) (k + 6))), .int .i64 (numB (s.extract (k + 2) (k + 4))), .int .i64 (numB (s.extract k (k + 2)))], .int .i64 0] := by
  simp [parV3, parB, parV, parP, parR, parE, parOk, h, h2, hk]
set_option maxHeartbeats 1600000 in
theorem parse_c (s : ByteArray) (w : World) (hs : s.size ≤ 9223372036854775807) : Calls Tryz.prog 31 #[.string s] w fun e w' => e = .returned (parV3 s) ∧ Below w.heap.size w w' := by
  have HB := Below.refl w.heap.size w
  cases hr : rngB ((s.size : Int) - 16) 1 288
  · have hv := parV3_form (s := s) (by simp [parF, hr])
    go_enter Tryz.func31, Tryz.ntmps31
    go_wp2_with (first | (go_at_call 80; refine (size_c _ _).mono ?_; rintro e w' ⟨rfl, rfl⟩) | fail)
    exact bodyPost_ret (v := parV3 s) (by simp [results, Tryz.results31, go_sem, hv]) rfl ⟨rfl, zq1⟩
  · obtain ⟨k, hk⟩ : ∃ k, s.size = k + 16 := ⟨s.size - 16, by simp [rngB] at hr; omega⟩
    have hr' : rngB (k : Int) 1 288 = true := by rw [hk] at hr; rw [← hr]; congr 1; omega
    have hkb : k ≤ 288 := by simp [rngB] at hr'; omega
    cases hm : parM s
    · have hv := parV3_form (s := s) (by simp [parF, hr, hm])
      simp only [parM, hk, Nat.add_sub_cancel] at hm
      go_enter Tryz.func31, Tryz.ntmps31
      go_wp2_with (first | (go_at_call 80; refine (size_c _ _).mono ?_; rintro e w' ⟨rfl, rfl⟩) | fail)
      exact bodyPost_ret (v := parV3 s) (by simp [results, Tryz.results31, go_sem, hv]) rfl ⟨rfl, zq1⟩
    · have hf : parF s = true := by simp [parF, hr, hm]
      simp only [parM, hk, Nat.add_sub_cancel] at hm
      go_enter Tryz.func31, Tryz.ntmps31
      go_upto_region 5 with (first | (go_at_call 80; refine (size_c _ _).mono ?_; rintro e w' ⟨rfl, rfl⟩) | fail)
      have B3 := bl_alloc (bl_alloc (bl_alloc HB (.cells #[.string s] 9)) (.cells #[.int .i64 0, .int .i64 0, .int .i64 0] 25)) (.cells #[.int .i64 (k : Int)] 3)
      have L0 := ((Blk.new w #[.string s] 9).alloc (.cells #[.int .i64 0, .int .i64 0, .int .i64 0] 25)).alloc (.cells #[.int .i64 (k : Int)] 3)
      have L1 := (Blk.new1 w (.cells #[.string s] 9) #[.int .i64 0, .int .i64 0, .int .i64 0] 25).alloc (.cells #[.int .i64 (k : Int)] 3)
      have L2 : Blk _ (w.heap.size + 1 + 1) _ _ := Blk.new2 w (.cells #[.string s] 9) (.cells #[.int .i64 0, .int .i64 0, .int .i64 0] 25) #[.int .i64 (k : Int)] 3
      generalize ((w.alloc (.cells #[.string s] 9)).alloc (.cells #[.int .i64 0, .int .i64 0, .int .i64 0] 25)).alloc (.cells #[.int .i64 (k : Int)] 3) = w1 at *
      have HC : w1.cell? ⟨w.heap.size, 0, none⟩ = some (.string s) := L0.cell 0
      obtain ⟨m, hm12⟩ : ∃ m, m = k + 12 := ⟨_, rfl⟩
      have q : (k : Int) + 16 - 4 = (m : Int) := by omega
      rw [q]
      have z1 : (s.extract m s.size).size ≤ 4 := by simp; omega
      have z2 : (s.extract 0 m).size ≤ 9223372036854775807 := by simp; omega
      have g0 : (0 : Int) ≤ (m : Int) := by omega
      have g1 : (m : Int) ≤ (s.size : Int) := by omega
      have g2 : m ≤ s.size := by omega
      have hS : parS s = (numB (s.extract m s.size) == crcB (s.extract 0 m)) := by
        simp only [parS, hk, hm12, Nat.add_sub_cancel]
      have hk' := Lib.hid hk
      have hm' := Lib.hid hm12
      clear hk hm hr hr' q hm12
      go_region_held3 (fun W => W.cell? ⟨w.heap.size, 0, none⟩ = some (.string s) ∧ Below w1.heap.size w1 W) (first | (refine k1 HC ?_; (repeat (with_reducible first | exact Below.refl _ _ | (apply kz1; assumption) | apply bl_alloc | apply bl_drew | apply bl_drewN | (refine bl_setn ?_ (by apply kz1; assumption)) | (refine bl_step ?_ (by assumption)) | fail)); done) | fail) (first | (go_at_call 81; refine (num_c _ _ z1).mono ?_; rintro e w' ⟨rfl, rfl⟩) | (go_at_call 82; refine (sum_c _ _ z2).mono ?_; rintro e wq ⟨rfl, hb⟩) | fail)
      have hb := kz1 (w0 := w1) (by assumption)
      have HB := B3
      have HB := bl_step zq4 hb; have L0 := Blk.below (by repeat (with_reducible first | exact L0 | exact L0 _ | exact L0 _ _ | apply Blk.alloc | apply Blk.drew | apply Blk.drewN | fail)) hb; obtain ⟨_, _, _, _, _⟩ := Blk.all1 L0; have L1 := Blk.below (by repeat (with_reducible first | exact L1 | exact L1 _ | exact L1 _ _ | apply Blk.alloc | apply Blk.drew | apply Blk.drewN | fail)) hb; obtain ⟨_, _, _, _, _, _, _⟩ := Blk.all3 L1; have L2 := Blk.below (by repeat (with_reducible first | exact L2 | exact L2 _ | exact L2 _ _ | apply Blk.alloc | apply Blk.drew | apply Blk.drewN | fail)) hb; obtain ⟨_, _, _, _, _⟩ := Blk.all1 L2
      cases hp : parS s
      · have hv := parV3_sum hf hp
        rw [hS] at hp
        have hq : (numB (s.extract m s.size) != crcB (s.extract 0 m)) = true := by simp [bne, hp]
        go_wp2_with fail
        exact bodyPost_ret (v := parV3 s) (by simp [results, Tryz.results31, go_sem, hv, *]) rfl ⟨rfl, zq1⟩
      · have hv := parV3_ok hk'.out hf hp
        rw [hS] at hp
        have hq : (numB (s.extract m s.size) != crcB (s.extract 0 m)) = false := by simp [bne, hp]
        have c0 : wq.cell? ⟨w.heap.size, 0, none⟩ = some (.string s) := L0.cell 0
        have c1 : wq.cell? ⟨w.heap.size + 1 + 1, 0, none⟩ = some (.int .i64 k) := L2.cell 0
        have d0 : wq.drew.cell? ⟨w.heap.size, 0, none⟩ = some (.string s) := c0
        have d1 : wq.drew.cell? ⟨w.heap.size + 1 + 1, 0, none⟩ = some (.int .i64 k) := c1
        have g3 : (0 : Int) ≤ (k : Int) := by omega
        have g4 : (k : Int) ≤ (s.size : Int) := by have := hk'.out; omega
        have g5 : k ≤ s.size := by have := hk'.out; omega
        clear g0 g1 g2 hS z1 z2
        go_wp2_with fail
        go_region_held3 (fun W => W.cell? ⟨w.heap.size, 0, none⟩ = some (.string s) ∧ W.cell? ⟨w.heap.size + 1 + 1, 0, none⟩ = some (.int .i64 k) ∧ Below w.heap.size w W) (first | (refine ⟨?_, ?_, ?_⟩ <;> (first | exact c0 | exact c1 | exact far3 (by omega) c0 | exact far3 (by omega) c1 | exact zq1)) | fail) (first | (go_at_call 83; refine (pid_c s k _ _ _ _ hk'.out hkb (by simp) d0 d1).mono ?_; rintro e w' ⟨rfl, rfl⟩) | fail)
        go_wp2_with fail
        exact bodyPost_ret (v := parV3 s) (by simp [results, Tryz.results31, go_sem, hv, *]) rfl ⟨rfl, zq1⟩
end Go.Proofs.YtccblleobcidfaaGreat.Sf
end
/- Layer 11: files read: what the references' function answers. -/
section
namespace Go.Proofs.YtccblleobcidfaaGreat.Sf
open Go.RowKit Go.Proofs.YtccblleobcidfaaGreat.Kt Go.Proofs.YtccblleobcidfaaGreat.Lw Go.Proofs.YtccblleobcidfaaGreat.St Go.Proofs.YtccblleobcidfaaGreat.Nm Go.Proofs.YtccblleobcidfaaGreat.Ic Go.Proofs.YtccblleobcidfaaGreat.Cr
set_option linter.unusedVariables false
set_option linter.unusedSimpArgs false
theorem low_eq (x : Int) (t : ByteArray) (h0 : 0 ≤ x) (h1 : x < 4294967296) (ht : t.size = 4) : ((lowB x 4).toList == t.toList) = (numB t == x) := by
  rw [eqs, Bool.eq_iff_iff]
  simp only [decide_eq_true_eq, beq_iff_eq]
  constructor
  · rintro rfl
    rw [numB_lowB]
    omega
  · rintro rfl
    have := lowB_numB t
    rwa [ht] at this
set_option maxHeartbeats 1600000 in
theorem rparse_c (s : ByteArray) (w : World) (hs : s.size ≤ 9223372036854775807) : Calls Tryz.prog 161 #[.string s] w fun e w' => e = .returned (parV3 s) ∧ Below w.heap.size w w' := by
  have HB := Below.refl w.heap.size w
  cases hr : rngB ((s.size : Int) - 16) 1 288
  · have hv := parV3_form (s := s) (by simp [parF, hr])
    go_enter Tryz.func161, Tryz.ntmps161
    go_wp2_with (first | (go_at_call 109; refine (upTo_c _ _ _ _).mono ?_; rintro e w' ⟨rfl, rfl⟩) | fail)
    exact bodyPost_ret (v := parV3 s) (by simp [results, Tryz.results161, go_sem, hv]) rfl ⟨rfl, zq1⟩
  · obtain ⟨k, hk⟩ : ∃ k, s.size = k + 16 := ⟨s.size - 16, by simp [rngB] at hr; omega⟩
    have hr' : rngB (k : Int) 1 288 = true := by rw [hk] at hr; rw [← hr]; congr 1; omega
    have hkb : k ≤ 288 := by simp [rngB] at hr'; omega
    cases hm : parM s
    · have hv := parV3_form (s := s) (by simp [parF, hr, hm])
      simp only [parM, hk, Nat.add_sub_cancel] at hm
      go_enter Tryz.func161, Tryz.ntmps161
      go_wp2_with (first | (go_at_call 109; refine (upTo_c _ _ _ _).mono ?_; rintro e w' ⟨rfl, rfl⟩) | fail)
      exact bodyPost_ret (v := parV3 s) (by simp [results, Tryz.results161, go_sem, hv]) rfl ⟨rfl, zq1⟩
    · have hf : parF s = true := by simp [parF, hr, hm]
      simp only [parM, hk, Nat.add_sub_cancel] at hm
      go_enter Tryz.func161, Tryz.ntmps161
      go_upto_region 4 with (first | (go_at_call 109; refine (upTo_c _ _ _ _).mono ?_; rintro e w' ⟨rfl, rfl⟩) | fail)
      have B1 := bl_alloc HB (.cells #[.int .i64 0, .int .i64 0, .int .i64 0] 25)
      have L0 := Blk.new w #[.int .i64 0, .int .i64 0, .int .i64 0] 25
      generalize w.alloc (.cells #[.int .i64 0, .int .i64 0, .int .i64 0] 25) = w1 at *
      obtain ⟨m, hm12⟩ : ∃ m, m = k + 12 := ⟨_, rfl⟩
      have z2 : (s.extract 0 m).size ≤ 9223372036854775807 := by simp; omega
      have q : IntKind.i64.wrap ((k : Int) + 12) = (m : Int) := by rw [IntKind.wrap_i64]; omega
      have g0 : (0 : Int) ≤ (m : Int) := by omega
      have g1 : (m : Int) ≤ (s.size : Int) := by omega
      have g2 : m ≤ s.size := by omega
      have hcb := crcB_bd (s.extract 0 m)
      have hS : parS s = ((lowB (crcB (s.extract 0 m)) 4).toList == (s.extract m s.size).toList) := by
        rw [low_eq _ _ hcb.1 hcb.2 (by simp; omega)]
        simp only [parS, hk, hm12, Nat.add_sub_cancel]
      have hk' := Lib.hid hk
      have hm' := Lib.hid hm12
      clear hk hm hr hr' hm12 hcb
      cases hp : parS s
      · have hv := parV3_sum hf hp
        rw [hS] at hp
        have hn : ¬ (lowB (crcB (s.extract 0 m)) 4).toList = (s.extract m s.size).toList := by
          intro h
          rw [h] at hp
          simp at hp
        have hq : (!((lowB (crcB (s.extract 0 m)) 4).toList == (s.extract m s.size).toList)) = true := by rw [hp]; rfl
        clear hS
        go_region_held3 (fun W => Below w1.heap.size w1 W) (first | ((repeat (with_reducible first | exact Below.refl _ _ | assumption | apply bl_alloc | apply bl_drew | apply bl_drewN | (refine bl_setn ?_ (by assumption)) | (refine bl_step ?_ (by assumption)) | fail)); done) | fail) (first | (go_at_call 111; refine (rcrc_c _ _ z2).mono ?_; rintro e w' ⟨rfl, rfl⟩) | (go_at_call 110; refine (rlow_c _ _ _ (by omega) (by omega)).mono ?_; rintro e wq ⟨rfl, hb⟩) | fail)
        have hb : Below w1.heap.size w1 wq := (by assumption)
        have HB := B1
        have HB := bl_step zq4 hb; have L0 := Blk.below (by repeat (with_reducible first | exact L0 | exact L0 _ | exact L0 _ _ | apply Blk.alloc | apply Blk.drew | apply Blk.drewN | fail)) hb; obtain ⟨_, _, _, _, _, _, _⟩ := Blk.all3 L0
        go_wp2_with fail
        exact bodyPost_ret (v := parV3 s) (by simp [results, Tryz.results161, go_sem, hv, *]) rfl ⟨rfl, zq1⟩
      · have hv := parV3_ok hk'.out hf hp
        rw [hS] at hp
        have hq : (!((lowB (crcB (s.extract 0 m)) 4).toList == (s.extract m s.size).toList)) = false := by rw [hp]; rfl
        have hn : (lowB (crcB (s.extract 0 m)) 4).toList = (s.extract m s.size).toList := by simpa using hp
        go_region_held3 (fun W => Below w1.heap.size w1 W) (first | ((repeat (with_reducible first | exact Below.refl _ _ | assumption | apply bl_alloc | apply bl_drew | apply bl_drewN | (refine bl_setn ?_ (by assumption)) | (refine bl_step ?_ (by assumption)) | fail)); done) | fail) (first | (go_at_call 111; refine (rcrc_c _ _ z2).mono ?_; rintro e w' ⟨rfl, rfl⟩) | (go_at_call 110; refine (rlow_c _ _ _ (by omega) (by omega)).mono ?_; rintro e wq ⟨rfl, hb⟩) | fail)
        have hb : Below w1.heap.size w1 wq := (by assumption)
        have HB := B1
        have HB := bl_step zq4 hb; have L0 := Blk.below (by repeat (with_reducible first | exact L0 | exact L0 _ | exact L0 _ _ | apply Blk.alloc | apply Blk.drew | apply Blk.drewN | fail)) hb; obtain ⟨_, _, _, _, _, _, _⟩ := Blk.all3 L0
        obtain ⟨m2, e2⟩ : ∃ m2, m2 = k + 2 := ⟨_, rfl⟩
        obtain ⟨m4, e4⟩ : ∃ m4, m4 = k + 4 := ⟨_, rfl⟩
        obtain ⟨m6, e6⟩ : ∃ m6, m6 = k + 6 := ⟨_, rfl⟩
        rw [← e2, ← e4, ← e6] at hv
        have hk2 := hk'.out
        have y2 : (s.extract k m2).size ≤ 4 := by simp; omega
        have y4 : (s.extract m2 m4).size ≤ 4 := by simp; omega
        have y6 : (s.extract m4 m6).size ≤ 4 := by simp; omega
        have i0 : (0 : Int) ≤ (k : Int) := by omega
        have i1 : (k : Int) ≤ (m2 : Int) := by omega
        have i2 : (0 : Int) ≤ (m2 : Int) := by omega
        have i3 : (m2 : Int) ≤ (m4 : Int) := by omega
        have i4 : (0 : Int) ≤ (m4 : Int) := by omega
        have i5 : (m4 : Int) ≤ (m6 : Int) := by omega
        have j0 : (k : Int) ≤ (s.size : Int) := by omega
        have j2 : (m2 : Int) ≤ (s.size : Int) := by omega
        have j4 : (m4 : Int) ≤ (s.size : Int) := by omega
        have j6 : (m6 : Int) ≤ (s.size : Int) := by omega
        have n1 : k ≤ m2 := by omega
        have n3 : m2 ≤ m4 := by omega
        have n5 : m4 ≤ m6 := by omega
        have o0 : k ≤ s.size := by omega
        have o2 : m2 ≤ s.size := by omega
        have o4 : m4 ≤ s.size := by omega
        have o6 : m6 ≤ s.size := by omega
        have x2 : IntKind.i64.wrap ((k : Int) + 2) = (m2 : Int) := by rw [IntKind.wrap_i64]; omega
        have x4 : IntKind.i64.wrap ((k : Int) + 4) = (m4 : Int) := by rw [IntKind.wrap_i64]; omega
        have x6 : IntKind.i64.wrap ((k : Int) + 6) = (m6 : Int) := by rw [IntKind.wrap_i64]; omega
        clear hS z2 hk2 e2 e4 e6 g0 g1 g2
        have HV := Lib.hid hv
        clear hv
        go_wp2_with fail
        go_region_held3 (fun W => Below w.heap.size w W) (first | exact zq1 | fail) (first | (go_at_call 216; refine (of_c _ _ (by assumption)).mono ?_; rintro e w' ⟨rfl, rfl⟩) | fail)
        go_wp2_with fail
        exact bodyPost_ret (v := parV3 s) (by simp [results, Tryz.results161, go_sem, HV.out, *]) rfl ⟨rfl, zq1⟩
end Go.Proofs.YtccblleobcidfaaGreat.Sf
end
/- Layer 11: the laws' walks: awake, Suffixes. -/
section
namespace Go.Proofs.YtccblleobcidfaaGreat.Sf
open Go.RowKit Go.Proofs.YtccblleobcidfaaGreat.Kt Go.Proofs.YtccblleobcidfaaGreat.Lw Go.Proofs.YtccblleobcidfaaGreat.St Go.Proofs.YtccblleobcidfaaGreat.Nm Go.Proofs.YtccblleobcidfaaGreat.Ic Go.Proofs.YtccblleobcidfaaGreat.Cr Go.Proofs.YtccblleobcidfaaGreat.Es
set_option linter.unusedVariables false
set_option linter.unusedSimpArgs false
attribute [local go_sem high] eqIds
end Go.Proofs.YtccblleobcidfaaGreat.Sf
end
/- Layer 11: a file comes back; a text that is one is built as it stood: in plain Lean. -/
section
namespace Go.Proofs.YtccblleobcidfaaGreat.Sf
open Go.RowKit Go.Proofs.YtccblleobcidfaaGreat.Kt Go.Proofs.YtccblleobcidfaaGreat.Lw Go.Proofs.YtccblleobcidfaaGreat.St Go.Proofs.YtccblleobcidfaaGreat.Nm Go.Proofs.YtccblleobcidfaaGreat.Ic Go.Proofs.YtccblleobcidfaaGreat.Cr
set_option linter.unusedVariables false
set_option linter.unusedSimpArgs false
theorem len_data (A : ByteArray) : A.data.toList.length = A.size := by simp
theorem ext_pre (A B : ByteArray) (n : Nat) (h : A.size = n) : (A ++ B).extract 0 n = A := by
  subst h
  apply ext_data
  have hA := Nat.le_of_eq (len_data A)
  simp [ByteArray.data_extract, Array.toList_extract, List.extract, List.take_of_length_le hA]
theorem ext_suf (A B : ByteArray) (m n : Nat) (h : A.size = m) (h2 : m + B.size = n) : (A ++ B).extract m n = B := by
  subst h
  subst h2
  apply ext_data
  have hA := Nat.le_of_eq (len_data A)
  have hB := Nat.le_of_eq (len_data B)
  simp [ByteArray.data_extract, Array.toList_extract, List.extract, List.drop_of_length_le hA, List.take_of_length_le hB]
theorem ext_mid (A B C : ByteArray) (m n : Nat) (h : A.size = m) (h2 : m + B.size = n) : (A ++ B ++ C).extract m n = B := by
  subst h
  subst h2
  apply ext_data
  have hA := Nat.le_of_eq (len_data A)
  have hB := Nat.le_of_eq (len_data B)
  simp [ByteArray.data_extract, Array.toList_extract, List.extract, List.drop_of_length_le hA, List.take_of_length_le hB]
theorem bld_size {x : ByteArray} {v p r : Int} (h : bldOk x v p r = true) : (bldB x v p r).size = x.size + 16 := by
  simp only [bldB, h, cond_true, ByteArray.size_append, bodyB_size, lowB_size]
theorem bld_par {x : ByteArray} {v p r : Int} (h : bldOk x v p r = true) : parV3 (bldB x v p r) = .tuple #[.string x, .agg #[.int .i64 v, .int .i64 p, .int .i64 r], .int .i64 0] := by
  have hz := bld_size h
  have hb : rngB (x.size : Int) 1 288 = true ∧ mayB v p r = true := by simpa [bldOk] using h
  have hi : (0 ≤ v ∧ v ≤ 65535) ∧ (0 ≤ p ∧ p ≤ 65535) ∧ (0 ≤ r ∧ r ≤ 65535) := by simpa [mayB, rngB] using hb.2
  have eF : bldB x v p r = bodyB x v p r ++ lowB (crcB (bodyB x v p r)) 4 := by simp [bldB, h]
  have zr := lowB_size r 2
  have zp := lowB_size p 2
  have zv := lowB_size v 2
  have zc := lowB_size (crcB (bodyB x v p r)) 4
  have zb := bodyB_size x v p r
  have s1 : (x ++ lowB r 2).size = x.size + 2 := by rw [ByteArray.size_append, zr]
  have s2 : (x ++ lowB r 2 ++ lowB p 2).size = x.size + 4 := by rw [ByteArray.size_append, s1, zp]
  have s3 : (x ++ lowB r 2 ++ lowB p 2 ++ lowB v 2).size = x.size + 6 := by rw [ByteArray.size_append, s2, zv]
  have e0 : (bldB x v p r).extract 0 x.size = x := by
    rw [eF, bodyB]
    simp only [ByteArray.append_assoc]
    exact ext_pre _ _ _ rfl
  have e1 : (bldB x v p r).extract x.size (x.size + 2) = lowB r 2 := by
    rw [eF, bodyB]
    have : x ++ lowB r 2 ++ lowB p 2 ++ lowB v 2 ++ ⟨#[0, 1, 85, 70, 68, 16]⟩ ++ lowB (crcB (x ++ lowB r 2 ++ lowB p 2 ++ lowB v 2 ++ ⟨#[0, 1, 85, 70, 68, 16]⟩)) 4 = x ++ lowB r 2 ++ (lowB p 2 ++ (lowB v 2 ++ (⟨#[0, 1, 85, 70, 68, 16]⟩ ++ lowB (crcB (x ++ lowB r 2 ++ lowB p 2 ++ lowB v 2 ++ ⟨#[0, 1, 85, 70, 68, 16]⟩)) 4))) := by simp only [ByteArray.append_assoc]
    rw [this]
    exact ext_mid _ _ _ _ _ rfl (by rw [zr])
  have e2 : (bldB x v p r).extract (x.size + 2) (x.size + 4) = lowB p 2 := by
    rw [eF, bodyB]
    have : x ++ lowB r 2 ++ lowB p 2 ++ lowB v 2 ++ ⟨#[0, 1, 85, 70, 68, 16]⟩ ++ lowB (crcB (x ++ lowB r 2 ++ lowB p 2 ++ lowB v 2 ++ ⟨#[0, 1, 85, 70, 68, 16]⟩)) 4 = x ++ lowB r 2 ++ lowB p 2 ++ (lowB v 2 ++ (⟨#[0, 1, 85, 70, 68, 16]⟩ ++ lowB (crcB (x ++ lowB r 2 ++ lowB p 2 ++ lowB v 2 ++ ⟨#[0, 1, 85, 70, 68, 16]⟩)) 4)) := by simp only [ByteArray.append_assoc]
    rw [this]
    exact ext_mid _ _ _ _ _ s1 (by rw [zp])
  have e3 : (bldB x v p r).extract (x.size + 4) (x.size + 6) = lowB v 2 := by
    rw [eF, bodyB]
    have : x ++ lowB r 2 ++ lowB p 2 ++ lowB v 2 ++ ⟨#[0, 1, 85, 70, 68, 16]⟩ ++ lowB (crcB (x ++ lowB r 2 ++ lowB p 2 ++ lowB v 2 ++ ⟨#[0, 1, 85, 70, 68, 16]⟩)) 4 = x ++ lowB r 2 ++ lowB p 2 ++ lowB v 2 ++ (⟨#[0, 1, 85, 70, 68, 16]⟩ ++ lowB (crcB (x ++ lowB r 2 ++ lowB p 2 ++ lowB v 2 ++ ⟨#[0, 1, 85, 70, 68, 16]⟩)) 4) := by simp only [ByteArray.append_assoc]
    rw [this]
    exact ext_mid _ _ _ _ _ s2 (by rw [zv])
  have e4 : (bldB x v p r).extract (x.size + 6) (x.size + 12) = ⟨#[0, 1, 85, 70, 68, 16]⟩ := by
    rw [eF]
    exact ext_mid _ _ _ _ _ s3 rfl
  have e5 : (bldB x v p r).extract 0 (x.size + 12) = bodyB x v p r := by
    rw [eF]
    exact ext_pre _ _ _ zb
  have e6 : (bldB x v p r).extract (x.size + 12) (x.size + 16) = lowB (crcB (bodyB x v p r)) 4 := by
    rw [eF]
    exact ext_suf _ _ _ _ zb (by rw [zc])
  have hc := crcB_bd (bodyB x v p r)
  have hf : parF (bldB x v p r) = true := by
    have hm : parM (bldB x v p r) = true := by
      simp only [parM, hz, Nat.add_sub_cancel, e4]
      decide +kernel
    have hr : rngB (((x.size + 16 : Nat) : Int) - 16) 1 288 = true := by rw [← hb.1]; congr 1; omega
    simp [parF, hz, hm, hb.1]
  have hS : parS (bldB x v p r) = true := by
    simp only [parS, hz, Nat.add_sub_cancel, e5, e6, numB_lowB]
    rw [beq_iff_eq]
    omega
  rw [parV3_ok hz hf hS, e0, e1, e2, e3, numB_lowB, numB_lowB, numB_lowB]
  rw [show v % 256 ^ 2 = v by omega, show p % 256 ^ 2 = p by omega, show r % 256 ^ 2 = r by omega]
theorem par_e {s : ByteArray} : parE s = 0 ↔ parOk s = true := by
  unfold parE parOk
  cases parF s <;> cases parS s <;> simp
theorem par_size {s : ByteArray} (h : parOk s = true) : 17 ≤ s.size ∧ s.size ≤ 304 ∧ (parB s).size + 16 = s.size := by
  have hf : rngB ((s.size : Int) - 16) 1 288 = true := by simp [parOk, parF] at h; exact h.1.1
  simp [rngB] at hf
  refine ⟨by omega, by omega, ?_⟩
  simp [parB, h]
  omega
end Go.Proofs.YtccblleobcidfaaGreat.Sf
end
/- Layer 11: the laws' walks: SuffixBack, SuffixUnlike, SuffixCut. -/
section
namespace Go.Proofs.YtccblleobcidfaaGreat.Sf
open Go.RowKit Go.Proofs.YtccblleobcidfaaGreat.Kt Go.Proofs.YtccblleobcidfaaGreat.Lw Go.Proofs.YtccblleobcidfaaGreat.St Go.Proofs.YtccblleobcidfaaGreat.Nm Go.Proofs.YtccblleobcidfaaGreat.Ic Go.Proofs.YtccblleobcidfaaGreat.Cr Go.Proofs.YtccblleobcidfaaGreat.Es
set_option linter.unusedVariables false
set_option linter.unusedSimpArgs false
attribute [local go_sem high] eqIds
theorem par_no {s : ByteArray} (h : parOk s = false) : parV3 s = .tuple #[.string ⟨#[]⟩, .agg #[.int .i64 0, .int .i64 0, .int .i64 0], .int .i64 1100] ∨ parV3 s = .tuple #[.string ⟨#[]⟩, .agg #[.int .i64 0, .int .i64 0, .int .i64 0], .int .i64 1101] := by
  cases hf : parF s
  · exact .inl (parV3_form hf)
  · cases hS : parS s
    · exact .inr (parV3_sum hf hS)
    · simp [parOk, hf, hS] at h
theorem par_yes {s : ByteArray} (h : parOk s = true) : parV3 s = .tuple #[.string (parB s), .agg #[.int .i64 (parV s), .int .i64 (parP s), .int .i64 (parR s)], .int .i64 0] := by
  have e : parE s = 0 := par_e.2 h
  simp [parV3, e]
theorem bld_zero {x : ByteArray} {v p r : Int} (h : bldOk x v p r = true) : bldE x v p r = 0 := by simp [bldE, h]
-- left out: back_w
end Go.Proofs.YtccblleobcidfaaGreat.Sf
end

/- Layer 11: files: what the program's and the references' functions answer. -/
import Derived.Test.YthoonffbadhplaaCrc
import Derived.Test.YthoonffbadhplaaIdc
namespace Go.Proofs.Ythoonffbadhplaa.Sf
open Go.RowKit Go.Proofs.Ythoonffbadhplaa.Kt Go.Proofs.Ythoonffbadhplaa.Lw Go.Proofs.Ythoonffbadhplaa.St Go.Proofs.Ythoonffbadhplaa.Nm Go.Proofs.Ythoonffbadhplaa.Ic Go.Proofs.Ythoonffbadhplaa.Cr
set_option linter.unusedVariables false
set_option linter.unusedSimpArgs false
-- left out: in_c
-- left out: size_c
/-- what stands ahead of the sum. -/
def bodyB (s : ByteArray) (v p r : Int) : ByteArray := s ++ lowB r 2 ++ lowB p 2 ++ lowB v 2 ++ ⟨#[0, 1, 85, 70, 68, 16]⟩
theorem bodyB_size (s : ByteArray) (v p r : Int) : (bodyB s v p r).size = s.size + 12 := by
  simp only [bodyB, ByteArray.size_append, lowB_size]
  rfl
theorem low16 : lowB 16 1 = ⟨#[16]⟩ := by decide +kernel
theorem body_ref (s : ByteArray) (v p r : Int) : s ++ lowB r 2 ++ lowB p 2 ++ lowB v 2 ++ ⟨#[0, 1, 85, 70, 68]⟩ ++ lowB 16 1 = bodyB s v p r := by
  rw [low16, bodyB, ByteArray.append_assoc]
  rfl
def bldOk (s : ByteArray) (v p r : Int) : Bool := rngB s.size 1 288 && mayB v p r
def bldB (s : ByteArray) (v p r : Int) : ByteArray := bif bldOk s v p r then bodyB s v p r ++ lowB (crcB (bodyB s v p r)) 4 else ByteArray.empty
def bldE (s : ByteArray) (v p r : Int) : Int := bif bldOk s v p r then 0 else 1100
theorem rng_le {x : Nat} {l u : Int} (h : rngB (x : Int) l u = true) : (x : Int) ≤ u := by
  simp [rngB] at h
  exact h.2
-- left out: build_c
set_option maxHeartbeats 1600000 in
theorem rbuild_c (s : ByteArray) (v p r : Int) (w : World) (hs : s.size ≤ 9223372036854775807) : Calls Try.prog 35 #[.string s, .agg #[.int .i64 v, .int .i64 p, .int .i64 r]] w fun e w' => e = .returned (.tuple #[.string (bldB s v p r), .int .i64 (bldE s v p r)]) ∧ Below w.heap.size w w' := by
  have HB := Below.refl w.heap.size w
  have K0 := Blk.new w #[.int .i64 v, .int .i64 p, .int .i64 r] 61
  cases hr : rngB s.size 1 288
  · go_enter Try.func35, Try.ntmps35
    go_wp2_with (first | (go_at_call 51; refine (upTo_c _ _ _ _).mono ?_; rintro e w' ⟨rfl, rfl⟩) | fail)
    go_ret2
    exact ⟨by simp [bldB, bldE, bldOk, hr]; rfl, (by repeat (with_reducible first | exact Below.refl _ _ | assumption | (refine bl_set ?_ (by omega)) | apply bl_alloc | apply bl_drewN | apply bl_drew | (refine bl_step ?_ (by assumption)) | fail))⟩
  · cases hm : mayB v p r
    · go_enter Try.func35, Try.ntmps35
      go_wp2_with (first | (go_at_call 51; refine (upTo_c _ _ _ _).mono ?_; rintro e w' ⟨rfl, rfl⟩) | (go_at_call 52; refine (idsMay_c _ _ _ _).mono ?_; rintro e w' ⟨rfl, hb⟩; have HB := bl_step (by repeat (with_reducible first | exact HB | apply bl_alloc | apply bl_drew | apply bl_drewN | fail)) hb; have K0 := Blk.below (by repeat (with_reducible first | exact K0 | exact K0 _ | exact K0 _ _ | apply Blk.alloc | apply Blk.drew | apply Blk.drewN | fail)) hb; obtain ⟨_, _, _, _, _, _, _⟩ := Blk.all3 K0) | fail)
      go_ret2
      exact ⟨by simp [bldB, bldE, bldOk, hr, hm]; rfl, HB⟩
    · have hz := rng_le hr
      go_enter Try.func35, Try.ntmps35
      go_wp2_with (first | (go_at_call 51; refine (upTo_c _ _ _ _).mono ?_; rintro e w' ⟨rfl, rfl⟩) | (go_at_call 52; refine (idsMay_c _ _ _ _).mono ?_; rintro e w' ⟨rfl, hb⟩; have HB := bl_step (by repeat (with_reducible first | exact HB | apply bl_alloc | apply bl_drew | apply bl_drewN | fail)) hb; have K0 := Blk.below (by repeat (with_reducible first | exact K0 | exact K0 _ | exact K0 _ _ | apply Blk.alloc | apply Blk.drew | apply Blk.drewN | fail)) hb; obtain ⟨_, _, _, _, _, _, _⟩ := Blk.all3 K0) | fail)
      have HC : w'.cell? ⟨w.heap.size, 0, none⟩ = some (.int .i64 v) ∧ w'.cell? ⟨w.heap.size, 1, none⟩ = some (.int .i64 p) ∧ w'.cell? ⟨w.heap.size, 2, none⟩ = some (.int .i64 r) := ⟨K0.cell 0, K0.cell 1, K0.cell 2⟩
      have z1 := lowB_size v 2
      have z2 := lowB_size p 2
      have z3 := lowB_size r 2
      have z4 := lowB_size 16 1
      have z5 := bodyB_size s v p r
      have q1 : (9223372036854775807 < s.size + 2) = False := by simp; omega
      have q2 : (9223372036854775807 < s.size + 2 + 2) = False := by simp; omega
      have q3 : (9223372036854775807 < s.size + 2 + 2 + 2) = False := by simp; omega
      have q4 : (9223372036854775807 < s.size + 2 + 2 + 2 + 6) = False := by simp; omega
      have q5 : (9223372036854775807 < s.size + 2 + 2 + 2 + 5) = False := by simp; omega
      have q6 : (9223372036854775807 < s.size + 2 + 2 + 2 + 5 + 1) = False := by simp; omega
      have hbd : bldB s v p r = bodyB s v p r ++ lowB (crcB (bodyB s v p r)) 4 := by simp [bldB, bldOk, hr, hm]
      have hbe : bldE s v p r = 0 := by simp [bldE, bldOk, hr, hm]
      have hdef := Lib.hid (body_ref s v p r)
      go_region_held3 (fun W => W.cell? ⟨w.heap.size, 0, none⟩ = some (.int .i64 v) ∧ W.cell? ⟨w.heap.size, 1, none⟩ = some (.int .i64 p) ∧ W.cell? ⟨w.heap.size, 2, none⟩ = some (.int .i64 r) ∧ Below w'.heap.size w' W) (first | (refine k3 HC ?_; (repeat (with_reducible first | exact Below.refl _ _ | (apply kz3; assumption) | apply bl_alloc | apply bl_drew | apply bl_drewN | (refine bl_setn ?_ (by apply kz3; assumption)) | (refine bl_step ?_ (by assumption)) | fail)); done) | fail) (first | (go_at_call 41; refine (rlow_c _ _ _ (by omega) (by omega)).mono ?_; rintro e wq ⟨rfl, hb⟩) | fail)
      rw [hdef.out]
      have z6 := lowB_size (crcB (bodyB s v p r)) 4
      have q7 : (9223372036854775807 < s.size + 12 + 4) = False := by simp; omega
      have hb := kz3 (w0 := w') (by assumption)
      have HB := bl_step (by repeat (with_reducible first | exact HB | apply bl_alloc | apply bl_drew | apply bl_drewN | fail)) hb
      clear z1 z2 z3 z4 q1 q2 q3 q4 q5 q6
      go_wp2_with (first | (go_at_call 53; refine (rcrc_c _ _ (by omega)).mono ?_; rintro e w' ⟨rfl, rfl⟩) | (go_at_call 41; refine (rlow_c _ _ _ (by omega) (by omega)).mono ?_; rintro e w' ⟨rfl, hb⟩; have HB := bl_step (by repeat (with_reducible first | exact HB | apply bl_alloc | apply bl_drew | apply bl_drewN | fail)) hb) | fail)
      go_ret2
      exact ⟨by rw [hbd, hbe]; rfl, (by repeat (with_reducible first | exact Below.refl _ _ | assumption | (refine bl_set ?_ (by omega)) | apply bl_alloc | apply bl_drewN | apply bl_drew | (refine bl_step ?_ (by assumption)) | fail))⟩
end Go.Proofs.Ythoonffbadhplaa.Sf

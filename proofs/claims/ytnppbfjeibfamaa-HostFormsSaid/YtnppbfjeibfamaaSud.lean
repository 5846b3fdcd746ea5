/- Layer 11: files read: what the program's and the references' functions answer. -/
import Derived.Test.YtnppbfjeibfamaaSuc
namespace Go.Proofs.Ytnppbfjeibfamaa.Sf
open Go.RowKit Go.Proofs.Ytnppbfjeibfamaa.Kt Go.Proofs.Ytnppbfjeibfamaa.Lw Go.Proofs.Ytnppbfjeibfamaa.St Go.Proofs.Ytnppbfjeibfamaa.Nm Go.Proofs.Ytnppbfjeibfamaa.Ic Go.Proofs.Ytnppbfjeibfamaa.Cr
set_option linter.unusedVariables false
set_option linter.unusedSimpArgs false
/-- has a text a suffix's form? -/
def parM (s : ByteArray) : Bool := (s.extract (s.size - 16 + 6) (s.size - 16 + 12)).toList == [0, 1, 85, 70, 68, 16]
def parF (s : ByteArray) : Bool := rngB ((s.size : Int) - 16) 1 288 && parM s
def parS (s : ByteArray) : Bool := numB (s.extract (s.size - 16 + 12) s.size) == crcB (s.extract 0 (s.size - 16 + 12))
def parOk (s : ByteArray) : Bool := parF s && parS s
def parE (s : ByteArray) : Int := bif parF s then (bif parS s then 0 else 1101) else 1100
def parB (s : ByteArray) : ByteArray := bif parOk s then s.extract 0 (s.size - 16) else ⟨#[]⟩
def parR (s : ByteArray) : Int := bif parOk s then numB (s.extract (s.size - 16) (s.size - 16 + 2)) else 0
def parP (s : ByteArray) : Int := bif parOk s then numB (s.extract (s.size - 16 + 2) (s.size - 16 + 4)) else 0
def parV (s : ByteArray) : Int := bif parOk s then numB (s.extract (s.size - 16 + 4) (s.size - 16 + 6)) else 0
set_option maxHeartbeats 1600000 in
theorem pid_c (s : ByteArray) (k : Nat) (i : Int) (bs bk : Nat) (w : World) (hk : s.size = k + 16) (hb : k ≤ 288) (hi : i = 0 ∨ i = 1 ∨ i = 2) (c0 : w.cell? ⟨bs, 0, none⟩ = some (.string s)) (c1 : w.cell? ⟨bk, 0, none⟩ = some (.int .i64 k)) :
    Calls Try.prog 40 #[.int .i64 i, .pointer (some ⟨bs, 0, none⟩), .pointer (some ⟨bk, 0, none⟩)] w fun e w' => e = .returned (.int .i64 (numB (s.extract (k + (2 * i).toNat) (k + (2 * (i + 1)).toNat)))) ∧ w = w' := by
  rcases hi with rfl | rfl | rfl
  · have z : (s.extract k (k + 2)).size ≤ 4 := by simp; omega
    go_enter Try.func40, Try.ntmps40
    go_wp2_with (first | (go_at_call 39; refine (num_c _ _ z).mono ?_; rintro e w' ⟨rfl, rfl⟩) | fail)
    go_ret
    exact ⟨rfl, rfl⟩
  · have z : (s.extract (k + 2) (k + 4)).size ≤ 4 := by simp; omega
    go_enter Try.func40, Try.ntmps40
    go_wp2_with (first | (go_at_call 39; refine (num_c _ _ z).mono ?_; rintro e w' ⟨rfl, rfl⟩) | fail)
    go_ret
    exact ⟨rfl, rfl⟩
  · have z : (s.extract (k + 4) (k + 6)).size ≤ 4 := by simp; omega
    go_enter Try.func40, Try.ntmps40
    go_wp2_with (first | (go_at_call 39; refine (num_c _ _ z).mono ?_; rintro e w' ⟨rfl, rfl⟩) | fail)
    go_ret
    exact ⟨rfl, rfl⟩
theorem far3 {W : World} {g b : Nat} {v0 v1 v2 u : Value} (hne : b ≠ g) (h : W.cell? ⟨b, 0, none⟩ = some u) : (((W.setCell ⟨g, 0, none⟩ v0).setCell ⟨g, 1, none⟩ v1).setCell ⟨g, 2, none⟩ v2).drew.cell? ⟨b, 0, none⟩ = some u := by
  show (((W.setCell ⟨g, 0, none⟩ v0).setCell ⟨g, 1, none⟩ v1).setCell ⟨g, 2, none⟩ v2).cell? ⟨b, 0, none⟩ = some u
  have e := fun (V : World) (i : Nat) (v : Value) => World.cell?_setCell_other V ⟨g, i, none⟩ ⟨b, 0, none⟩ v (fun h => hne (congrArg Addr.block h).symm)
  rw [e, e, e]
  exact h
def parV3 (s : ByteArray) : Value := .tuple #[.string (parB s), .agg #[.int .i64 (parV s), .int .i64 (parP s), .int .i64 (parR s)], .int .i64 (parE s)]
theorem parV3_form {s : ByteArray} (h : parF s = false) : parV3 s = .tuple #[.string ⟨#[]⟩, .agg #[.int .i64 0, .int .i64 0, .int .i64 0], .int .i64 1100] := by
  simp [parV3, parB, parV, parP, parR, parE, parOk, h]
theorem parV3_sum {s : ByteArray} (h : parF s = true) (h2 : parS s = false) : parV3 s = .tuple #[.string ⟨#[]⟩, .agg #[.int .i64 0, .int .i64 0, .int .i64 0], .int .i64 1101] := by
  simp [parV3, parB, parV, parP, parR, parE, parOk, h, h2]
theorem parV3_ok {s : ByteArray} {k : Nat} (hk : s.size = k + 16) (h : parF s = true) (h2 : parS s = true) : parV3 s = .tuple #[.string (s.extract 0 k), .agg #[.int .i64 (numB (s.extract (k + 4) (k + 6))), .int .i64 (numB (s.extract (k + 2) (k + 4))), .int .i64 (numB (s.extract k (k + 2)))], .int .i64 0] := by
  simp [parV3, parB, parV, parP, parR, parE, parOk, h, h2, hk]
set_option maxHeartbeats 1600000 in
theorem parse_c (s : ByteArray) (w : World) (hs : s.size ≤ 9223372036854775807) : Calls Try.prog 15 #[.string s] w fun e w' => e = .returned (parV3 s) ∧ Below w.heap.size w w' := by
  have HB := Below.refl w.heap.size w
  cases hr : rngB ((s.size : Int) - 16) 1 288
  · have hv := parV3_form (s := s) (by simp [parF, hr])
    go_enter Try.func15, Try.ntmps15
    go_wp2_with (first | (go_at_call 33; refine (size_c _ _).mono ?_; rintro e w' ⟨rfl, rfl⟩) | fail)
    exact bodyPost_ret (v := parV3 s) (by simp [results, Try.results15, go_sem, hv]) rfl ⟨rfl, (by repeat (with_reducible first | exact Below.refl _ _ | assumption | (refine bl_set ?_ (by omega)) | apply bl_alloc | apply bl_drewN | apply bl_drew | (refine bl_step ?_ (by assumption)) | fail))⟩
  · obtain ⟨k, hk⟩ : ∃ k, s.size = k + 16 := ⟨s.size - 16, by simp [rngB] at hr; omega⟩
    have hr' : rngB (k : Int) 1 288 = true := by rw [hk] at hr; rw [← hr]; congr 1; omega
    have hkb : k ≤ 288 := by simp [rngB] at hr'; omega
    cases hm : parM s
    · have hv := parV3_form (s := s) (by simp [parF, hr, hm])
      simp only [parM, hk, Nat.add_sub_cancel] at hm
      go_enter Try.func15, Try.ntmps15
      go_wp2_with (first | (go_at_call 33; refine (size_c _ _).mono ?_; rintro e w' ⟨rfl, rfl⟩) | fail)
      exact bodyPost_ret (v := parV3 s) (by simp [results, Try.results15, go_sem, hv]) rfl ⟨rfl, (by repeat (with_reducible first | exact Below.refl _ _ | assumption | (refine bl_set ?_ (by omega)) | apply bl_alloc | apply bl_drewN | apply bl_drew | (refine bl_step ?_ (by assumption)) | fail))⟩
    · have hf : parF s = true := by simp [parF, hr, hm]
      simp only [parM, hk, Nat.add_sub_cancel] at hm
      go_enter Try.func15, Try.ntmps15
      go_upto_region 5 with (first | (go_at_call 33; refine (size_c _ _).mono ?_; rintro e w' ⟨rfl, rfl⟩) | fail)
      have B3 := bl_alloc (bl_alloc (bl_alloc HB (.cells #[.string s] 9)) (.cells #[.int .i64 0, .int .i64 0, .int .i64 0] 23)) (.cells #[.int .i64 (k : Int)] 3)
      have L0 := ((Blk.new w #[.string s] 9).alloc (.cells #[.int .i64 0, .int .i64 0, .int .i64 0] 23)).alloc (.cells #[.int .i64 (k : Int)] 3)
      have L1 := (Blk.new1 w (.cells #[.string s] 9) #[.int .i64 0, .int .i64 0, .int .i64 0] 23).alloc (.cells #[.int .i64 (k : Int)] 3)
      have L2 : Blk _ (w.heap.size + 1 + 1) _ _ := Blk.new2 w (.cells #[.string s] 9) (.cells #[.int .i64 0, .int .i64 0, .int .i64 0] 23) #[.int .i64 (k : Int)] 3
      generalize ((w.alloc (.cells #[.string s] 9)).alloc (.cells #[.int .i64 0, .int .i64 0, .int .i64 0] 23)).alloc (.cells #[.int .i64 (k : Int)] 3) = w1 at *
      have HC : w1.cell? ⟨w.heap.size, 0, none⟩ = some (.string s) := L0.cell 0
      obtain ⟨m, hm12⟩ : ∃ m, m = k + 12 := ⟨_, rfl⟩
      have q : (k : Int) + 16 - 4 = (m : Int) := by omega
      rw [q]
      have z1 : (s.extract m s.size).size ≤ 4 := by simp; omega
      have z2 : (s.extract 0 m).size ≤ 9223372036854775807 := by simp; omega
      have g0 : (0 : Int) ≤ (m : Int) := by omega
      have g1 : (m : Int) ≤ (s.size : Int) := by omega
      have g2 : m ≤ s.size := by omega
      have hS : parS s = (numB (s.extract m s.size) == crcB (s.extract 0 m)) := by
        simp only [parS, hk, hm12, Nat.add_sub_cancel]
      have hk' := Lib.hid hk
      have hm' := Lib.hid hm12
      clear hk hm hr hr' q hm12
      go_region_held3 (fun W => W.cell? ⟨w.heap.size, 0, none⟩ = some (.string s) ∧ Below w1.heap.size w1 W) (first | (refine k1 HC ?_; (repeat (with_reducible first | exact Below.refl _ _ | (apply kz1; assumption) | apply bl_alloc | apply bl_drew | apply bl_drewN | (refine bl_setn ?_ (by apply kz1; assumption)) | (refine bl_step ?_ (by assumption)) | fail)); done) | fail) (first | (go_at_call 39; refine (num_c _ _ z1).mono ?_; rintro e w' ⟨rfl, rfl⟩) | (go_at_call 36; refine (sum_c _ _ z2).mono ?_; rintro e wq ⟨rfl, hb⟩) | fail)
      have hb := kz1 (w0 := w1) (by assumption)
      have HB := B3
      have HB := bl_step (by repeat (with_reducible first | exact HB | apply bl_alloc | apply bl_drew | apply bl_drewN | fail)) hb; have L0 := Blk.below (by repeat (with_reducible first | exact L0 | exact L0 _ | exact L0 _ _ | apply Blk.alloc | apply Blk.drew | apply Blk.drewN | fail)) hb; obtain ⟨_, _, _, _, _⟩ := Blk.all1 L0; have L1 := Blk.below (by repeat (with_reducible first | exact L1 | exact L1 _ | exact L1 _ _ | apply Blk.alloc | apply Blk.drew | apply Blk.drewN | fail)) hb; obtain ⟨_, _, _, _, _, _, _⟩ := Blk.all3 L1; have L2 := Blk.below (by repeat (with_reducible first | exact L2 | exact L2 _ | exact L2 _ _ | apply Blk.alloc | apply Blk.drew | apply Blk.drewN | fail)) hb; obtain ⟨_, _, _, _, _⟩ := Blk.all1 L2
      cases hp : parS s
      · have hv := parV3_sum hf hp
        rw [hS] at hp
        have hq : (numB (s.extract m s.size) != crcB (s.extract 0 m)) = true := by simp [bne, hp]
        go_wp2_with fail
        exact bodyPost_ret (v := parV3 s) (by simp [results, Try.results15, go_sem, hv, *]) rfl ⟨rfl, (by repeat (with_reducible first | exact Below.refl _ _ | assumption | (refine bl_set ?_ (by omega)) | apply bl_alloc | apply bl_drewN | apply bl_drew | (refine bl_step ?_ (by assumption)) | fail))⟩
      · have hv := parV3_ok hk'.out hf hp
        rw [hS] at hp
        have hq : (numB (s.extract m s.size) != crcB (s.extract 0 m)) = false := by simp [bne, hp]
        have c0 : wq.cell? ⟨w.heap.size, 0, none⟩ = some (.string s) := L0.cell 0
        have c1 : wq.cell? ⟨w.heap.size + 1 + 1, 0, none⟩ = some (.int .i64 k) := L2.cell 0
        have d0 : wq.drew.cell? ⟨w.heap.size, 0, none⟩ = some (.string s) := c0
        have d1 : wq.drew.cell? ⟨w.heap.size + 1 + 1, 0, none⟩ = some (.int .i64 k) := c1
        have g3 : (0 : Int) ≤ (k : Int) := by omega
        have g4 : (k : Int) ≤ (s.size : Int) := by have := hk'.out; omega
        have g5 : k ≤ s.size := by have := hk'.out; omega
        clear g0 g1 g2 hS z1 z2
        go_wp2_with fail
        go_region_held3 (fun W => W.cell? ⟨w.heap.size, 0, none⟩ = some (.string s) ∧ W.cell? ⟨w.heap.size + 1 + 1, 0, none⟩ = some (.int .i64 k) ∧ Below w.heap.size w W) (first | (refine ⟨?_, ?_, ?_⟩ <;> (first | exact c0 | exact c1 | exact far3 (by omega) c0 | exact far3 (by omega) c1 | exact (by repeat (with_reducible first | exact Below.refl _ _ | assumption | (refine bl_set ?_ (by omega)) | apply bl_alloc | apply bl_drewN | apply bl_drew | (refine bl_step ?_ (by assumption)) | fail)))) | fail) (first | (go_at_call 40; refine (pid_c s k _ _ _ _ hk'.out hkb (by simp) d0 d1).mono ?_; rintro e w' ⟨rfl, rfl⟩) | fail)
        go_wp2_with fail
        exact bodyPost_ret (v := parV3 s) (by simp [results, Try.results15, go_sem, hv, *]) rfl ⟨rfl, (by repeat (with_reducible first | exact Below.refl _ _ | assumption | (refine bl_set ?_ (by omega)) | apply bl_alloc | apply bl_drewN | apply bl_drew | (refine bl_step ?_ (by assumption)) | fail))⟩
end Go.Proofs.Ytnppbfjeibfamaa.Sf

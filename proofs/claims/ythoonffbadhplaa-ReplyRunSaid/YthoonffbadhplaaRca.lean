/- Layer 23: the law's host that carries so many bytes. -/
import Derived.Test.YthoonffbadhplaaHsv
namespace Go.Proofs.Ythoonffbadhplaa.Ho
open Go.RowKit Go.Proofs.Ythoonffbadhplaa.Kt Go.Proofs.Ythoonffbadhplaa.Lw Go.Proofs.Ythoonffbadhplaa.St Go.Proofs.Ythoonffbadhplaa.Nm Go.Proofs.Ythoonffbadhplaa.Ic Go.Proofs.Ythoonffbadhplaa.Sf
set_option linter.unusedVariables false
set_option linter.unusedSimpArgs false
/-- the bytes 0, 1, 2 .. -/
def cntL (n : Nat) : List Int := (List.range n).map fun (i : Nat) => ((i : Int) % 256)
def cntB (n : Nat) : ByteArray := strOfNums (cntL n)
theorem cnt_size (n : Nat) : (cntB n).size = n := by simp [cntB, cntL, strOfNums, ByteArray.size]
theorem cnt_succ (n : Nat) : cntB (n + 1) = cntB n ++ strOfNums [(n : Int) % 256] := by
  apply ext_data
  simp [cntB, cntL, strOfNums, List.range_succ]
theorem ids_c (w : World) : Calls Try.prog 36 #[] w fun e w' => e = .returned (.agg #[.int .i64 1155, .int .i64 57105, .int .i64 512]) ∧ Below w.heap.size w w' := by
  go_enter Try.func36, Try.ntmps36
  go_wp2
  exact bodyPost_ret (v := .agg #[.int .i64 1155, .int .i64 57105, .int .i64 512]) (by simp [results, Try.results36, go_sem]) rfl ⟨rfl, (by repeat (with_reducible first | exact Below.refl _ _ | assumption | (refine bl_set ?_ (by omega)) | apply bl_alloc | apply bl_drewN | apply bl_drew | (refine bl_step ?_ (by assumption)) | fail))⟩
theorem carried {n : Nat} (h0 : 1 ≤ n) (h1 : n ≤ 288) : bldE (cntB n) 1155 57105 512 = 0 ∧ startV (bldB (cntB n) 1155 57105 512) 1155 57105 512 = .tuple #[hostV 1 (cntB n) 0 false 0 ⟨#[]⟩ 0, .int .i64 0] ∧ (bldB (cntB n) 1155 57105 512).size ≤ 9223372036854775807 := by
  have hr : rngB (n : Int) 1 288 = true := by simp [rngB]; omega
  have hk : bldOk (cntB n) 1155 57105 512 = true := by
    simp only [bldOk, cnt_size, hr]
    decide
  have hp := bld_par hk
  have hz := bld_size hk
  rw [cnt_size] at hz
  generalize bldB (cntB n) 1155 57105 512 = F at *
  have hp' := hp
  simp only [parV3] at hp'
  injection hp' with hp'
  simp at hp'
  obtain ⟨g1, ⟨g2, g3, g4⟩, g5⟩ := hp'
  have ho : parOk F = true := par_e.1 g5
  refine ⟨bld_zero hk, ?_, by omega⟩
  have hm : mayB 1155 57105 512 = true := by decide
  have hh : hstOk F 1155 57105 512 = true := by
    simp only [hstOk, ho, g2, g3, g4]
    decide
  simp [startV, hm, hh, g1]
set_option maxHeartbeats 3200000 in
theorem carry_c (n : Nat) (w : World) (h0 : 1 ≤ n) (hn : n ≤ 288) : Calls Try.prog 14 #[.int .i64 n] w fun e w' => e = .returned (hostV 1 (cntB n) 0 false 0 ⟨#[]⟩ 0) ∧ Below w.heap.size w w' := by
  have HB := bl_alloc (Below.refl w.heap.size w) (.cells #[.int .i64 0, .string ⟨#[]⟩, .int .i64 0, .bool false, .int .i64 0, .string ⟨#[]⟩, .int .i64 0] 23)
  have K0 := Blk.new w #[.int .i64 0, .string ⟨#[]⟩, .int .i64 0, .bool false, .int .i64 0, .string ⟨#[]⟩, .int .i64 0] 23
  obtain ⟨f1, f2, f3⟩ := carried h0 hn
  have hcv := fun (W : World) (x : Int) => own_str (P := Try.prog) (xs := [x]) Try.underlying58 Try.underlying5 Try.underlying9 (World.ownsRow_lit (base := W.heap.size) (e := 5) (size := 1) W #[.int .u8 x] 1 (Nat.le_refl _) (by decide) rfl)
  go_enter Try.func14, Try.ntmps14
  go_wp2
  generalize w.alloc (.cells #[.int .i64 0, .string ⟨#[]⟩, .int .i64 0, .bool false, .int .i64 0, .string ⟨#[]⟩, .int .i64 0] 23) = w1 at *
  go_loopg [3, 4] n (fun gg s3 s4 wr => ∃ k : Nat, k ≤ n ∧ n - k ≤ gg ∧ s4 = .int .i64 k ∧ s3 = .string (cntB k) ∧ Aside (Below w.heap.size w wr) ∧ Aside (Blk wr w.heap.size #[.int .i64 0, .string ⟨#[]⟩, .int .i64 0, .bool false, .int .i64 0, .string ⟨#[]⟩, .int .i64 0] 23))
  case atStart => exact ⟨0, by omega, by omega, rfl, rfl, HB, K0⟩
  case round =>
    clear HB K0 w1
    obtain ⟨k, hk, hg, rfl, rfl, BW, BK⟩ := hrel
    by_cases hlt : k < n
    · have hz := cnt_size k
      have hs := Lib.hid (cnt_succ k)
      have hu : IntKind.u8.wrap (k : Int) = (k : Int) % 256 := by simp only [IntKind.wrap_u8]
      have h1 : (strOfNums [(k : Int) % 256]).size = 1 := rfl
      have q : (9223372036854775807 < k + 1) = False := by simp; omega
      go_wp2
      go_roundg (n - (k + 1))
      case measure => omega
      case rel => exact ⟨k + 1, by omega, by omega, by go_num, by rw [hs.out], bl_alloc BW.out _, Blk.alloc BK.out _⟩
    · obtain rfl : k = n := by omega
      have hz := cnt_size k
      have HB := BW.out
      have K0 := BK.out
      have s1 : (cntB k).size ≤ 9223372036854775807 := by omega
      clear hcv
      go_wp2_with (first | (go_at_call 36; refine (ids_c _).mono ?_; rintro e w' ⟨rfl, hb⟩; have HB := bl_step (by repeat (with_reducible first | exact HB | apply bl_alloc | apply bl_drew | apply bl_drewN | fail)) hb; have K0 := Blk.below (by repeat (with_reducible first | exact K0 | exact K0 _ | exact K0 _ _ | apply Blk.alloc | apply Blk.drew | apply Blk.drewN | fail)) hb; obtain ⟨_, _, _, _, _, _, _, _, _, _, _⟩ := Blk.all7 K0) | (go_at_call 35; refine (rbuild_c _ _ _ _ _ s1).mono ?_; rintro e w' ⟨rfl, hb⟩; have HB := bl_step (by repeat (with_reducible first | exact HB | apply bl_alloc | apply bl_drew | apply bl_drewN | fail)) hb; have K0 := Blk.below (by repeat (with_reducible first | exact K0 | exact K0 _ | exact K0 _ _ | apply Blk.alloc | apply Blk.drew | apply Blk.drewN | fail)) hb; obtain ⟨_, _, _, _, _, _, _, _, _, _, _⟩ := Blk.all7 K0) | (go_at_call 37; refine (rstart_c _ _ _ _ _ f3).mono ?_; rintro e w' ⟨rfl, hb⟩; have HB := bl_step (by repeat (with_reducible first | exact HB | apply bl_alloc | apply bl_drew | apply bl_drewN | fail)) hb; have K0 := Blk.below (by repeat (with_reducible first | exact K0 | exact K0 _ | exact K0 _ _ | apply Blk.alloc | apply Blk.drew | apply Blk.drewN | fail)) hb; obtain ⟨_, _, _, _, _, _, _, _, _, _, _⟩ := Blk.all7 K0) | fail)
      exact bodyPost_ret (v := hostV 1 (cntB k) 0 false 0 ⟨#[]⟩ 0) (by simp [results, Try.results14, go_sem, *]) rfl ⟨rfl, (by repeat (with_reducible first | exact Below.refl _ _ | assumption | (refine bl_set ?_ (by omega)) | apply bl_alloc | apply bl_drewN | apply bl_drew | (refine bl_step ?_ (by assumption)) | fail))⟩
end Go.Proofs.Ythoonffbadhplaa.Ho

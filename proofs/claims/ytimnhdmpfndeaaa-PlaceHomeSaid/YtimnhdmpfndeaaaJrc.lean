/- Layer 5: the first place that is free: what the program's and the references' functions answer. -/
import Derived.Test.YtimnhdmpfndeaaaJrb
import Derived.Test.YtimnhdmpfndeaaaShr
namespace Go.Proofs.Ytimnhdmpfndeaaa.Jr
open Go.RowKit Go.Proofs.Ytimnhdmpfndeaaa.Kt Go.Proofs.Ytimnhdmpfndeaaa.Lw Go.Proofs.Ytimnhdmpfndeaaa.St Go.Proofs.Ytimnhdmpfndeaaa.Nm Go.Proofs.Ytimnhdmpfndeaaa.By Go.Proofs.Ytimnhdmpfndeaaa.En Go.Proofs.Ytimnhdmpfndeaaa.Gr
set_option linter.unusedVariables false
set_option linter.unusedSimpArgs false
/-- so many bytes 255. -/
def fullB (k : Nat) : ByteArray := ⟨(List.replicate k 255).toArray⟩
theorem full_size (k : Nat) : (fullB k).size = k := by
  show (List.replicate k (255 : UInt8)).toArray.size = k
  simp
theorem rep_full : ∀ c : Nat, Lib.repeatL [(255 : UInt8)] c = List.replicate c 255
  | 0 => rfl
  | c + 1 => by
    have := rep_full c
    simp [Lib.repeatL, List.replicate_succ, this]
theorem repeat_c (c : Nat) (w : World) (h : c ≤ 1000000) : Calls Try.prog 64 #[.string ⟨#[255]⟩, .int .i64 c] w fun e w' => e = .returned (.string (fullB c)) ∧ Below w.heap.size w w' := by
  have h := Try.strings_Repeat ⟨#[255]⟩ c w (by omega) (by show 1 * c ≤ _; omega)
  rwa [show (⟨#[255]⟩ : ByteArray).data.toList = [255] from rfl, rep_full] at h
def fillL (k j : Nat) : List Int := List.replicate j 255 ++ List.replicate (k - j) 0
theorem fill_set (k j : Nat) (h : j < k) : (fillL k j).set j 255 = fillL k (j + 1) := by
  obtain ⟨m, hm⟩ : ∃ m, k - j = m + 1 := ⟨k - j - 1, by omega⟩
  have h2 : k - (j + 1) = m := by omega
  unfold fillL
  rw [hm, h2, List.set_append_right _ _ (by simp), List.length_replicate, Nat.sub_self, List.replicate_succ (n := m), List.set_cons_zero, List.replicate_succ' (n := j)]
  simp
theorem fill_done (k : Nat) : strOfNums (fillL k k) = fullB k := by
  apply ext_data
  simp [fillL, strOfNums, fullB]
set_option maxHeartbeats 1600000 in
theorem rfull_c (k : Nat) (hk : k ≤ 1000000) (w : World) : Calls Try.prog 49 #[.int .i64 k] w fun e w' => e = .returned (.string (fullB k)) ∧ Below w.heap.size w w' := by
  have hmk := make_row (P := Try.prog) 93 5 .u8 1 Try.underlying93 info5 (by decide) k (by omega)
  have hom := Lib.hid (own_made w w.heap.size 5 .u8 k (Nat.le_refl _) (by omega))
  go_enter Try.func49, Try.ntmps49
  go_wp2
  go_loopw [4] (fun i wr => ∃ j : Nat, j ≤ k ∧ i = .int .i64 j ∧ wr.ownsRow w.heap.size 5 1 (.slice (some ⟨w.heap.size, 0, none⟩) k k) k ((fillL k j).map (Value.int .u8)) ∧ Below w.heap.size w wr) (fun i _ => k - (intOf i).toNat)
  case atStart => exact ⟨0, by omega, rfl, by simpa [fillL] using hom.out, (Below.refl _ _).alloc (Nat.le_refl _) _⟩
  case round =>
    obtain ⟨j, hj, rfl, hown, hb⟩ := hrel
    have HO := Lib.hid hown
    clear hown hom hmk
    by_cases hlt : j < k
    · obtain ⟨hat1, hat2⟩ := own_at HO.out j hlt
      have hst := Lib.hid (own_store HO.out j 255)
      have hse := Lib.hid (fill_set k j hlt)
      go_wp2
      go_roundw
      case rel => exact ⟨j + 1, by omega, by go_num, by rw [← hse.out]; exact hst.out.1, hb.grown hst.out.2 hb.size (fun q hq => by cases hq; exact Nat.le_refl _)⟩
      case measure => simp [intOf]; omega
    · obtain rfl : j = k := by omega
      have hcv := own_str (P := Try.prog) Try.underlying93 Try.underlying5 Try.underlying9 HO.out
      rw [fill_done] at hcv
      go_wp2
      go_ret
      exact ⟨rfl, hb⟩
end Go.Proofs.Ytimnhdmpfndeaaa.Jr

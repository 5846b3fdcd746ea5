/- Layer 8: is a flash tame: the walk. -/
import Derived.Test.YtimnhdmpfndeaaaPlw
namespace Go.Proofs.Ytimnhdmpfndeaaa.Pl
open Go.RowKit Go.Proofs.Ytimnhdmpfndeaaa.Kt Go.Proofs.Ytimnhdmpfndeaaa.Lw Go.Proofs.Ytimnhdmpfndeaaa.St Go.Proofs.Ytimnhdmpfndeaaa.Nm Go.Proofs.Ytimnhdmpfndeaaa.By Go.Proofs.Ytimnhdmpfndeaaa.En Go.Proofs.Ytimnhdmpfndeaaa.Jr Go.Proofs.Ytimnhdmpfndeaaa.Im Go.Proofs.Ytimnhdmpfndeaaa.Sl Go.Proofs.Ytimnhdmpfndeaaa.Gr Go.Proofs.Ytimnhdmpfndeaaa.Ops Go.Proofs.Ytimnhdmpfndeaaa.Ch Go.Proofs.Ytimnhdmpfndeaaa.Fl
set_option linter.unusedVariables false
set_option linter.unusedSimpArgs false
theorem tame_no (f : ByteArray) (w : World) (h : f.size ≤ 9223372036854775807) (hf : ¬ f.size = 768) : Calls Try.prog 20 #[.string f] w fun e w' => e = .returned (.bool false) ∧ w = w' := by
  have hz : ((f.size : Int) == 768) = false := by simp; omega
  clear hf
  go_enter Try.func20, Try.ntmps20
  go_wp2
  go_loopg [3] 1 (fun gg s3 wr => s3 = .int .i64 0 ∧ w = wr)
  case atStart => exact ⟨rfl, rfl⟩
  case round =>
    obtain ⟨rfl, rfl⟩ := hrel
    go_wp2_with fail
    go_ret
    exact ⟨rfl, rfl⟩
set_option maxHeartbeats 3200000 in
theorem tame_yes (f : ByteArray) (w : World) (hf : f.size = 768) : Calls Try.prog 20 #[.string f] w fun e w' => (∃ b : Bool, e = .returned (.bool b) ∧ (b = true ↔ tameF f)) ∧ Below w.heap.size w w' := by
  have HF := Lib.hid hf
  have hfz : ((f.size : Int) == 768) = true := by simp; omega
  clear hf
  go_enter Try.func20, Try.ntmps20
  go_wp2
  go_loopg [3] 8 (fun gg s3 wr => ∃ i : Nat, i ≤ 8 ∧ 8 - i ≤ gg ∧ s3 = .int .i64 i ∧ Aside (Below w.heap.size w wr) ∧ Aside (∀ a b, a < i → b < 12 → orB (byt f (24 * a + b)) (byt f (24 * a + b + 12)) = 255))
  case atStart => exact ⟨0, by omega, by omega, rfl, Below.refl _ _, fun a b h => absurd h (by omega)⟩
  case round =>
    obtain ⟨i, hi, hg, rfl, BW, AA⟩ := hrel
    by_cases hlt : i < 8
    · have hlz : decide ((i : Int) < 8) = true := by simp; omega
      go_wp2_with fail
      go_loopg [4] 12 (fun gg2 s4 wr2 => ∃ k : Nat, 24 * i ≤ k ∧ k ≤ 24 * i + 12 ∧ 24 * i + 12 - k ≤ gg2 ∧ s4 = .int .i64 k ∧ Aside (Below w.heap.size w wr2) ∧ Aside (∀ a, 24 * i ≤ a → a < k → orB (byt f a) (byt f (a + 12)) = 255))
      case atStart => exact ⟨24 * i, by omega, by omega, by omega, vInt (by omega), BW, fun a h1 h2 => absurd h1 (by omega)⟩
      case round =>
        clear BW
        obtain ⟨k, hk0, hk, hg2, rfl, BW, CC⟩ := hrel
        have HB := BW.out
        clear BW
        by_cases hlk : k < 24 * i + 12
        · have hl1 : (k : Int) < 24 * (i : Int) + 12 := by omega
          have b1 : k < f.size := by have := HF.out; omega
          have b2 : (k : Int) < (f.size : Int) := by omega
          obtain ⟨n, hn⟩ : ∃ n, k + 12 = n := ⟨_, rfl⟩
          have b3 : n < f.size := by have := HF.out; omega
          have b4 : (n : Int) < (f.size : Int) := by omega
          have e0 := byt_at f k b1
          have e1 := byt_at f n b3
          have hb0 := byt_bd f k
          have hb1 := byt_bd f n
          have hkn : (k : Int) + 12 = (n : Int) := by omega
          have HN := Lib.hid hn
          clear hn
          by_cases ho : Go.bits .or .u8 (byt f k) (byt f n) = 255
          · have HO := Lib.hid ho
            go_upto_region 7 with fail
            refine wld_lit (by kernel_rfl) (by kernel_rfl) ?_
            repeat (go_big_quiet_step (first | fail))
            refine wpQuiet_nil ?_; refine Wld.elim ?_; intro w' hb; have HB := bl_step (w := w) (by repeat (with_reducible first | exact HB | (refine bl_set ?_ (by omega)) | apply bl_alloc | apply bl_drew | apply bl_drewN | fail)) hb; have hzB := HB.size
            go_wp2_with fail
            go_roundg (24 * i + 12 - (k + 1))
            case measure => omega
            case rel =>
              refine ⟨k + 1, by omega, by omega, by omega, by go_num, HB, (show Aside _ from fun a h1 h2 => ?_)⟩
              by_cases e : a = k
              · subst e
                rw [HN.out]
                exact HO.out
              · exact CC.out a h1 (by omega)
          · have hob : (Go.bits .or .u8 (byt f k) (byt f n) == 255) = false := by simpa using ho
            have HO := Lib.hid ho
            clear ho
            go_upto_region 7 with fail
            refine wld_lit (by kernel_rfl) (by kernel_rfl) ?_
            repeat (go_big_quiet_step (first | fail))
            refine wpQuiet_nil ?_; refine Wld.elim ?_; intro w' hb; have HB := bl_step (w := w) (by repeat (with_reducible first | exact HB | (refine bl_set ?_ (by omega)) | apply bl_alloc | apply bl_drew | apply bl_drewN | fail)) hb; have hzB := HB.size
            go_wp2_with fail
            go_ret
            refine ⟨⟨false, rfl, ?_⟩, HB⟩
            simp only [Bool.false_eq_true, false_iff]
            intro ht
            have := ht.2 i (k - 24 * i) hlt (by omega)
            rw [show 24 * i + (k - 24 * i) = k by omega, HN.out] at this
            exact HO.out this
        · obtain rfl : k = 24 * i + 12 := by omega
          have hl1 : ¬ (((24 * i + 12 : Nat) : Int) < 24 * (i : Int) + 12) := by omega
          go_wp2_with fail
          go_roundg (8 - (i + 1))
          case measure => omega
          case rel =>
            refine ⟨i + 1, by omega, by omega, by go_num, HB, (show Aside _ from fun a b h1 h2 => ?_)⟩
            by_cases e : a = i
            · subst e
              exact CC.out _ (by omega) (by omega)
            · exact AA.out a b (by omega) h2
    · obtain rfl : i = 8 := by omega
      have HB := BW.out
      go_wp2_with fail
      go_ret
      exact ⟨⟨true, rfl, by simp only [true_iff]; exact ⟨HF.out, fun a b h1 h2 => AA.out a b h1 h2⟩⟩, HB⟩
end Go.Proofs.Ytimnhdmpfndeaaa.Pl

/- Layer 10: pieces of an image: what the program's and the references' Split answer. -/
import Derived.Test.YtfnfnldndmkeeaaBkp
import Derived.Test.YtfnfnldndmkeeaaNum
import Derived.Test.YtfnfnldndmkeeaaWld
import Derived.Maps.AppendAt
import Derived.Deep.LoopGhost
namespace Go.Proofs.Ytfnfnldndmkeeaa.Bk
open Go.RowKit Go.Proofs.Ytfnfnldndmkeeaa.Kt Go.Proofs.Ytfnfnldndmkeeaa.Lw Go.Proofs.Ytfnfnldndmkeeaa.St Go.Proofs.Ytfnfnldndmkeeaa.Nm
set_option linter.unusedVariables false
set_option linter.unusedSimpArgs false
theorem info9 : (Try.prog.info? 9).map (fun i => (i.zero, i.size, i.bytes)) = some (some (.string ByteArray.empty), 1, 16) := by kernel_rfl
/-- an append onto one's own row. -/
theorem row_step {w wr w3 : World} {T : TypeId} {ao : Option Addr} {k cv : Nat} {v' : Value} {xs : List Value} {x : Value} {o : Obj} (h : wr.ownsRow w.heap.size T 1 (.slice ao k cv) k xs) (h' : w3.ownsRow w.heap.size T 1 v' (k + 1) (xs ++ [x]))
    (hg : (wr.alloc o).grownBy w3 (Value.slice ao k cv).ownBlock) (HB : Below w.heap.size w wr) : (∃ (ao' : Option Addr) (cv' : Nat), v' = .slice ao' (k + 1) cv') ∧ Below w.heap.size w w3 := by
  refine ⟨?_, (HB.alloc HB.size o).grown hg (by have := HB.size; simp; omega) (fun q hq => (h.lt q hq).1)⟩
  rcases h'.2 with ⟨_, h0⟩ | ⟨g3, cap3, _, h0, _⟩
  · omega
  · exact ⟨_, _, h0⟩
theorem esize_c (x : Int) (w : World) : Calls Try.prog 49 #[.int .i64 x] w fun e w' => e = .returned (.bool (rngB x 1 288)) ∧ w = w' := by
  go_enter Try.func49, Try.ntmps49
  go_wp2
  all_goals (go_ret; exact ⟨by simp [rngB]; omega, rfl⟩)
set_option maxHeartbeats 1600000 in
theorem split_no (s : ByteArray) (w : World) (hs : s.size ≤ 9223372036854775807) (h : rngB (s.size : Int) 1 288 = false) : Calls Try.prog 33 #[.string s] w fun e w' => e = .returned (.tuple #[.slice none 0 0, .int .i64 1000]) ∧ w = w' := by
  go_enter Try.func33, Try.ntmps33
  go_wp2_with (first | (go_at_call 49; with_reducible refine (esize_c _ _).mono ?_; rintro e w' ⟨rfl, rfl⟩) | fail)
  go_ret2
  exact ⟨rfl, rfl⟩
def splitY (s : ByteArray) (w : World) (e : Ending) (w' : World) : Prop := ∃ (A : Option Addr) (c : Nat), e = .returned (.tuple #[.slice A (manyN s) c, .int .i64 0]) ∧ w'.ownsRow w.heap.size 9 1 (.slice A (manyN s) c) (manyN s) ((splitL s).map Value.string) ∧ Below w.heap.size w w'
set_option maxHeartbeats 6400000 in
theorem split_yes (s : ByteArray) (w : World) (h : rngB (s.size : Int) 1 288 = true) : Calls Try.prog 33 #[.string s] w (splitY s w) := by
  obtain ⟨i0, hi, hz0, hz1, hz2⟩ := info_parts info9
  have hb : 1 ≤ s.size ∧ s.size ≤ 288 := by simp [rngB] at h; omega
  obtain ⟨h1, h2⟩ := hb
  have hm : 32 * manyN s ≤ s.size + 31 ∧ s.size ≤ 32 * manyN s := by unfold manyN; omega
  go_enter Try.func33, Try.ntmps33
  go_wp2_with (first | (go_at_call 49; with_reducible refine (esize_c _ _).mono ?_; rintro e w' ⟨rfl, rfl⟩) | fail)
  clear h
  go_loopg [4, 5] (manyN s) (fun gg s4 s5 wr => ∃ (k : Nat) (ao : Option Addr) (cv : Nat), k ≤ manyN s ∧ manyN s - k ≤ gg ∧ s5 = .int .i64 (32 * (k : Int)) ∧ s4 = .slice ao k cv ∧ Aside (wr.ownsRow w.heap.size 9 1 (.slice ao k cv) k ((chunks s k).map Value.string)) ∧ Aside (Below w.heap.size w wr))
  case atStart => exact ⟨0, none, 0, Nat.zero_le _, Nat.le_refl _, rfl, rfl, World.ownsRow_nil _ _ _ _, Below.refl _ _⟩
  case round =>
    obtain ⟨k, ao, cv, hk, hg, rfl, rfl, BO, BW⟩ := hrel
    have hown := BO.out
    have HB := BW.out
    have hsize := HB.size
    clear BO BW
    by_cases hlt : 32 * k < s.size
    · have hc := Lib.hid (chunks_succ s k)
      by_cases hf : 32 * k + 32 ≤ s.size
      · have hx := Lib.hid (chunk_full hf)
        go_wp2_with (first | (at_builtin; refine wpList_append_own _ rfl _ _ 57 rfl w.heap.size 9 i0 (.string ByteArray.empty) 1 16 Try.underlying57 hi hz0 hz1 hz2 rfl (by decide) _ _ _ rfl (hown.alloc _) ⟨wr.heap.size, 0, none⟩ 1 1 [.string (s.extract (32 * k) (32 * k + 32))] rfl rfl (cell_one_new _ _ _) (fun x hx => by simp at hx; subst hx; rfl) (by unfold maxLen; omega) (by omega) (by simp; omega) ?_; intro v' w3 hown' hgrow3 hnil3) | fail)
        obtain ⟨⟨ao', cv', hv'⟩, hb3⟩ := row_step hown hown' hgrow3 HB
        go_roundg (manyN s - (k + 1))
        case measure => omega
        case rel => exact ⟨k + 1, ao', cv', by omega, by omega, vInt (by omega), hv', by rw [← hv', hc.out, ← hx.out, List.map_append]; exact hown', hb3⟩
      · have hf' : s.size ≤ 32 * k + 32 := by omega
        have hx := Lib.hid (chunk_last hf')
        go_wp2_with (first | (at_builtin; refine wpList_append_own _ rfl _ _ 57 rfl w.heap.size 9 i0 (.string ByteArray.empty) 1 16 Try.underlying57 hi hz0 hz1 hz2 rfl (by decide) _ _ _ rfl (hown.alloc _) ⟨wr.heap.size, 0, none⟩ 1 1 [.string (s.extract (32 * k) s.size)] rfl rfl (cell_one_new _ _ _) (fun x hx => by simp at hx; subst hx; rfl) (by unfold maxLen; omega) (by omega) (by simp; omega) ?_; intro v' w3 hown' hgrow3 hnil3) | fail)
        obtain ⟨⟨ao', cv', hv'⟩, hb3⟩ := row_step hown hown' hgrow3 HB
        go_roundg (manyN s - (k + 1))
        case measure => omega
        case rel => exact ⟨k + 1, ao', cv', by omega, by omega, vInt (by omega), hv', by rw [← hv', hc.out, ← hx.out, List.map_append]; exact hown', hb3⟩
    · obtain rfl : k = manyN s := by omega
      go_wp2_with fail
      go_ret2
      exact ⟨ao, cv, rfl, hown, HB⟩
set_option maxHeartbeats 1600000 in
theorem rsplit_no (s : ByteArray) (w : World) (hs : s.size ≤ 9223372036854775807) (h : rngB (s.size : Int) 1 288 = false) : Calls Try.prog 34 #[.string s] w fun e w' => e = .returned (.tuple #[.slice none 0 0, .int .i64 1000]) ∧ w = w' := by
  go_enter Try.func34, Try.ntmps34
  go_wp2_with (first | (go_at_call 63; with_reducible refine (upTo_c _ _ _ _).mono ?_; rintro e w' ⟨rfl, rfl⟩) | fail)
  go_ret2
  exact ⟨rfl, rfl⟩
def rsplitY (s : ByteArray) (w : World) (e : Ending) (w' : World) : Prop := ∃ (A : Option Addr) (c : Nat), e = .returned (.tuple #[.slice A (manyN s) c, .int .i64 0]) ∧ w'.ownsRow w.heap.size 9 1 (.slice A (manyN s) c) (manyN s) ((splitL s).map Value.string) ∧ Below w.heap.size w w'
set_option maxHeartbeats 6400000 in
theorem rsplit_yes (s : ByteArray) (w : World) (h : rngB (s.size : Int) 1 288 = true) : Calls Try.prog 34 #[.string s] w (rsplitY s w) := by
  obtain ⟨i0, hi, hz0, hz1, hz2⟩ := info_parts info9
  have hb : 1 ≤ s.size ∧ s.size ≤ 288 := by simp [rngB] at h; omega
  obtain ⟨h1, h2⟩ := hb
  have hm : 32 * manyN s ≤ s.size + 31 ∧ s.size ≤ 32 * manyN s := by unfold manyN; omega
  go_enter Try.func34, Try.ntmps34
  go_wp2_with (first | (go_at_call 63; with_reducible refine (upTo_c _ _ _ _).mono ?_; rintro e w' ⟨rfl, rfl⟩) | fail)
  clear h
  go_loopg [4, 5] (manyN s) (fun gg s4 s5 wr => ∃ (k : Nat) (ao : Option Addr) (cv : Nat), k ≤ manyN s ∧ manyN s - k ≤ gg ∧ s5 = .int .i64 (32 * (k : Int)) ∧ s4 = .slice ao k cv ∧ Aside (wr.ownsRow w.heap.size 9 1 (.slice ao k cv) k ((chunks s k).map Value.string)) ∧ Aside (Below w.heap.size w wr))
  case atStart => exact ⟨0, none, 0, Nat.zero_le _, Nat.le_refl _, rfl, rfl, World.ownsRow_nil _ _ _ _, Below.refl _ _⟩
  case round =>
    obtain ⟨k, ao, cv, hk, hg, rfl, rfl, BO, BW⟩ := hrel
    have hown := BO.out
    have HB := BW.out
    have hsize := HB.size
    clear BO BW
    by_cases hlt : 32 * k < s.size
    · have hc := Lib.hid (chunks_succ s k)
      by_cases hf : 32 * k + 32 ≤ s.size
      · have hx := Lib.hid (chunk_full hf)
        go_wp2_with (first | (at_builtin; refine wpList_append_own _ rfl _ _ 57 rfl w.heap.size 9 i0 (.string ByteArray.empty) 1 16 Try.underlying57 hi hz0 hz1 hz2 rfl (by decide) _ _ _ rfl (hown.alloc _) ⟨wr.heap.size, 0, none⟩ 1 1 [.string (s.extract (32 * k) (32 * k + 32))] rfl rfl (cell_one_new _ _ _) (fun x hx => by simp at hx; subst hx; rfl) (by unfold maxLen; omega) (by omega) (by simp; omega) ?_; intro v' w3 hown' hgrow3 hnil3) | fail)
        obtain ⟨⟨ao', cv', hv'⟩, hb3⟩ := row_step hown hown' hgrow3 HB
        go_roundg (manyN s - (k + 1))
        case measure => omega
        case rel => exact ⟨k + 1, ao', cv', by omega, by omega, vInt (by omega), hv', by rw [← hv', hc.out, ← hx.out, List.map_append]; exact hown', hb3⟩
      · have hf' : s.size ≤ 32 * k + 32 := by omega
        have hx := Lib.hid (chunk_last hf')
        go_wp2_with (first | (at_builtin; refine wpList_append_own _ rfl _ _ 57 rfl w.heap.size 9 i0 (.string ByteArray.empty) 1 16 Try.underlying57 hi hz0 hz1 hz2 rfl (by decide) _ _ _ rfl (hown.alloc _) ⟨wr.heap.size, 0, none⟩ 1 1 [.string (s.extract (32 * k) s.size)] rfl rfl (cell_one_new _ _ _) (fun x hx => by simp at hx; subst hx; rfl) (by unfold maxLen; omega) (by omega) (by simp; omega) ?_; intro v' w3 hown' hgrow3 hnil3) | fail)
        obtain ⟨⟨ao', cv', hv'⟩, hb3⟩ := row_step hown hown' hgrow3 HB
        go_roundg (manyN s - (k + 1))
        case measure => omega
        case rel => exact ⟨k + 1, ao', cv', by omega, by omega, vInt (by omega), hv', by rw [← hv', hc.out, ← hx.out, List.map_append]; exact hown', hb3⟩
    · obtain rfl : k = manyN s := by omega
      go_wp2_with fail
      go_ret2
      exact ⟨ao, cv, rfl, hown, HB⟩
end Go.Proofs.Ytfnfnldndmkeeaa.Bk

/- Layer 10: rows of texts copied, lent. -/
import Derived.Test.YtfnfnldndmkeeaaBku
namespace Go.Proofs.Ytfnfnldndmkeeaa.Bk
open Go.RowKit Go.Proofs.Ytfnfnldndmkeeaa.Kt Go.Proofs.Ytfnfnldndmkeeaa.Lw Go.Proofs.Ytfnfnldndmkeeaa.St Go.Proofs.Ytfnfnldndmkeeaa.Nm Go.Proofs.Ytfnfnldndmkeeaa.Sl
set_option linter.unusedVariables false
set_option linter.unusedSimpArgs false
set_option maxHeartbeats 1600000 in
theorem copyT_c (A : Option Addr) (c n : Nat) (xs : List ByteArray) (w : World) (hl : Txt w A xs) (hn : xs.length = n) (hby : n * 16 ≤ 140737488355328) :
    Calls Try.prog 64 #[.slice A n c] w fun e w' => ∃ A' c', e = .returned (.slice A' n c') ∧ w'.ownsRow w.heap.size 9 1 (.slice A' n c') n (xs.map Value.string) ∧ Below w.heap.size w w' := by
  obtain ⟨i0, hi0, hz0, hz1, hz2⟩ := info_parts info9
  go_enter Try.func64, Try.ntmps64
  go_wp2_with (first | (at_builtin; go_must (refine wpList_grow (k := 1) (enc := encS) (xs := xs) rfl _ _ 57 rfl _ w.heap.size 9 i0 _ 16 Try.underlying57 hi0 hz0 hz1 hz2 rfl (by decide) encS_len encS_one (.slice (some ⟨w.heap.size, 0, none⟩) 0 0) rfl 0 [] (own_empty w _ _ _ (Nat.le_refl _)) A n c rfl (hl.1.below (bl_alloc (Below.refl _ _) _)) hn (by simp only [maxLen]; omega) (by omega) (by simp) ?_); intro A' c' w2 hown hg hat; simp only [Nat.zero_add, List.nil_append] at hown hat) | fail)
  rw [encS_map] at hown
  have HB : Below w.heap.size w w2 := by
    refine bl_grown (bl_alloc (Below.refl _ _) _) hg ?_
    intro g h
    have : w.heap.size = g := by simpa [Value.ownBlock] using h
    omega
  go_ret
  exact ⟨A', c', rfl, hown, HB⟩
/-- an append of two onto one's own row. -/
theorem row_step2 {w wr w3 : World} {T : TypeId} {ao : Option Addr} {k cv m : Nat} {v' : Value} {xs ys : List Value} {o : Obj} (hm : 0 < m) (h : wr.ownsRow w.heap.size T 1 (.slice ao k cv) k xs) (h' : w3.ownsRow w.heap.size T 1 v' (k + m) (xs ++ ys))
    (hg : (wr.alloc o).grownBy w3 (Value.slice ao k cv).ownBlock) (HB : Below w.heap.size w wr) : (∃ (g : Nat) (cv' : Nat), v' = .slice (some ⟨g, 0, none⟩) (k + m) cv' ∧ k + m ≤ cv') ∧ Below w.heap.size w w3 := by
  refine ⟨?_, (HB.alloc HB.size o).grown hg (by have := HB.size; simp; omega) (fun q hq => (h.lt q hq).1)⟩
  rcases h'.2 with ⟨_, h0⟩ | ⟨g3, cap3, _, h0, _, _, hc, _⟩
  · omega
  · exact ⟨_, _, h0, hc⟩
theorem cell_two_new (w : World) (x y : Value) (t : TypeId) : ∀ j u, [x, y][j]? = some u → (w.alloc (.cells #[x, y] t)).cell? ((⟨w.heap.size, 0, none⟩ : Addr).add j) = some u := by
  intro j u hj
  have hB := Blk.new w #[x, y] t
  rw [add_plain, hB.cell j]
  rcases j with _ | _ | j
  · simpa using hj
  · simpa using hj
  · simp at hj
abbrev room : ByteArray := ⟨#[126, 114, 111, 111, 109]⟩
abbrev behind : ByteArray := ⟨#[126, 98, 101, 104, 105, 110, 100]⟩
set_option maxHeartbeats 1600000 in
theorem lendT_c (A : Option Addr) (c n : Nat) (xs : List ByteArray) (w : World) (hl : Txt w A xs) (hn : xs.length = n) (hby : (n + 2) * 16 ≤ 140737488355328) :
    Calls Try.prog 32 #[.slice A n c] w fun e w' => ∃ g c', e = .returned (.slice (some ⟨g, 0, none⟩) n c') ∧ (w'.ownsRow w.heap.size 9 1 (.slice (some ⟨g, 0, none⟩) (n + 2) c') (n + 2) ((xs ++ [room, behind]).map Value.string) ∧ n + 2 ≤ c') ∧ Below w.heap.size w w' := by
  obtain ⟨i0, hi, hz0, hz1, hz2⟩ := info_parts info9
  have hlp := Lib.hid hl
  clear hl
  go_enter Try.func32, Try.ntmps32
  go_wp2_with (first | (go_at_call 64; (with_reducible refine (copyT_c _ _ _ _ _ hlp.out hn (by omega)).mono ?_); rintro e wr ⟨ao, cv, rfl, hown, HB⟩) | (at_builtin; refine wpList_append_own _ rfl _ _ 57 rfl w.heap.size 9 i0 (.string ByteArray.empty) 1 16 Try.underlying57 hi hz0 hz1 hz2 rfl (by decide) _ _ _ rfl (hown.alloc _) ⟨wr.heap.size, 0, none⟩ 2 2 [.string room, .string behind] rfl rfl (cell_two_new _ _ _ _) (fun x hx => by simp at hx; rcases hx with rfl | rfl <;> rfl) (by unfold maxLen; omega) (by omega) (by have := HB.size; simp; omega) ?_; intro v' w3 hown' hgrow3 hnil3; obtain ⟨⟨g, cv', rfl, hcv⟩, hb3⟩ := row_step2 (by decide) hown hown' hgrow3 HB) | fail)
  go_ret
  exact ⟨g, cv', rfl, ⟨by rw [List.map_append]; exact hown', hcv⟩, hb3⟩
end Go.Proofs.Ytfnfnldndmkeeaa.Bk

/- Layer 16: devices: failing, copies, likeness. -/
import Derived.Test.YtalgfekpcklijaaGreatDev
import Derived.Maps.AppendAt
namespace Go.Proofs.YtalgfekpcklijaaGreat.Dv
open Go.RowKit Go.Proofs.YtalgfekpcklijaaGreat.Kt Go.Proofs.YtalgfekpcklijaaGreat.Lw Go.Proofs.YtalgfekpcklijaaGreat.St Go.Proofs.YtalgfekpcklijaaGreat.Nm Go.Proofs.YtalgfekpcklijaaGreat.Es Go.Proofs.YtalgfekpcklijaaGreat.Sl Go.Proofs.YtalgfekpcklijaaGreat.Ops
set_option linter.unusedVariables false
set_option linter.unusedSimpArgs false
theorem op_info : (Tryz.prog.info? 118).map (fun i => (i.zero, i.size, i.bytes)) = some (some (.agg #[.bool false, .int .i64 0, .string ⟨#[]⟩]), 3, 32) := by kernel_rfl
theorem encOp_len (x : OpV) : (encOp x).length = 3 := rfl
theorem encOp_one (x : OpV) : ∀ u ∈ encOp x, u.oneCell' = true := by
  intro u hu
  simp [encOp] at hu
  rcases hu with rfl | rfl | rfl <;> rfl
set_option maxHeartbeats 1600000 in
theorem copy_c (s st nx g sl : Int) (A : Option Addr) (c n : Nat) (xs : List OpV) (w : World) (hl : Row w A xs) (hn : xs.length = n) (hby : n * 32 ≤ 140737488355328) :
    Calls Tryz.prog 14 #[.agg #[.int .i64 s, .int .i64 st, .int .i64 nx, .int .i64 g, .int .i64 sl, .slice A n c]] w fun e w' => (∃ A' c', e = .returned (.agg #[.int .i64 s, .int .i64 st, .int .i64 nx, .int .i64 g, .int .i64 sl, .slice A' n c']) ∧ Row w' A' xs) ∧ Below w.heap.size w w' := by
  obtain ⟨i0, hi0, hz0, hz1, hz2⟩ := info_parts op_info
  go_enter Tryz.func14, Tryz.ntmps14
  go_wp2_with (first | (at_builtin; go_must (refine wpList_grow (k := 3) (enc := encOp) (xs := xs) rfl _ _ 22 rfl _ (w.heap.size + 2) 118 i0 _ 32 Tryz.underlying22 hi0 hz0 hz1 hz2 rfl (by decide) encOp_len encOp_one (.slice (some ⟨w.heap.size + 1 + 1, 0, none⟩) 0 0) rfl 0 [] (own_empty2 _ _ _ _ _) A n c rfl (hl.1.below (bl_alloc (bl_alloc (bl_alloc (Below.refl _ _) _) _) _)) hn (by simp only [maxLen]; omega) (by omega) (by simp) ?_); intro A' c' w2 hown hg hat; simp only [Nat.zero_add, List.nil_append] at hown hat; obtain ⟨HB, K0, K1, hA⟩ := after2 hg hat; obtain ⟨_, _, _, _, _, _, _, _, _, _⟩ := Blk.all6 K0; obtain ⟨_, _, _, _, _, _, _, _, _, _⟩ := Blk.all6 K1) | fail)
  have KF : Blk _ (w.heap.size + 1) #[.int .i64 s, .int .i64 st, .int .i64 nx, .int .i64 g, .int .i64 sl, .slice A' n c'] _ := blk_set (blk_set (blk_set (blk_set (blk_set (blk_set (K1.far (p := ⟨w.heap.size, 5, none⟩) (by simp) (.slice A' n c')) 0 (.int .i64 s)) 1 (.int .i64 st)) 2 (.int .i64 nx)) 3 (.int .i64 g)) 4 (.int .i64 sl)) 5 (.slice A' n c')
  obtain ⟨d0, d1, d2, d3, d4, d5, _⟩ := Blk.all6 KF
  have hL := lies_own encOp_len hown hn
  exact bodyPost_ret (v := .agg #[.int .i64 s, .int .i64 st, .int .i64 nx, .int .i64 g, .int .i64 sl, .slice A' n c']) (by simp [results, Tryz.results14, go_sem, d0, d1, d2, d3, d4, d5]) rfl ⟨⟨A', c', rfl, (by repeat (with_reducible first | exact hL | refine Lies.put hA (by omega) ?_ | fail)), hl.2⟩, (by repeat (with_reducible first | exact Below.refl _ _ | assumption | (refine bl_set ?_ (by omega)) | apply bl_alloc | apply bl_drewN | apply bl_drew | (refine bl_step ?_ (by assumption)) | fail))⟩
def sameDev (s st nx g sl : Int) (xs : List OpV) (s' st' nx' g' sl' : Int) (ys : List OpV) : Bool := s == s' && (st == st' && (nx == nx' && (g == g' && (sl == sl' && decide (xs = ys)))))
theorem sameDev_refl (s st nx g sl : Int) (xs : List OpV) : sameDev s st nx g sl xs s st nx g sl xs = true := by simp [sameDev]
set_option maxHeartbeats 3200000 in
theorem sameDev_c (s st nx g sl s' st' nx' g' sl' : Int) (A B : Option Addr) (c d n n' : Nat) (xs ys : List OpV) (w : World) (hl : Row w A xs) (hr : Row w B ys) (hn : xs.length = n) (hn' : ys.length = n') :
    Calls Tryz.prog 17 #[.agg #[.int .i64 s, .int .i64 st, .int .i64 nx, .int .i64 g, .int .i64 sl, .slice A n c], .agg #[.int .i64 s', .int .i64 st', .int .i64 nx', .int .i64 g', .int .i64 sl', .slice B n' d]] w fun e w' => e = .returned (.bool (sameDev s st nx g sl xs s' st' nx' g' sl' ys)) ∧ Below w.heap.size w w' := by
  have HB := Below.refl w.heap.size w
  have K0 := fun cs => Blk.new w cs 24
  have K1 := fun cs0 cs => Blk.new1 w (.cells cs0 24) cs 24
  go_enter Tryz.func17, Tryz.ntmps17
  go_wp2_with (first | (go_at_call 57; refine (same_c _ _ _ _ _ _ _ _ _ (hl.below (bl_alloc (bl_alloc (Below.refl _ _) _) _)) (hr.below (bl_alloc (bl_alloc (Below.refl _ _) _) _)) hn hn').mono ?_; rintro e w' ⟨rfl, hb⟩; have HB := bl_step (by repeat (with_reducible first | exact HB | apply bl_alloc | apply bl_drew | apply bl_drewN | fail)) hb; have K0 := Blk.below (by repeat (with_reducible first | exact K0 | exact K0 _ | exact K0 _ _ | apply Blk.alloc | apply Blk.drew | apply Blk.drewN | fail)) hb; obtain ⟨_, _, _, _, _, _, _, _, _, _⟩ := Blk.all6 K0; have K1 := Blk.below (by repeat (with_reducible first | exact K1 | exact K1 _ | exact K1 _ _ | apply Blk.alloc | apply Blk.drew | apply Blk.drewN | fail)) hb; obtain ⟨_, _, _, _, _, _, _, _, _, _⟩ := Blk.all6 K1) | fail)
  all_goals (go_ret; refine ⟨retB ?_, (by repeat (with_reducible first | exact Below.refl _ _ | assumption | (refine bl_set ?_ (by omega)) | apply bl_alloc | apply bl_drewN | apply bl_drew | (refine bl_step ?_ (by assumption)) | fail))⟩; simp_all [sameDev])
theorem new_c (w : World) : Calls Tryz.prog 85 #[] w fun e w' => e = .returned (.agg #[.int .i64 0, .int .i64 0, .int .i64 0, .int .i64 0, .int .i64 0, .slice none 0 0]) ∧ Below w.heap.size w w' := by
  have HB := Below.refl w.heap.size w
  go_enter Tryz.func85, Tryz.ntmps85
  go_wp2
  exact bodyPost_ret (v := .agg #[.int .i64 0, .int .i64 0, .int .i64 0, .int .i64 0, .int .i64 0, .slice none 0 0]) (by simp [results, Tryz.results85, go_sem]) rfl ⟨rfl, (by repeat (with_reducible first | exact Below.refl _ _ | assumption | (refine bl_set ?_ (by omega)) | apply bl_alloc | apply bl_drewN | apply bl_drew | (refine bl_step ?_ (by assumption)) | fail))⟩
theorem rnew_c (w : World) : Calls Tryz.prog 53 #[] w fun e w' => e = .returned (.agg #[.int .i64 0, .int .i64 0, .int .i64 0, .int .i64 0, .int .i64 0, .slice none 0 0]) ∧ Below w.heap.size w w' := by
  have HB := Below.refl w.heap.size w
  go_enter Tryz.func53, Tryz.ntmps53
  go_wp2
  exact bodyPost_ret (v := .agg #[.int .i64 0, .int .i64 0, .int .i64 0, .int .i64 0, .int .i64 0, .slice none 0 0]) (by simp [results, Tryz.results53, go_sem]) rfl ⟨rfl, (by repeat (with_reducible first | exact Below.refl _ _ | assumption | (refine bl_set ?_ (by omega)) | apply bl_alloc | apply bl_drewN | apply bl_drew | (refine bl_step ?_ (by assumption)) | fail))⟩
theorem failed_c (k : Int) (w : World) : Calls Tryz.prog 47 #[.int .i64 k] w fun e w' => e = .returned (.agg #[.int .i64 7, .int .i64 k, .int .i64 0, .int .i64 0, .int .i64 0, .slice none 0 0]) ∧ Below w.heap.size w w' := by
  have HB := Below.refl w.heap.size w
  have K0 := fun cs => Blk.new w cs 24
  go_enter Tryz.func47, Tryz.ntmps47
  go_wp2_with (first | (go_at_call 85; refine (new_c _).mono ?_; rintro e w' ⟨rfl, hb⟩; have HB := bl_step (by repeat (with_reducible first | exact HB | apply bl_alloc | apply bl_drew | apply bl_drewN | fail)) hb; have K0 := Blk.below (by repeat (with_reducible first | exact K0 | exact K0 _ | exact K0 _ _ | apply Blk.alloc | apply Blk.drew | apply Blk.drewN | fail)) hb; obtain ⟨_, _, _, _, _, _, _, _, _, _⟩ := Blk.all6 K0) | fail)
  exact bodyPost_ret (v := .agg #[.int .i64 7, .int .i64 k, .int .i64 0, .int .i64 0, .int .i64 0, .slice none 0 0]) (by simp [results, Tryz.results47, go_sem, *]) rfl ⟨rfl, (by repeat (with_reducible first | exact Below.refl _ _ | assumption | (refine bl_set ?_ (by omega)) | apply bl_alloc | apply bl_drewN | apply bl_drew | (refine bl_step ?_ (by assumption)) | fail))⟩
theorem rfailed_c (k : Int) (w : World) : Calls Tryz.prog 68 #[.int .i64 k] w fun e w' => e = .returned (.agg #[.int .i64 7, .int .i64 k, .int .i64 0, .int .i64 0, .int .i64 0, .slice none 0 0]) ∧ Below w.heap.size w w' := by
  have HB := Below.refl w.heap.size w
  go_enter Tryz.func68, Tryz.ntmps68
  go_wp2
  exact bodyPost_ret (v := .agg #[.int .i64 7, .int .i64 k, .int .i64 0, .int .i64 0, .int .i64 0, .slice none 0 0]) (by simp [results, Tryz.results68, go_sem]) rfl ⟨rfl, (by repeat (with_reducible first | exact Below.refl _ _ | assumption | (refine bl_set ?_ (by omega)) | apply bl_alloc | apply bl_drewN | apply bl_drew | (refine bl_step ?_ (by assumption)) | fail))⟩
theorem sameR_c (s st nx g sl : Int) (A B : Option Addr) (c d n n' : Nat) (xs : List OpV) (w : World) (hl : Row w A xs) (hr : Row w B xs) (hn : xs.length = n) (hn' : xs.length = n') :
    Calls Tryz.prog 17 #[.agg #[.int .i64 s, .int .i64 st, .int .i64 nx, .int .i64 g, .int .i64 sl, .slice A n c], .agg #[.int .i64 s, .int .i64 st, .int .i64 nx, .int .i64 g, .int .i64 sl, .slice B n' d]] w fun e w' => e = .returned (.bool true) ∧ Below w.heap.size w w' :=
  (sameDev_c s st nx g sl s st nx g sl A B c d n n' xs xs w hl hr hn hn').mono fun e w' h => ⟨by rw [h.1, sameDev_refl], h.2⟩
theorem Row.none {w : World} {A : Option Addr} : Row w A [] := ⟨Lies.nil, by simp, fun o ho => by simp at ho⟩
end Go.Proofs.YtalgfekpcklijaaGreat.Dv

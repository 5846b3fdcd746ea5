/- Layer 15: what may be asked when: what the program's and the references' functions answer; the laws' walks. -/
import Derived.Test.YtalgfekpcklijaaGreatMap
import Derived.Test.YtalgfekpcklijaaGreatId
import Derived.Test.YtalgfekpcklijaaGreatAns
namespace Go.Proofs.YtalgfekpcklijaaGreat.Tb
open Go.RowKit Go.Proofs.YtalgfekpcklijaaGreat.Kt Go.Proofs.YtalgfekpcklijaaGreat.Eh Go.Proofs.YtalgfekpcklijaaGreat.Es Go.Proofs.YtalgfekpcklijaaGreat.Mp Go.Proofs.YtalgfekpcklijaaGreat.Id
set_option linter.unusedVariables false
set_option linter.unusedSimpArgs false

set_option maxHeartbeats 400000 in
theorem code_c (x : Int) (w : World) : Calls Tryz.prog 104 #[.int .i64 x] w fun e w' => e = .returned (.bool (rngB x 0 6)) ∧ w = w' := by
  go_enter Tryz.func104, Tryz.ntmps104
  go_wp2
  all_goals (go_ret; exact ⟨by simp [rngB]; omega, rfl⟩)
theorem eqAsked (d : Nat) (w : World) (x0 x1 y0 y1 : Int) : (Op.equalIn (d + 2) 150 (.agg #[.int .i64 x0, .int .i64 x1]) (.agg #[.int .i64 y0, .int .i64 y1])).run Tryz.prog w = .ok (x0 == y0 && x1 == y1) w :=
  eqA_of Tryz.underlying150 (by kernel_rfl) (eqf_cons (by rfl) (by go_simp; rfl) (by go_simp; rfl) (by go_simp) (eqf_last (by rfl) (by go_simp; rfl) (by go_simp; rfl) (by go_simp)))
theorem asked_key (em : Bool) (a b : Int) (w : World) : (Instr.checkKey em 10000 150 (.agg #[.int .i64 a, .int .i64 b])).run Tryz.prog w = .ok () w := by
  cases em <;> kernel_rfl
theorem bool_zero (w : World) : (zeroValue 4).run Tryz.prog w = .ok (.bool false) w := by kernel_rfl
/-- the table's rows, by the number of the operation that lays each down. -/
def rowOf : Nat → Int × Int
  | 2 => (0, 1) | 4 => (3, 1) | 6 => (0, 2) | 8 => (6, 2) | 10 => (7, 4) | 12 => (0, 6) | 14 => (3, 6) | _ => (6, 6)
def pairOf (i : Nat) : Value × Value := (.agg #[.int .i64 (rowOf i).1, .int .i64 (rowOf i).2], .bool true)
theorem rows_ne : ∀ i ∈ [2, 4, 6, 8, 10, 12, 14, 16], ∀ j ∈ [2, 4, 6, 8, 10, 12, 14, 16], j ≠ i → pairE (rowOf i).1 (rowOf i).2 (pairOf j).1 = false := by decide
def tabB (s c : Int) : Bool := [2, 4, 6, 8, 10, 12, 14, 16].any fun i => s == (rowOf i).1 && c == (rowOf i).2
def allowB (s c : Int) : Bool := (rngB s 0 7 && rngB c 0 6) && ((c == 3 || c == 5) || tabB s c)
def allowE (s c : Int) : Int := bif rngB s 0 7 && rngB c 0 6 then 0 else 1500
set_option maxHeartbeats 3200000 in
set_option maxRecDepth 100000 in
theorem allowed_c (s c : Int) (w : World) : Calls Tryz.prog 45 #[.int .i64 s, .int .i64 c] w fun e w' => e = .returned (.tuple #[.bool (allowB s c), .int .i64 (allowE s c)]) ∧ Below w.heap.size w w' := by
  by_cases h : (rngB s 0 7 && rngB c 0 6) = true
  · have h1 : rngB s 0 7 = true := by simp at h; exact h.1
    have h2 : rngB c 0 6 = true := by simp at h; exact h.2
    by_cases h3 : c = 3 ∨ c = 5
    · have e1 : allowB s c = true := by rcases h3 with rfl | rfl <;> simp [allowB, h1, h2]
      have e2 : allowE s c = 0 := by simp [allowE, h1, h2]
      rcases h3 with rfl | rfl
      all_goals
        go_enter Tryz.func45, Tryz.ntmps45
        go_wp2_with (first | (go_at_call 97; refine (An.state_c _ _).mono ?_; rintro e w' ⟨rfl, rfl⟩) | (go_at_call 104; refine (code_c _ _).mono ?_; rintro e w' ⟨rfl, rfl⟩) | fail)
        go_ret2
        exact ⟨by simp [e1, e2], Below.refl _ _⟩
    · have g1 : (c == 3) = false := by rw [beq_eq_false_iff_ne]; omega
      have g2 : (c == 5) = false := by rw [beq_eq_false_iff_ne]; omega
      have e1 : allowB s c = tabB s c := by simp [allowB, h1, h2, g1, g2]
      have e2 : allowE s c = 0 := by simp [allowE, h1, h2]
      have E1 := Lib.hid e1
      have E2 := Lib.hid e2
      clear e1 e2 h
      go_enter Tryz.func45, Tryz.ntmps45
      go_wp2_with (first | (go_at_call 97; refine (An.state_c _ _).mono ?_; rintro e w' ⟨rfl, rfl⟩) | (go_at_call 104; refine (code_c _ _).mono ?_; rintro e w' ⟨rfl, rfl⟩) | fail)
      refine wp_region_any (by kernel_rfl) ?_
      refine take1 1 (.agg #[.int .i64 0, .int .i64 1]) #[false, true, false, false, false, false, false, false, false, false, false, false, false, false, false, false, false, false, false] rfl rfl (by kernel_rfl) (fun _ _ _ h => h) (Or.inl ⟨by rfl, fun w' => by go_simp⟩) rfl ?_
      refine take1 3 (.agg #[.int .i64 3, .int .i64 1]) #[false, true, false, true, false, false, false, false, false, false, false, false, false, false, false, false, false, false, false] rfl rfl (by kernel_rfl) (fun _ _ _ h => h) (Or.inl ⟨by rfl, fun w' => by go_simp⟩) rfl ?_
      refine take1 5 (.agg #[.int .i64 0, .int .i64 2]) #[false, true, false, true, false, true, false, false, false, false, false, false, false, false, false, false, false, false, false] rfl rfl (by kernel_rfl) (fun _ _ _ h => h) (Or.inl ⟨by rfl, fun w' => by go_simp⟩) rfl ?_
      refine take1 7 (.agg #[.int .i64 6, .int .i64 2]) #[false, true, false, true, false, true, false, true, false, false, false, false, false, false, false, false, false, false, false] rfl rfl (by kernel_rfl) (fun _ _ _ h => h) (Or.inl ⟨by rfl, fun w' => by go_simp⟩) rfl ?_
      refine take1 9 (.agg #[.int .i64 7, .int .i64 4]) #[false, true, false, true, false, true, false, true, false, true, false, false, false, false, false, false, false, false, false] rfl rfl (by kernel_rfl) (fun _ _ _ h => h) (Or.inl ⟨by rfl, fun w' => by go_simp⟩) rfl ?_
      refine take1 11 (.agg #[.int .i64 0, .int .i64 6]) #[false, true, false, true, false, true, false, true, false, true, false, true, false, false, false, false, false, false, false] rfl rfl (by kernel_rfl) (fun _ _ _ h => h) (Or.inl ⟨by rfl, fun w' => by go_simp⟩) rfl ?_
      refine take1 13 (.agg #[.int .i64 3, .int .i64 6]) #[false, true, false, true, false, true, false, true, false, true, false, true, false, true, false, false, false, false, false] rfl rfl (by kernel_rfl) (fun _ _ _ h => h) (Or.inl ⟨by rfl, fun w' => by go_simp⟩) rfl ?_
      refine take1 15 (.agg #[.int .i64 6, .int .i64 6]) #[false, true, false, true, false, true, false, true, false, true, false, true, false, true, false, true, false, false, false] rfl rfl (by kernel_rfl) (fun _ _ _ h => h) (Or.inl ⟨by rfl, fun w' => by go_simp⟩) rfl ?_
      simp only [Act.put, List.setIfInBounds_toArray, List.set_cons_zero, List.set_cons_succ]
      refine evt1 0 (by kernel_rfl) ?_
      refine op_val (w' := w.drew.alloc (.map #[] 0)) (.map (some w.heap.size)) rfl rfl rfl rfl ?_
      simp only [Act.put, List.setIfInBounds_toArray, List.set_cons_zero, List.set_cons_succ]
      have M0 := MapAt.new w.drew
      have B0 := bl_alloc (bl_drew (Below.refl w.heap.size w)) (.map #[] 0)
      generalize w.drew.alloc (.map #[] 0) = w1 at *
      show wpAny _ _ _ _ 10 (lmark #[true, true, false, true, false, true, false, true, false, true, false, true, false, true, false, true, false, false, false] []) _ _
      refine wpAny_each [2, 4, 6, 8, 10, 12, 14, 16] (by decide) (fun D W => MapAt W w.heap.size (D.reverse.map pairOf) ∧ w1.grownBy W (some w.heap.size)) (by kernel_rfl) 2 ?_ ?_ 8 10 [] w1 (by decide) (by decide) (by simp) ⟨M0, ⟨rfl, rfl, rfl, Nat.le_refl _, fun _ _ _ => rfl⟩⟩
      · rintro D i W hi hD hsub ⟨hm, hg⟩ K hK
        obtain ⟨w', hr, hm', hg'⟩ := insert_run (t := 151) (key := (pairOf i).1) (val := (pairOf i).2) Tryz.underlying151 hm (finds_struct2 Tryz.underlying150 (rowOf i).1 (rowOf i).2 (fun d w c e => eqAsked d w _ _ c e))
          (fun p hp => by obtain ⟨j, _, rfl⟩ := List.mem_map.1 hp; exact ⟨_, _, rfl⟩)
          (fun p hp => by obtain ⟨j, hj, rfl⟩ := List.mem_map.1 hp; have hj' := List.mem_reverse.1 hj; exact rows_ne i hi j (hsub j hj') (fun e => hD (e ▸ hj')))
          (asked_key false _ _ _)
        have hI : MapAt w' w.heap.size ((i :: D).reverse.map pairOf) ∧ w1.grownBy w' (some w.heap.size) := by
          refine ⟨by simpa using hm', ⟨hg'.os.trans hg.os, hg'.tape.trans hg.tape, hg'.output.trans hg.output, Nat.le_trans hg.size hg'.size, fun k hk hkb => (hg'.block k (Nat.lt_of_lt_of_le hk hg.size) hkb).trans (hg.block k hk hkb)⟩⟩
        have hK' := hK w' hI
        clear hI hm' hg' hK hm hg
        simp only [List.mem_cons, List.not_mem_nil, or_false] at hi
        rcases hi with rfl | rfl | rfl | rfl | rfl | rfl | rfl | rfl
        · exact op_insert 151 (.tmp 21) (.tmp 22) (.const (.bool true)) (vm := .map (some w.heap.size)) (vk := (pairOf 2).1) (vv := (pairOf 2).2) (by kernel_rfl) (by kernel_rfl) (by kernel_rfl) (by kernel_rfl) hr hK'
        · exact op_insert 151 (.tmp 21) (.tmp 23) (.const (.bool true)) (vm := .map (some w.heap.size)) (vk := (pairOf 4).1) (vv := (pairOf 4).2) (by kernel_rfl) (by kernel_rfl) (by kernel_rfl) (by kernel_rfl) hr hK'
        · exact op_insert 151 (.tmp 21) (.tmp 24) (.const (.bool true)) (vm := .map (some w.heap.size)) (vk := (pairOf 6).1) (vv := (pairOf 6).2) (by kernel_rfl) (by kernel_rfl) (by kernel_rfl) (by kernel_rfl) hr hK'
        · exact op_insert 151 (.tmp 21) (.tmp 25) (.const (.bool true)) (vm := .map (some w.heap.size)) (vk := (pairOf 8).1) (vv := (pairOf 8).2) (by kernel_rfl) (by kernel_rfl) (by kernel_rfl) (by kernel_rfl) hr hK'
        · exact op_insert 151 (.tmp 21) (.tmp 26) (.const (.bool true)) (vm := .map (some w.heap.size)) (vk := (pairOf 10).1) (vv := (pairOf 10).2) (by kernel_rfl) (by kernel_rfl) (by kernel_rfl) (by kernel_rfl) hr hK'
        · exact op_insert 151 (.tmp 21) (.tmp 27) (.const (.bool true)) (vm := .map (some w.heap.size)) (vk := (pairOf 12).1) (vv := (pairOf 12).2) (by kernel_rfl) (by kernel_rfl) (by kernel_rfl) (by kernel_rfl) hr hK'
        · exact op_insert 151 (.tmp 21) (.tmp 28) (.const (.bool true)) (vm := .map (some w.heap.size)) (vk := (pairOf 14).1) (vv := (pairOf 14).2) (by kernel_rfl) (by kernel_rfl) (by kernel_rfl) (by kernel_rfl) hr hK'
        · exact op_insert 151 (.tmp 21) (.tmp 29) (.const (.bool true)) (vm := .map (some w.heap.size)) (vk := (pairOf 16).1) (vv := (pairOf 16).2) (by kernel_rfl) (by kernel_rfl) (by kernel_rfl) (by kernel_rfl) hr hK'
      · rintro fuel hf D W hiff ⟨hm, hg⟩
        obtain ⟨f, rfl⟩ : ∃ f, fuel = f + 1 + 1 := ⟨fuel - 2, by omega⟩
        show wpAny _ _ _ _ _ #[true, true, true, true, true, true, true, true, true, true, true, true, true, true, true, true, true, false, false] _ _
        refine take_mv 17 30 (.tmp 21) (.map (some w.heap.size)) #[true, true, true, true, true, true, true, true, true, true, true, true, true, true, true, true, true, true, false] (by kernel_rfl) (Or.inl (by kernel_rfl)) (by kernel_rfl) (by kernel_rfl) (fun _ _ _ h => h) ?_
        refine take_mv 18 6 (.tmp 30) (.map (some w.heap.size)) #[true, true, true, true, true, true, true, true, true, true, true, true, true, true, true, true, true, true, true] (by kernel_rfl) (Or.inr (by kernel_rfl)) (by kernel_rfl) (by kernel_rfl) (fun _ _ _ h => h) ?_
        simp only [Act.put, List.setIfInBounds_toArray, List.set_cons_zero, List.set_cons_succ]
        refine wpAny_done (by kernel_rfl) ?_ _
        have B1 : Below w.heap.size w W := B0.grown hg B0.size (fun k hk => by cases hk; exact Nat.le_refl _)
        have hlk : (Instr.lookup 151 (.map (some w.heap.size)) (.agg #[.int .i64 s, .int .i64 c]) false).run Tryz.prog W = .ok (.bool (tabB s c)) W := by
          refine lookup_run Tryz.underlying151 hm (finds_struct2 Tryz.underlying150 s c (fun d w x y => eqAsked d w _ _ x y)) (fun p hp => by obtain ⟨j, _, rfl⟩ := List.mem_map.1 hp; exact ⟨_, _, rfl⟩) (bool_zero W) (fun em => asked_key em _ _ _) ?_ ?_
          · rintro ⟨p, hp, hE⟩ q hq _
            obtain ⟨j, hj, rfl⟩ := List.mem_map.1 hp
            obtain ⟨k, _, rfl⟩ := List.mem_map.1 hq
            have hj' := (hiff j).1 (List.mem_reverse.1 hj)
            show Value.bool true = _
            congr 1
            symm
            exact List.any_eq_true.2 ⟨j, hj', by simpa [pairE, pairOf, intE] using hE⟩
          · intro hall
            congr 1
            rw [tabB, List.any_eq_false]
            intro j hj
            have := hall (pairOf j) (List.mem_map.2 ⟨j, List.mem_reverse.2 ((hiff j).2 hj), rfl⟩)
            simpa [pairE, pairOf, intE] using this
        clear hm hg M0 B0
        go_wp2
        go_ret2
        exact ⟨by rw [E1.out, E2.out]; simp, B1⟩
  · have h' : (rngB s 0 7 && rngB c 0 6) = false := by simpa using h
    have e1 : allowB s c = false := by simp [allowB, h']
    have e2 : allowE s c = 1500 := by simp [allowE, h']
    clear h
    cases h1 : rngB s 0 7
    · go_enter Tryz.func45, Tryz.ntmps45
      go_wp2_with (first | (go_at_call 97; refine (An.state_c _ _).mono ?_; rintro e w' ⟨rfl, rfl⟩) | (go_at_call 104; refine (code_c _ _).mono ?_; rintro e w' ⟨rfl, rfl⟩) | fail)
      go_ret2
      exact ⟨by simp [e1, e2], Below.refl _ _⟩
    · have h2 : rngB c 0 6 = false := by simpa [h1] using h'
      go_enter Tryz.func45, Tryz.ntmps45
      go_wp2_with (first | (go_at_call 97; refine (An.state_c _ _).mono ?_; rintro e w' ⟨rfl, rfl⟩) | (go_at_call 104; refine (code_c _ _).mono ?_; rintro e w' ⟨rfl, rfl⟩) | fail)
      go_ret2
      exact ⟨by simp [e1, e2], Below.refl _ _⟩

set_option maxHeartbeats 400000 in
theorem stateMay_c (x : Int) (w : World) : Calls Tryz.prog 61 #[.int .i64 x] w fun e w' => e = .returned (.bool (rngB x 0 7)) ∧ w = w' := by
  go_enter Tryz.func61, Tryz.ntmps61
  go_wp2_with (go_at_call 62; refine (upTo_c _ _ _ _).mono ?_; rintro e w' ⟨rfl, rfl⟩)
  go_ret
  exact ⟨rfl, rfl⟩
set_option maxHeartbeats 1600000 in
theorem rallowed_c (s c : Int) (w : World) : Calls Tryz.prog 23 #[.int .i64 s, .int .i64 c] w fun e w' => e = .returned (.tuple #[.bool (allowB s c), .int .i64 (allowE s c)]) ∧ w = w' := by
  cases h1 : rngB s 0 7
  · have e1 : allowB s c = false := by simp [allowB, h1]
    have e2 : allowE s c = 1500 := by simp [allowE, h1]
    go_enter Tryz.func23, Tryz.ntmps23
    go_wp2_with (first | (go_at_call 61; refine (stateMay_c _ _).mono ?_; rintro e w' ⟨rfl, rfl⟩) | (go_at_call 62; refine (upTo_c _ _ _ _).mono ?_; rintro e w' ⟨rfl, rfl⟩) | fail)
    go_ret2
    exact ⟨by simp [e1, e2], rfl⟩
  · cases h2 : rngB c 0 6
    · have e1 : allowB s c = false := by simp [allowB, h1, h2]
      have e2 : allowE s c = 1500 := by simp [allowE, h1, h2]
      go_enter Tryz.func23, Tryz.ntmps23
      go_wp2_with (first | (go_at_call 61; refine (stateMay_c _ _).mono ?_; rintro e w' ⟨rfl, rfl⟩) | (go_at_call 62; refine (upTo_c _ _ _ _).mono ?_; rintro e w' ⟨rfl, rfl⟩) | fail)
      go_ret2
      exact ⟨by simp [e1, e2], rfl⟩
    · have e1 : allowB s c = ((c == 3 || c == 5) || tabB s c) := by simp [allowB, h1, h2]
      have e2 : allowE s c = 0 := by simp [allowE, h1, h2]
      have E1 := Lib.hid e1
      have E2 := Lib.hid e2
      clear e1 e2
      have hc : c = 0 ∨ c = 1 ∨ c = 2 ∨ c = 3 ∨ c = 4 ∨ c = 5 ∨ c = 6 := by
        have := h2
        rw [rngB_eq] at this
        simp at this
        omega
      rcases hc with rfl | rfl | rfl | rfl | rfl | rfl | rfl
      all_goals
        go_enter Tryz.func23, Tryz.ntmps23
        go_wp2_with (first | (go_at_call 61; refine (stateMay_c _ _).mono ?_; rintro e w' ⟨rfl, rfl⟩) | (go_at_call 62; refine (upTo_c _ _ _ _).mono ?_; rintro e w' ⟨rfl, rfl⟩) | fail)
        all_goals go_ret2
        all_goals exact ⟨by rw [E1.out, E2.out]; simp [tabB, rowOf, Bool.or_assoc, *], rfl⟩

-- left out: awake_c
-- left out: tables_w
end Go.Proofs.YtalgfekpcklijaaGreat.Tb

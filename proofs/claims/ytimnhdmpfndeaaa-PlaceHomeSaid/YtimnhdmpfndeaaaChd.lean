/- Layer 7: the queue behind the heap's interface. -/
import Derived.Test.YtimnhdmpfndeaaaChc
namespace Go.Proofs.Ytimnhdmpfndeaaa.Ch
open Go.RowKit Go.Proofs.Ytimnhdmpfndeaaa.Kt Go.Proofs.Ytimnhdmpfndeaaa.Lw Go.Proofs.Ytimnhdmpfndeaaa.St Go.Proofs.Ytimnhdmpfndeaaa.Nm Go.Proofs.Ytimnhdmpfndeaaa.By Go.Proofs.Ytimnhdmpfndeaaa.En Go.Proofs.Ytimnhdmpfndeaaa.Jr Go.Proofs.Ytimnhdmpfndeaaa.Im Go.Proofs.Ytimnhdmpfndeaaa.Sl Go.Proofs.Ytimnhdmpfndeaaa.Hp
set_option linter.unusedVariables false
set_option linter.unusedSimpArgs false
attribute [local irreducible] gotB goodB Cr.crcB nQ nS nZ nM placeB
set_option maxRecDepth 100000 in
set_option maxHeartbeats 3200000 in
theorem qpop_c (gq ga N n c : Nat) (F : Nat → PlV) (w : World) (K0 : Blk w gq #[.slice (some ⟨ga, 0, none⟩) (n + 1) c] 114) (h : Arr w ga N F) (hn : n < N) (hN : N ≤ 1000) (hc : n + 1 ≤ c) :
    Calls Try.prog 134 #[.pointer (some ⟨gq, 0, none⟩)] w fun e w' => e = .returned (.iface 40 (.agg #[.int .i64 (F n).at_, .int .i64 (F n).q, .int .i64 (F n).s, .int .i64 (F n).z, .int .i64 (F n).m])) ∧ Blk w' gq #[.slice (some ⟨ga, 0, none⟩) n c] 114 ∧ w.grownBy w' (some gq) := by
  have GB := gb_refl w gq
  obtain ⟨cK0_0, fK0, lK0, nK0, mK0⟩ := Blk.all1 K0
  have a0 := h.c0 n (by omega)
  have a1 := h.c1 n (by omega)
  have a2 := h.c2 n (by omega)
  have a3 := h.c3 n (by omega)
  have a4 := h.c4 n (by omega)
  have hlt := h.lt
  have e1 : wrap64 ((n + 1 : Nat) : Int) - 1 = (n : Int) := by unfold wrap64; omega
  have e2 : ((n + 1 : Nat) : Int) - 1 = (n : Int) := by omega
  go_enter Try.func134, Try.ntmps134
  go_wp2_with fail
  go_ret
  exact ⟨rfl, ⟨(by repeat (with_reducible first | exact K0 | apply Blk.alloc | apply Blk.drew | apply Blk.set1_0 | (apply Blk.off; (first | assumption | omega | (simp; omega))) | fail)), (by repeat (with_reducible first | exact GB | exact gb_refl _ _ | apply gb_set | apply gb_alloc | apply gb_drew | fail))⟩⟩
theorem m_less0 (k : Nat) (a : Addr) (w : World) : (method (k + 1) 116 (.pointer (some a)) "Less").run Try.prog w = ((load a) >>= fun v => (pure ((132 : FuncId), v) : Sem (FuncId × Value))).run Try.prog w := by kernel_rfl
theorem m_swap0 (k : Nat) (a : Addr) (w : World) : (method (k + 1) 116 (.pointer (some a)) "Swap").run Try.prog w = ((load a) >>= fun v => (pure ((133 : FuncId), v) : Sem (FuncId × Value))).run Try.prog w := by kernel_rfl
theorem m_len0 (k : Nat) (a : Addr) (w : World) : (method (k + 1) 116 (.pointer (some a)) "Len").run Try.prog w = ((load a) >>= fun v => (pure ((86 : FuncId), v) : Sem (FuncId × Value))).run Try.prog w := by kernel_rfl
theorem m_pop (k : Nat) (a : Addr) (w : World) : (method (k + 1) 116 (.pointer (some a)) "Pop").run Try.prog w = .ok (134, .pointer (some a)) w := by kernel_rfl
theorem run_ld {w : World} {a : Addr} {v : Value} {f : FuncId} (h : w.cell? a = some v) : ((load a) >>= fun v => (pure (f, v) : Sem (FuncId × Value))).run Try.prog w = .ok (f, v) w := by
  simp [Sem.run_bind, run_load, h]
/-- what a heap's function leaves of the queue's memory. -/
structure QMem (w0 w : World) (gq ga N n c : Nat) (F : Nat → PlV) : Prop where
  q : Blk w gq #[.slice (some ⟨ga, 0, none⟩) n c] 114
  a : Arr w ga N F
  g : w0.grownBy w (some ga)
set_option maxRecDepth 100000 in
set_option maxHeartbeats 12800000 in
theorem down_c (gq ga N n m c i0 : Nat) (F : Nat → PlV) (w : World) (K0 : Blk w gq #[.slice (some ⟨ga, 0, none⟩) m c] 114) (h : Arr w ga N F) (hnm : n ≤ m) (hm : m ≤ N) (hN : N ≤ 1000) (hi : i0 ≤ n) (hga : ga ≠ gq) (hh : HeapX leP F i0 i0 n) :
    Calls Try.prog 102 #[.iface 116 (.pointer (some ⟨gq, 0, none⟩)), .int .i64 i0, .int .i64 n] w fun e w' => (∃ b, e = .returned (.bool b)) ∧ ∃ F', HeapF leP F' i0 n ∧ SameF F F' n ∧ Blk w' gq #[.slice (some ⟨ga, 0, none⟩) m c] 114 ∧ Arr w' ga N F' ∧ w.grownBy w' (some ga) := by
  go_enter Try.func102, Try.ntmps102
  go_wp2_with fail
  go_loopg [7, 8, 9, 10] (n + 1) (fun gg s7 _ _ _ wr => ∃ (i : Nat) (F' : Nat → PlV), i0 ≤ i ∧ n + 1 - i ≤ gg ∧ i ≤ n ∧ s7 = .int .i64 i ∧ Aside (HeapX leP F' i i0 n) ∧ Aside (SameF F F' n) ∧ Aside (Blk wr gq #[.slice (some ⟨ga, 0, none⟩) m c] 114) ∧ Aside (Arr wr ga N F') ∧ Aside (w.grownBy wr (some ga)))
  case atStart => exact ⟨i0, F, by omega, by omega, by omega, rfl, hh, SameF.refl _ _, K0, h, gb_refl _ _⟩
  case round =>
    clear K0 h hh
    obtain ⟨i, F', hi1, hg, hi2, rfl, BH, BS, BK, BA, BG⟩ := hrel
    have K0 := BK.out
    obtain ⟨cK0_0, fK0, lK0, nK0, mK0⟩ := Blk.all1 K0
    have A0 := BA.out
    have GB := BG.out
    have HX := Lib.hid BH.out
    clear BK BA BG BH
    by_cases h1 : 2 * i + 1 < n
    · have hj1 : decide ((n : Int) ≤ 2 * (i : Int) + 1) = false := by simp; omega
      have hj0 : decide (2 * (i : Int) + 1 < 0) = false := by simp; omega
      by_cases h2 : 2 * i + 2 < n
      · have hj2 : decide (2 * (i : Int) + 1 + 1 < (n : Int)) = true := by simp; omega
        cases hb1 : lessB (F' (2 * i + 2)) (F' (2 * i + 1))
        · have L1 : Hid (∀ W : World, Arr W ga N F' → Calls Try.prog 132 #[.slice (some ⟨ga, 0, none⟩) m c, .int .i64 (2 * (i : Int) + 1 + 1), .int .i64 (2 * (i : Int) + 1)] W fun e w' => e = .returned (.bool false) ∧ Below W.heap.size W w') := Lib.hid (fun W hA => by
            have h := less_c ga N m c (2 * i + 2) (2 * i + 1) F' W hA (by omega) (by omega) hm hN
            rw [hb1, show (((2 * i + 2) : Nat) : Int) = 2 * (i : Int) + 1 + 1 by omega, show (((2 * i + 1) : Nat) : Int) = 2 * (i : Int) + 1 by omega] at h
            exact h)
          have HC := Lib.hid (fun cc (h3 : cc < n) (h4 : cc = 2 * i + 1 ∨ cc = 2 * i + 2) => (by
            rcases h4 with rfl | rfl
            · exact leP.refl _
            · exact less_no hb1 : leP (F' (2 * i + 1)) (F' cc)))
          clear hb1
          have ml := fun k : Nat => (m_less0 k ⟨gq, 0, none⟩ wr).trans (run_ld cK0_0)
          go_upto_region 8 with (first | (go_at_call 132; with_reducible refine (L1.out _ A0).mono ?_; rintro e w' ⟨rfl, hb⟩) | fail)
          have A0 := A0.below hb
          have K0 := K0.below hb
          have GB := gb_bel GB hb
          clear ml cK0_0 fK0 lK0 nK0 mK0 hb
          obtain ⟨cK0_0, fK0, lK0, nK0, mK0⟩ := Blk.all1 K0
          cases hb2 : lessB (F' (2 * i + 1)) (F' i)
          · have L2 : Hid (∀ W : World, Arr W ga N F' → Calls Try.prog 132 #[.slice (some ⟨ga, 0, none⟩) m c, .int .i64 (2 * (i : Int) + 1), .int .i64 ((i : Int))] W fun e w' => e = .returned (.bool false) ∧ Below W.heap.size W w') := Lib.hid (fun W hA => by
              have h := less_c ga N m c (2 * i + 1) (i) F' W hA (by omega) (by omega) hm hN
              rw [hb2, show (((2 * i + 1) : Nat) : Int) = 2 * (i : Int) + 1 by omega] at h
              exact h)
            have HD := Lib.hid (fun cc h3 h4 => (less_no hb2).trans (HC.out cc h3 h4))
            clear hb2
            have ml := fun k : Nat => (m_less0 k ⟨gq, 0, none⟩ w').trans (run_ld cK0_0)
            go_wp2_with (first | (go_at_call 132; with_reducible refine (L2.out _ A0).mono ?_; rintro e w' ⟨rfl, hb⟩; have A0 := A0.below hb; have K0 := K0.below hb; have GB := gb_bel GB hb) | fail)
            go_ret
            exact ⟨⟨_, rfl⟩, F', HX.out.done HD.out, BS.out, K0, A0, GB⟩
          · have L2 : Hid (∀ W : World, Arr W ga N F' → Calls Try.prog 132 #[.slice (some ⟨ga, 0, none⟩) m c, .int .i64 (2 * (i : Int) + 1), .int .i64 ((i : Int))] W fun e w' => e = .returned (.bool true) ∧ Below W.heap.size W w') := Lib.hid (fun W hA => by
              have h := less_c ga N m c (2 * i + 1) (i) F' W hA (by omega) (by omega) hm hN
              rw [hb2, show (((2 * i + 1) : Nat) : Int) = 2 * (i : Int) + 1 by omega] at h
              exact h)
            have HD := Lib.hid (less_yes hb2)
            clear hb2
            have ml := fun k : Nat => (m_less0 k ⟨gq, 0, none⟩ w').trans (run_ld cK0_0)
            go_upto_region 9 with (first | (go_at_call 132; with_reducible refine (L2.out _ A0).mono ?_; rintro e w' ⟨rfl, hb⟩) | fail)
            have A0 := A0.below hb
            have K0 := K0.below hb
            have GB := gb_bel GB hb
            clear ml cK0_0 fK0 lK0 nK0 mK0 hb
            obtain ⟨cK0_0, fK0, lK0, nK0, mK0⟩ := Blk.all1 K0
            have ms := fun k : Nat => (m_swap0 k ⟨gq, 0, none⟩ w').trans (run_ld cK0_0)
            have SW := Lib.hid (fun W (hA : Arr W ga N F') => swap_c ga N m c i (2 * i + 1) F' W hA (by omega) (by omega) hm hN)
            rw [show (((2 * i + 1) : Nat) : Int) = 2 * (i : Int) + 1 by omega] at SW
            go_wp2_with (first | (go_at_call 133; with_reducible refine (SW.out _ A0).mono ?_; rintro e w3 ⟨rfl, hA3, hg3⟩; have K0 := blk_gb K0 hg3 (Ne.symm hga); have GB := gb_step GB hg3) | fail)
            go_roundg (n + 1 - (2 * i + 1))
            case measure => omega
            case rel => exact ⟨2 * i + 1, swF F' i (2 * i + 1), by omega, by omega, by omega, (by show Value.int .i64 (2 * (i : Int) + 1) = _; exact vInt (by omega)), HX.out.step hi1 (by omega) (by omega) HC.out HD.out, BS.out.trans (swF_same _ (by omega) (by omega)), K0, hA3, GB⟩
        · have L1 : Hid (∀ W : World, Arr W ga N F' → Calls Try.prog 132 #[.slice (some ⟨ga, 0, none⟩) m c, .int .i64 (2 * (i : Int) + 1 + 1), .int .i64 (2 * (i : Int) + 1)] W fun e w' => e = .returned (.bool true) ∧ Below W.heap.size W w') := Lib.hid (fun W hA => by
            have h := less_c ga N m c (2 * i + 2) (2 * i + 1) F' W hA (by omega) (by omega) hm hN
            rw [hb1, show (((2 * i + 2) : Nat) : Int) = 2 * (i : Int) + 1 + 1 by omega, show (((2 * i + 1) : Nat) : Int) = 2 * (i : Int) + 1 by omega] at h
            exact h)
          have HC := Lib.hid (fun cc (h3 : cc < n) (h4 : cc = 2 * i + 1 ∨ cc = 2 * i + 2) => (by
            rcases h4 with rfl | rfl
            · exact less_yes hb1
            · exact leP.refl _ : leP (F' (2 * i + 2)) (F' cc)))
          clear hb1
          have ml := fun k : Nat => (m_less0 k ⟨gq, 0, none⟩ wr).trans (run_ld cK0_0)
          go_upto_region 8 with (first | (go_at_call 132; with_reducible refine (L1.out _ A0).mono ?_; rintro e w' ⟨rfl, hb⟩) | fail)
          have A0 := A0.below hb
          have K0 := K0.below hb
          have GB := gb_bel GB hb
          clear ml cK0_0 fK0 lK0 nK0 mK0 hb
          obtain ⟨cK0_0, fK0, lK0, nK0, mK0⟩ := Blk.all1 K0
          cases hb2 : lessB (F' (2 * i + 2)) (F' i)
          · have L2 : Hid (∀ W : World, Arr W ga N F' → Calls Try.prog 132 #[.slice (some ⟨ga, 0, none⟩) m c, .int .i64 (2 * (i : Int) + 1 + 1), .int .i64 ((i : Int))] W fun e w' => e = .returned (.bool false) ∧ Below W.heap.size W w') := Lib.hid (fun W hA => by
              have h := less_c ga N m c (2 * i + 2) (i) F' W hA (by omega) (by omega) hm hN
              rw [hb2, show (((2 * i + 2) : Nat) : Int) = 2 * (i : Int) + 1 + 1 by omega] at h
              exact h)
            have HD := Lib.hid (fun cc h3 h4 => (less_no hb2).trans (HC.out cc h3 h4))
            clear hb2
            have ml := fun k : Nat => (m_less0 k ⟨gq, 0, none⟩ w').trans (run_ld cK0_0)
            go_wp2_with (first | (go_at_call 132; with_reducible refine (L2.out _ A0).mono ?_; rintro e w' ⟨rfl, hb⟩; have A0 := A0.below hb; have K0 := K0.below hb; have GB := gb_bel GB hb) | fail)
            go_ret
            exact ⟨⟨_, rfl⟩, F', HX.out.done HD.out, BS.out, K0, A0, GB⟩
          · have L2 : Hid (∀ W : World, Arr W ga N F' → Calls Try.prog 132 #[.slice (some ⟨ga, 0, none⟩) m c, .int .i64 (2 * (i : Int) + 1 + 1), .int .i64 ((i : Int))] W fun e w' => e = .returned (.bool true) ∧ Below W.heap.size W w') := Lib.hid (fun W hA => by
              have h := less_c ga N m c (2 * i + 2) (i) F' W hA (by omega) (by omega) hm hN
              rw [hb2, show (((2 * i + 2) : Nat) : Int) = 2 * (i : Int) + 1 + 1 by omega] at h
              exact h)
            have HD := Lib.hid (less_yes hb2)
            clear hb2
            have ml := fun k : Nat => (m_less0 k ⟨gq, 0, none⟩ w').trans (run_ld cK0_0)
            go_upto_region 9 with (first | (go_at_call 132; with_reducible refine (L2.out _ A0).mono ?_; rintro e w' ⟨rfl, hb⟩) | fail)
            have A0 := A0.below hb
            have K0 := K0.below hb
            have GB := gb_bel GB hb
            clear ml cK0_0 fK0 lK0 nK0 mK0 hb
            obtain ⟨cK0_0, fK0, lK0, nK0, mK0⟩ := Blk.all1 K0
            have ms := fun k : Nat => (m_swap0 k ⟨gq, 0, none⟩ w').trans (run_ld cK0_0)
            have SW := Lib.hid (fun W (hA : Arr W ga N F') => swap_c ga N m c i (2 * i + 2) F' W hA (by omega) (by omega) hm hN)
            rw [show (((2 * i + 2) : Nat) : Int) = 2 * (i : Int) + 1 + 1 by omega] at SW
            go_wp2_with (first | (go_at_call 133; with_reducible refine (SW.out _ A0).mono ?_; rintro e w3 ⟨rfl, hA3, hg3⟩; have K0 := blk_gb K0 hg3 (Ne.symm hga); have GB := gb_step GB hg3) | fail)
            go_roundg (n + 1 - (2 * i + 2))
            case measure => omega
            case rel => exact ⟨2 * i + 2, swF F' i (2 * i + 2), by omega, by omega, by omega, (by show Value.int .i64 (2 * (i : Int) + 1 + 1) = _; exact vInt (by omega)), HX.out.step hi1 (by omega) (by omega) HC.out HD.out, BS.out.trans (swF_same _ (by omega) (by omega)), K0, hA3, GB⟩
      · have hj2 : decide (2 * (i : Int) + 1 + 1 < (n : Int)) = false := by simp; omega
        have HC := Lib.hid (fun cc (h3 : cc < n) (h4 : cc = 2 * i + 1 ∨ cc = 2 * i + 2) => (by
          rcases h4 with rfl | rfl
          · exact leP.refl _
          · omega : leP (F' (2 * i + 1)) (F' cc)))
        go_upto_region 8 with fail
        cases hb2 : lessB (F' (2 * i + 1)) (F' i)
        · have L2 : Hid (∀ W : World, Arr W ga N F' → Calls Try.prog 132 #[.slice (some ⟨ga, 0, none⟩) m c, .int .i64 (2 * (i : Int) + 1), .int .i64 ((i : Int))] W fun e w' => e = .returned (.bool false) ∧ Below W.heap.size W w') := Lib.hid (fun W hA => by
            have h := less_c ga N m c (2 * i + 1) (i) F' W hA (by omega) (by omega) hm hN
            rw [hb2, show (((2 * i + 1) : Nat) : Int) = 2 * (i : Int) + 1 by omega] at h
            exact h)
          have HD := Lib.hid (fun cc h3 h4 => (less_no hb2).trans (HC.out cc h3 h4))
          clear hb2
          have ml := fun k : Nat => (m_less0 k ⟨gq, 0, none⟩ wr).trans (run_ld cK0_0)
          go_wp2_with (first | (go_at_call 132; with_reducible refine (L2.out _ A0).mono ?_; rintro e w' ⟨rfl, hb⟩; have A0 := A0.below hb; have K0 := K0.below hb; have GB := gb_bel GB hb) | fail)
          go_ret
          exact ⟨⟨_, rfl⟩, F', HX.out.done HD.out, BS.out, K0, A0, GB⟩
        · have L2 : Hid (∀ W : World, Arr W ga N F' → Calls Try.prog 132 #[.slice (some ⟨ga, 0, none⟩) m c, .int .i64 (2 * (i : Int) + 1), .int .i64 ((i : Int))] W fun e w' => e = .returned (.bool true) ∧ Below W.heap.size W w') := Lib.hid (fun W hA => by
            have h := less_c ga N m c (2 * i + 1) (i) F' W hA (by omega) (by omega) hm hN
            rw [hb2, show (((2 * i + 1) : Nat) : Int) = 2 * (i : Int) + 1 by omega] at h
            exact h)
          have HD := Lib.hid (less_yes hb2)
          clear hb2
          have ml := fun k : Nat => (m_less0 k ⟨gq, 0, none⟩ wr).trans (run_ld cK0_0)
          go_upto_region 9 with (first | (go_at_call 132; with_reducible refine (L2.out _ A0).mono ?_; rintro e w' ⟨rfl, hb⟩) | fail)
          have A0 := A0.below hb
          have K0 := K0.below hb
          have GB := gb_bel GB hb
          clear ml cK0_0 fK0 lK0 nK0 mK0 hb
          obtain ⟨cK0_0, fK0, lK0, nK0, mK0⟩ := Blk.all1 K0
          have ms := fun k : Nat => (m_swap0 k ⟨gq, 0, none⟩ w').trans (run_ld cK0_0)
          have SW := Lib.hid (fun W (hA : Arr W ga N F') => swap_c ga N m c i (2 * i + 1) F' W hA (by omega) (by omega) hm hN)
          rw [show (((2 * i + 1) : Nat) : Int) = 2 * (i : Int) + 1 by omega] at SW
          go_wp2_with (first | (go_at_call 133; with_reducible refine (SW.out _ A0).mono ?_; rintro e w3 ⟨rfl, hA3, hg3⟩; have K0 := blk_gb K0 hg3 (Ne.symm hga); have GB := gb_step GB hg3) | fail)
          go_roundg (n + 1 - (2 * i + 1))
          case measure => omega
          case rel => exact ⟨2 * i + 1, swF F' i (2 * i + 1), by omega, by omega, by omega, (by show Value.int .i64 (2 * (i : Int) + 1) = _; exact vInt (by omega)), HX.out.step hi1 (by omega) (by omega) HC.out HD.out, BS.out.trans (swF_same _ (by omega) (by omega)), K0, hA3, GB⟩
    · have hj1 : decide ((n : Int) ≤ 2 * (i : Int) + 1) = true := by simp; omega
      have HD := Lib.hid (fun cc (h3 : cc < n) (h4 : cc = 2 * i + 1 ∨ cc = 2 * i + 2) => (by omega : leP (F' i) (F' cc)))
      go_wp2_with fail
      go_ret
      exact ⟨⟨_, rfl⟩, F', HX.out.done HD.out, BS.out, K0, A0, GB⟩
end Go.Proofs.Ytimnhdmpfndeaaa.Ch

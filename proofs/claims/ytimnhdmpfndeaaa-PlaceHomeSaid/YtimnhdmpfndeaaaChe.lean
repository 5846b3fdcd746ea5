/- Layer 7: the heap's Init and Pop. -/
import Derived.Test.YtimnhdmpfndeaaaChd
namespace Go.Proofs.Ytimnhdmpfndeaaa.Ch
open Go.RowKit Go.Proofs.Ytimnhdmpfndeaaa.Kt Go.Proofs.Ytimnhdmpfndeaaa.Lw Go.Proofs.Ytimnhdmpfndeaaa.St Go.Proofs.Ytimnhdmpfndeaaa.Nm Go.Proofs.Ytimnhdmpfndeaaa.By Go.Proofs.Ytimnhdmpfndeaaa.En Go.Proofs.Ytimnhdmpfndeaaa.Jr Go.Proofs.Ytimnhdmpfndeaaa.Im Go.Proofs.Ytimnhdmpfndeaaa.Sl Go.Proofs.Ytimnhdmpfndeaaa.Hp
set_option linter.unusedVariables false
set_option linter.unusedSimpArgs false
attribute [local irreducible] gotB goodB Cr.crcB nQ nS nZ nM placeB
set_option maxRecDepth 100000 in
set_option maxHeartbeats 6400000 in
theorem init_c (gq ga N n c : Nat) (F : Nat → PlV) (w : World) (K0 : Blk w gq #[.slice (some ⟨ga, 0, none⟩) n c] 114) (h : Arr w ga N F) (hn : n ≤ N) (hN : N ≤ 1000) (hga : ga ≠ gq) :
    Calls Try.prog 85 #[.iface 116 (.pointer (some ⟨gq, 0, none⟩))] w fun e w' => e = .returned (.tuple #[]) ∧ ∃ F', HeapF leP F' 0 n ∧ SameF F F' n ∧ Blk w' gq #[.slice (some ⟨ga, 0, none⟩) n c] 114 ∧ Arr w' ga N F' ∧ w.grownBy w' (some ga) := by
  obtain ⟨cK0_0, fK0, lK0, nK0, mK0⟩ := Blk.all1 K0
  have ml := fun k : Nat => (m_len0 k ⟨gq, 0, none⟩ w).trans (run_ld cK0_0)
  have hn1 : n ≤ 1000 := by omega
  go_enter Try.func85, Try.ntmps85
  go_wp2_with (first | (go_at_call 86; with_reducible refine (len_c _ _ _ _).mono ?_; rintro e w' ⟨rfl, rfl⟩) | fail)
  clear ml cK0_0 fK0 lK0 nK0 mK0
  go_loopg [3] (n / 2) (fun gg s3 wr => ∃ (d : Nat) (F' : Nat → PlV), d ≤ n / 2 ∧ d ≤ gg ∧ ((d = 0 ∧ s3 = .int .i64 (-1)) ∨ (∃ e : Nat, d = e + 1 ∧ s3 = .int .i64 e)) ∧ Aside (HeapF leP F' d n) ∧ Aside (SameF F F' n) ∧ Aside (Blk wr gq #[.slice (some ⟨ga, 0, none⟩) n c] 114) ∧ Aside (Arr wr ga N F') ∧ Aside (w.grownBy wr (some ga)))
  case atStart =>
    refine ⟨n / 2, F, by omega, by omega, ?_, HeapF.none (by omega), SameF.refl _ _, K0, h, gb_refl _ _⟩
    by_cases h0 : n / 2 = 0
    · exact .inl ⟨h0, by show Value.int .i64 ((n : Int) / 2 - 1) = _; exact vInt (by omega)⟩
    · exact .inr ⟨n / 2 - 1, by omega, by show Value.int .i64 ((n : Int) / 2 - 1) = _; exact vInt (by omega)⟩
  case round =>
    clear K0 h
    obtain ⟨d, F', hd, hg, hcase, BH, BS, BK, BA, BG⟩ := hrel
    rcases hcase with ⟨rfl, rfl⟩ | ⟨e0, rfl, rfl⟩
    · go_wp2_with fail
      go_end0
      exact ⟨rfl, F', BH.out, BS.out, BK.out, BA.out, BG.out⟩
    · have dn := Lib.hid (down_c gq ga N n n c e0 F' wr BK.out BA.out (Nat.le_refl _) hn hN (by omega) hga (HeapX.first BH.out))
      have e0z : (0 : Int) ≤ (e0 : Int) := by omega
      go_wp2_with (first | (go_at_call 102; with_reducible refine dn.out.mono ?_; rintro e w3 ⟨⟨bb, rfl⟩, F3, hH3, hS3, hK3, hA3, hg3⟩) | fail)
      go_roundg e0
      case measure => omega
      case rel =>
        refine ⟨e0, F3, by omega, by omega, ?_, hH3, BS.out.trans hS3, hK3, hA3, gb_step BG.out hg3⟩
        by_cases h0 : e0 = 0
        · exact .inl ⟨h0, by show Value.int .i64 ((e0 : Int) - 1) = _; exact vInt (by omega)⟩
        · exact .inr ⟨e0 - 1, by omega, by show Value.int .i64 ((e0 : Int) - 1) = _; exact vInt (by omega)⟩
/-- all blocks but two are as they were. -/
structure Fr2 (w w' : World) (a b : Nat) : Prop where
  os : w'.os = w.os
  tape : w'.tape = w.tape
  output : w'.output = w.output
  size : w.heap.size ≤ w'.heap.size
  block : ∀ k, k < w.heap.size → k ≠ a → k ≠ b → w'.heap[k]? = w.heap[k]?
theorem Fr2.trans {w w1 w2 : World} {a b : Nat} (h : Fr2 w w1 a b) (k : Fr2 w1 w2 a b) : Fr2 w w2 a b :=
  ⟨k.os.trans h.os, k.tape.trans h.tape, k.output.trans h.output, Nat.le_trans h.size k.size, fun i hi ha hb => (k.block i (Nat.lt_of_lt_of_le hi h.size) ha hb).trans (h.block i hi ha hb)⟩
theorem Fr2.one {w w' : World} {a b : Nat} (h : w.grownBy w' (some a)) : Fr2 w w' a b := ⟨h.os, h.tape, h.output, h.size, fun k hk ha _ => h.block k hk (fun e => ha (by cases e; rfl))⟩
theorem Fr2.two {w w' : World} {a b : Nat} (h : w.grownBy w' (some b)) : Fr2 w w' a b := ⟨h.os, h.tape, h.output, h.size, fun k hk _ hb => h.block k hk (fun e => hb (by cases e; rfl))⟩
theorem bl_fr2 {w0 w w' : World} {a b : Nat} (h : Below w0.heap.size w0 w) (k : Fr2 w w' a b) (ha : w0.heap.size ≤ a) (hb : w0.heap.size ≤ b) : Below w0.heap.size w0 w' :=
  ⟨k.os.trans h.os, k.tape.trans h.tape, k.output.trans h.output, Nat.le_trans h.size k.size, fun i hi => (k.block i (Nat.lt_of_lt_of_le hi h.size) (by omega) (by omega)).trans (h.block i hi)⟩
theorem blk_fr2 {w w' : World} {a b g : Nat} {cs : Array Value} {t : TypeId} (h : Blk w g cs t) (k : Fr2 w w' a b) (ha : g ≠ a) (hb : g ≠ b) : Blk w' g cs t := (k.block g h.lt ha hb).trans h
theorem arr_gb {w w' : World} {g r N : Nat} {F : Nat → PlV} (h : Arr w g N F) (k : w.grownBy w' (some r)) (hg : g ≠ r) : Arr w' g N F := by
  have e := k.block g h.lt (fun e => hg (by cases e; rfl))
  have ec : ∀ o, w'.cell? ⟨g, o, none⟩ = w.cell? ⟨g, o, none⟩ := fun o => World.cell?_of_block (a := ⟨g, o, none⟩) e
  have ef : ∀ o, w'.frozen? ⟨g, o, none⟩ = w.frozen? ⟨g, o, none⟩ := fun o => World.frozen?_of_block (a := ⟨g, o, none⟩) e
  exact ⟨Nat.lt_of_lt_of_le h.lt k.size, fun i hi => (ec _).trans (h.c0 i hi), fun i hi => (ec _).trans (h.c1 i hi), fun i hi => (ec _).trans (h.c2 i hi), fun i hi => (ec _).trans (h.c3 i hi), fun i hi => (ec _).trans (h.c4 i hi), fun i hi => (ef _).trans (h.fr i hi)⟩
set_option maxRecDepth 100000 in
set_option maxHeartbeats 6400000 in
theorem hpop_c (gq ga N n c : Nat) (F : Nat → PlV) (w : World) (K0 : Blk w gq #[.slice (some ⟨ga, 0, none⟩) (n + 1) c] 114) (h : Arr w ga N F) (hn : n + 1 ≤ N) (hN : N ≤ 1000) (hc : n + 1 ≤ c) (hga : ga ≠ gq) (hh : HeapF leP F 0 (n + 1)) :
    Calls Try.prog 87 #[.iface 116 (.pointer (some ⟨gq, 0, none⟩))] w fun e w' => e = .returned (.iface 40 (.agg #[.int .i64 (F 0).at_, .int .i64 (F 0).q, .int .i64 (F 0).s, .int .i64 (F 0).z, .int .i64 (F 0).m])) ∧
      ∃ F', HeapF leP F' 0 n ∧ SameF (swF F 0 n) F' n ∧ Blk w' gq #[.slice (some ⟨ga, 0, none⟩) n c] 114 ∧ Arr w' ga N F' ∧ Fr2 w w' ga gq := by
  obtain ⟨cK0_0, fK0, lK0, nK0, mK0⟩ := Blk.all1 K0
  have ml := fun k : Nat => (m_len0 k ⟨gq, 0, none⟩ w).trans (run_ld cK0_0)
  have ms := fun k : Nat => (m_swap0 k ⟨gq, 0, none⟩ w).trans (run_ld cK0_0)
  have sw := Lib.hid (swap_c ga N (n + 1) c 0 n F w h (by omega) (by omega) hn hN)
  rw [show ((0 : Nat) : Int) = 0 from rfl] at sw
  have hn1 : n ≤ 1000 := by omega
  have e2 : ((n + 1 : Nat) : Int) - 1 = (n : Int) := by omega
  go_enter Try.func87, Try.ntmps87
  go_upto_region 3 with (first | (go_at_call 86; with_reducible refine (len_c _ _ _ _).mono ?_; rintro e w' ⟨rfl, rfl⟩) | (go_at_call 133; with_reducible refine sw.out.mono ?_; rintro e w1 ⟨rfl, hA1, hg1⟩) | fail)
  have K1 := blk_gb K0 hg1 (Ne.symm hga)
  have dn := Lib.hid (down_c gq ga N n (n + 1) c 0 (swF F 0 n) w1 K1 hA1 (by omega) hn hN (by omega) hga hh.pop)
  rw [show ((0 : Nat) : Int) = 0 from rfl] at dn
  clear ml ms cK0_0 fK0 lK0 nK0 mK0
  go_upto_region 4 with (first | (go_at_call 102; with_reducible refine dn.out.mono ?_; rintro e w2 ⟨⟨bb, rfl⟩, F2, hH2, hS2, hK2, hA2, hg2⟩) | fail)
  have mp := fun k : Nat => m_pop k ⟨gq, 0, none⟩ w2
  have qp := Lib.hid (qpop_c gq ga N n c F2 w2 hK2 hA2 (by omega) hN hc)
  have hF := Lib.hid (show F2 n = F 0 by rw [hS2.2.2 n (Nat.le_refl _), sw_j])
  rw [hF.out] at qp
  clear K0 K1
  go_wp2_with (first | (go_at_call 134; with_reducible refine qp.out.mono ?_; rintro e w3 ⟨rfl, hK3, hg3⟩) | fail)
  go_ret
  exact ⟨rfl, F2, hH2, hS2, hK3, arr_gb hA2 hg3 hga, (Fr2.one (gb_step hg1 hg2)).trans (Fr2.two hg3)⟩
end Go.Proofs.Ytimnhdmpfndeaaa.Ch

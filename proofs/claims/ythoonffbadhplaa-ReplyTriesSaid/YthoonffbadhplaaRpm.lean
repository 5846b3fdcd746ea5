/- Layer 23: the law's walk: ReplyTries. -/
import Derived.Test.YthoonffbadhplaaRpl
import Derived.Test.YthoonffbadhplaaRpk
import Derived.Test.YthoonffbadhplaaBits
import Derived.Test.YthoonffbadhplaaOpi
namespace Go.Proofs.Ythoonffbadhplaa.Rp
open Go.RowKit Go.Proofs.Ythoonffbadhplaa.Kt Go.Proofs.Ythoonffbadhplaa.Lw Go.Proofs.Ythoonffbadhplaa.St Go.Proofs.Ythoonffbadhplaa.Nm Go.Proofs.Ythoonffbadhplaa.An Go.Proofs.Ythoonffbadhplaa.Ho Go.Proofs.Ythoonffbadhplaa.Es Go.Proofs.Ythoonffbadhplaa.Sl Go.Proofs.Ythoonffbadhplaa.Oi
set_option linter.unusedVariables false
set_option linter.unusedSimpArgs false
attribute [local go_sem high] eqHost
/-- one thing went wrong: nothing came, or a stall. -/
def missH (b : Bool) (h : HS) : HS := bif b then lostH h else anewH h
theorem miss_last {h : HS} (b : Bool) (t : ¬ h.tr < 8) : missH b h = ⟨7, h.im, 0, false, 8, ⟨#[]⟩, 2⟩ := by
  cases b
  · simp [missH, anewH, t]
  · simp [missH, lostH, t]
theorem miss_on {h : HS} (q : h.Ok) (b : Bool) (t : h.tr < 8) : (missH b h).Ok ∧ (missH b h).tr = h.tr + 1 ∧ (missH b h).im = h.im := by
  have m0 := many0 h.im
  have m1 := many1 q.im0
  have a := q.ph0
  have c := q.ph1
  have k : ∀ {ph bl rp : Int} {ag : Bool} {rd : ByteArray}, 1 ≤ ph → ph ≤ 6 → 0 ≤ bl → bl ≤ manyI h.im → rd.size ≤ 320 → 0 ≤ rp → rp ≤ 3 → HS.Ok ⟨ph, h.im, bl, ag, h.tr + 1, rd, rp⟩ :=
    fun p0 p1 b0 b1 r1 q0 q1 => ⟨p0, p1, q.im0, q.im1, b0, b1, by have := q.tr0; show 0 ≤ h.tr + 1; omega, by show h.tr + 1 ≤ 8; omega, r1, q0, q1⟩
  cases b
  · simp only [missH, anewH, t, cond_false, if_true]
    exact ⟨k (by decide) (by decide) (by decide) m0 (by decide) q.rp0 q.rp1, trivial, trivial⟩
  · simp only [missH, lostH, t, cond_true, if_true]
    split
    · exact ⟨k (by decide) (by decide) (by decide) m0 (by decide) q.rp0 q.rp1, rfl, rfl⟩
    · split
      · exact ⟨k (by decide) (by decide) q.bl0 q.bl1 q.rd1 q.rp0 q.rp1, rfl, rfl⟩
      · split
        · exact ⟨k (by decide) (by decide) q.bl0 q.bl1 q.rd1 q.rp0 q.rp1, rfl, rfl⟩
        · split
          · exact ⟨k (by decide) (by decide) (by decide) m1 (by decide) q.rp0 q.rp1, rfl, rfl⟩
          · exact ⟨k a c q.bl0 q.bl1 q.rd1 q.rp0 q.rp1, rfl, rfl⟩
theorem miss_take (h : HS) (b : Bool) : takeH h b (!b) ⟨#[]⟩ = missH b h := by
  cases b <;> rfl
theorem bit_one (x : Int) : Go.bits .and .i64 x 1 = 0 ∨ Go.bits .and .i64 x 1 = 1 := by
  have := Bt.and1 x
  omega
set_option maxRecDepth 100000 in
set_option maxHeartbeats 6400000 in
theorem tries_off (h : HS) (A : Option Addr) (n c : Nat) (w : World) (hi : h.im.size ≤ 1000000000000000) (hr : h.rd.size ≤ 1000000000000000) (hon : h.on = false) :
    Calls Try.prog 5 #[hostV h.ph h.im h.bl h.ag h.tr h.rd h.rp, .slice A n c] w fun e w' => e = .returned (.bool true) ∧ Below w.heap.size w w' := by
  have HB := Below.refl w.heap.size w
  have K0 := Blk.new w #[.int .i64 h.ph, .string h.im, .int .i64 h.bl, .bool h.ag, .int .i64 h.tr, .string h.rd, .int .i64 h.rp] 23
  have mm := Lib.hid (fun W : World => rhmay_c h.ph h.im h.bl h.ag h.tr h.rd h.rp W hi hr)
  cases hm : hostMay h.ph h.im h.bl h.tr h.rd h.rp
  · rw [hm] at mm
    clear hm hon
    go_enter Try.func5, Try.ntmps5
    go_wp2_with (first | (go_at_call 13; with_reducible refine (awake_c _).mono ?_; rintro e w' ⟨rfl, hb⟩; have HB := bl_step (w := w) (by repeat (with_reducible first | exact HB | (refine bl_set ?_ (by omega)) | apply bl_alloc | apply bl_drew | apply bl_drewN | fail)) hb; have hzB := HB.size; have K0 := Blk.on (by first | exact K0 | exact K0 #[] | exact K0 (.cells #[] 0) #[]) (by repeat (with_reducible first | exact K0 | exact K0 _ | exact K0 _ _ | apply Blk.alloc | apply Blk.drew | apply Blk.drewN | apply Blk.set7_0 | apply Blk.set7_1 | apply Blk.set7_2 | apply Blk.set7_3 | apply Blk.set7_4 | apply Blk.set7_5 | apply Blk.set7_6 | (apply Blk.off; (first | assumption | omega | (simp; omega))) | fail)) hb; (try clear cK0_0 cK0_1 cK0_2 cK0_3 cK0_4 cK0_5 cK0_6 fK0 lK0 nK0 mK0); obtain ⟨cK0_0, cK0_1, cK0_2, cK0_3, cK0_4, cK0_5, cK0_6, fK0, lK0, nK0, mK0⟩ := Blk.all7 K0) | (go_at_call 15; with_reducible refine (mm.out _).mono ?_; rintro e w' ⟨rfl, hb⟩; have HB := bl_step (w := w) (by repeat (with_reducible first | exact HB | (refine bl_set ?_ (by omega)) | apply bl_alloc | apply bl_drew | apply bl_drewN | fail)) hb; have hzB := HB.size; have K0 := Blk.on (by first | exact K0 | exact K0 #[] | exact K0 (.cells #[] 0) #[]) (by repeat (with_reducible first | exact K0 | exact K0 _ | exact K0 _ _ | apply Blk.alloc | apply Blk.drew | apply Blk.drewN | apply Blk.set7_0 | apply Blk.set7_1 | apply Blk.set7_2 | apply Blk.set7_3 | apply Blk.set7_4 | apply Blk.set7_5 | apply Blk.set7_6 | (apply Blk.off; (first | assumption | omega | (simp; omega))) | fail)) hb; (try clear cK0_0 cK0_1 cK0_2 cK0_3 cK0_4 cK0_5 cK0_6 fK0 lK0 nK0 mK0); obtain ⟨cK0_0, cK0_1, cK0_2, cK0_3, cK0_4, cK0_5, cK0_6, fK0, lK0, nK0, mK0⟩ := Blk.all7 K0) | fail)
    go_ret
    exact ⟨rfl, (by repeat (with_reducible first | exact Below.refl _ _ | assumption | (refine bl_set ?_ (by omega)) | apply bl_alloc | apply bl_drewN | apply bl_drew | (refine bl_step ?_ (by assumption)) | fail))⟩
  · rw [hm] at mm
    have ho : h.ph = 0 ∨ h.ph = 7 := by
      simp [HS.on, HS.may, hm, offB] at hon
      omega
    clear hm hon
    rcases ho with ho | ho
    · have p0 : (h.ph == 0) = true := by simp [ho]
      clear ho
      go_enter Try.func5, Try.ntmps5
      go_wp2_with (first | (go_at_call 13; with_reducible refine (awake_c _).mono ?_; rintro e w' ⟨rfl, hb⟩; have HB := bl_step (w := w) (by repeat (with_reducible first | exact HB | (refine bl_set ?_ (by omega)) | apply bl_alloc | apply bl_drew | apply bl_drewN | fail)) hb; have hzB := HB.size; have K0 := Blk.on (by first | exact K0 | exact K0 #[] | exact K0 (.cells #[] 0) #[]) (by repeat (with_reducible first | exact K0 | exact K0 _ | exact K0 _ _ | apply Blk.alloc | apply Blk.drew | apply Blk.drewN | apply Blk.set7_0 | apply Blk.set7_1 | apply Blk.set7_2 | apply Blk.set7_3 | apply Blk.set7_4 | apply Blk.set7_5 | apply Blk.set7_6 | (apply Blk.off; (first | assumption | omega | (simp; omega))) | fail)) hb; (try clear cK0_0 cK0_1 cK0_2 cK0_3 cK0_4 cK0_5 cK0_6 fK0 lK0 nK0 mK0); obtain ⟨cK0_0, cK0_1, cK0_2, cK0_3, cK0_4, cK0_5, cK0_6, fK0, lK0, nK0, mK0⟩ := Blk.all7 K0) | (go_at_call 15; with_reducible refine (mm.out _).mono ?_; rintro e w' ⟨rfl, hb⟩; have HB := bl_step (w := w) (by repeat (with_reducible first | exact HB | (refine bl_set ?_ (by omega)) | apply bl_alloc | apply bl_drew | apply bl_drewN | fail)) hb; have hzB := HB.size; have K0 := Blk.on (by first | exact K0 | exact K0 #[] | exact K0 (.cells #[] 0) #[]) (by repeat (with_reducible first | exact K0 | exact K0 _ | exact K0 _ _ | apply Blk.alloc | apply Blk.drew | apply Blk.drewN | apply Blk.set7_0 | apply Blk.set7_1 | apply Blk.set7_2 | apply Blk.set7_3 | apply Blk.set7_4 | apply Blk.set7_5 | apply Blk.set7_6 | (apply Blk.off; (first | assumption | omega | (simp; omega))) | fail)) hb; (try clear cK0_0 cK0_1 cK0_2 cK0_3 cK0_4 cK0_5 cK0_6 fK0 lK0 nK0 mK0); obtain ⟨cK0_0, cK0_1, cK0_2, cK0_3, cK0_4, cK0_5, cK0_6, fK0, lK0, nK0, mK0⟩ := Blk.all7 K0) | fail)
      go_ret
      exact ⟨rfl, (by repeat (with_reducible first | exact Below.refl _ _ | assumption | (refine bl_set ?_ (by omega)) | apply bl_alloc | apply bl_drewN | apply bl_drew | (refine bl_step ?_ (by assumption)) | fail))⟩
    · have p0 : (h.ph == 0) = false := by simp [ho]
      have p7 : (h.ph == 7) = true := by simp [ho]
      clear ho
      go_enter Try.func5, Try.ntmps5
      go_wp2_with (first | (go_at_call 13; with_reducible refine (awake_c _).mono ?_; rintro e w' ⟨rfl, hb⟩; have HB := bl_step (w := w) (by repeat (with_reducible first | exact HB | (refine bl_set ?_ (by omega)) | apply bl_alloc | apply bl_drew | apply bl_drewN | fail)) hb; have hzB := HB.size; have K0 := Blk.on (by first | exact K0 | exact K0 #[] | exact K0 (.cells #[] 0) #[]) (by repeat (with_reducible first | exact K0 | exact K0 _ | exact K0 _ _ | apply Blk.alloc | apply Blk.drew | apply Blk.drewN | apply Blk.set7_0 | apply Blk.set7_1 | apply Blk.set7_2 | apply Blk.set7_3 | apply Blk.set7_4 | apply Blk.set7_5 | apply Blk.set7_6 | (apply Blk.off; (first | assumption | omega | (simp; omega))) | fail)) hb; (try clear cK0_0 cK0_1 cK0_2 cK0_3 cK0_4 cK0_5 cK0_6 fK0 lK0 nK0 mK0); obtain ⟨cK0_0, cK0_1, cK0_2, cK0_3, cK0_4, cK0_5, cK0_6, fK0, lK0, nK0, mK0⟩ := Blk.all7 K0) | (go_at_call 15; with_reducible refine (mm.out _).mono ?_; rintro e w' ⟨rfl, hb⟩; have HB := bl_step (w := w) (by repeat (with_reducible first | exact HB | (refine bl_set ?_ (by omega)) | apply bl_alloc | apply bl_drew | apply bl_drewN | fail)) hb; have hzB := HB.size; have K0 := Blk.on (by first | exact K0 | exact K0 #[] | exact K0 (.cells #[] 0) #[]) (by repeat (with_reducible first | exact K0 | exact K0 _ | exact K0 _ _ | apply Blk.alloc | apply Blk.drew | apply Blk.drewN | apply Blk.set7_0 | apply Blk.set7_1 | apply Blk.set7_2 | apply Blk.set7_3 | apply Blk.set7_4 | apply Blk.set7_5 | apply Blk.set7_6 | (apply Blk.off; (first | assumption | omega | (simp; omega))) | fail)) hb; (try clear cK0_0 cK0_1 cK0_2 cK0_3 cK0_4 cK0_5 cK0_6 fK0 lK0 nK0 mK0); obtain ⟨cK0_0, cK0_1, cK0_2, cK0_3, cK0_4, cK0_5, cK0_6, fK0, lK0, nK0, mK0⟩ := Blk.all7 K0) | fail)
      go_ret
      exact ⟨rfl, (by repeat (with_reducible first | exact Below.refl _ _ | assumption | (refine bl_set ?_ (by omega)) | apply bl_alloc | apply bl_drewN | apply bl_drew | (refine bl_step ?_ (by assumption)) | fail))⟩
theorem way_new {wr W wq : World} {cs : Array Value} {t : TypeId} (h : Below wr.heap.size wr W) (hb : Below W.heap.size W wq) : ∃ g : Nat, Value.pointer (some ⟨wq.heap.size, 0, none⟩) = .pointer (some ⟨g, 0, none⟩) ∧ Value.int .i64 0 = .int .i64 0 ∧ wr.heap.size ≤ g ∧
    Aside (Blk (wq.alloc (.cells cs t)) g cs t) ∧ Aside (Below wr.heap.size wr (wq.alloc (.cells cs t))) :=
  ⟨_, rfl, rfl, Nat.le_trans h.size hb.size, Blk.new _ _ _, bl_alloc (bl_step h hb) _⟩
theorem way_old {wr W wq : World} {z0 z1 z2 z3 z4 z5 z6 v0 v1 v2 v3 v4 v5 v6 : Value} {t : TypeId} (h : Below wr.heap.size wr W) (hb : Below (W.alloc (.cells #[z0, z1, z2, z3, z4, z5, z6] t)).drew.heap.size (W.alloc (.cells #[z0, z1, z2, z3, z4, z5, z6] t)).drew wq) :
    ∃ g : Nat, Value.pointer (some ⟨W.heap.size, 0, none⟩) = .pointer (some ⟨g, 0, none⟩) ∧ Value.int .i64 0 = .int .i64 0 ∧ wr.heap.size ≤ g ∧
    Aside (Blk (((((((wq.setCell ⟨W.heap.size, 0, none⟩ v0).setCell ⟨W.heap.size, 1, none⟩ v1).setCell ⟨W.heap.size, 2, none⟩ v2).setCell ⟨W.heap.size, 3, none⟩ v3).setCell ⟨W.heap.size, 4, none⟩ v4).setCell ⟨W.heap.size, 5, none⟩ v5).setCell ⟨W.heap.size, 6, none⟩ v6) g #[v0, v1, v2, v3, v4, v5, v6] t) ∧
    Aside (Below wr.heap.size wr (((((((wq.setCell ⟨W.heap.size, 0, none⟩ v0).setCell ⟨W.heap.size, 1, none⟩ v1).setCell ⟨W.heap.size, 2, none⟩ v2).setCell ⟨W.heap.size, 3, none⟩ v3).setCell ⟨W.heap.size, 4, none⟩ v4).setCell ⟨W.heap.size, 5, none⟩ v5).setCell ⟨W.heap.size, 6, none⟩ v6)) :=
  ⟨_, rfl, rfl, h.size, Blk.set7_6 (Blk.set7_5 (Blk.set7_4 (Blk.set7_3 (Blk.set7_2 (Blk.set7_1 (Blk.set7_0 (Blk.below (Blk.new W _ t).drew hb) _) _) _) _) _) _) _,
    bl_set (bl_set (bl_set (bl_set (bl_set (bl_set (bl_set (bl_step (bl_drew (bl_alloc h _)) hb) h.size) h.size) h.size) h.size) h.size) h.size) h.size⟩
set_option maxRecDepth 100000 in
set_option maxHeartbeats 12800000 in
theorem tries_on (h0 : HS) (b off : Nat) (n c : Nat) (xs : List Int) (w : World) (hl : b < w.heap.size) (hx : ∀ j x, xs[j]? = some x → w.cell? ⟨b, off + j, none⟩ = some (.int .i64 x)) (hn : xs.length = n) (hn1 : n ≤ 9223372036854775807) (ok : h0.Ok) :
    Calls Try.prog 5 #[hostV h0.ph h0.im h0.bl h0.ag h0.tr h0.rd h0.rp, .slice (some ⟨b, off, none⟩) n c] w fun e w' => e = .returned (.bool true) ∧ Below w.heap.size w w' := by
  have HB := Below.refl w.heap.size w
  have K0 := Blk.new w #[.int .i64 h0.ph, .string h0.im, .int .i64 h0.bl, .bool h0.ag, .int .i64 h0.tr, .string h0.rd, .int .i64 h0.rp] 23
  have mm := Lib.hid (fun W : World => rhmay_c h0.ph h0.im h0.bl h0.ag h0.tr h0.rd h0.rp W (by have := ok.im1; omega) (by have := ok.rd1; omega))
  rw [show hostMay h0.ph h0.im h0.bl h0.tr h0.rd h0.rp = true from ok.fine.may] at mm
  have p0 : (h0.ph == 0) = false := beq_eq_false_iff_ne.2 (by have := ok.ph0; omega)
  have p7 : (h0.ph == 7) = false := beq_eq_false_iff_ne.2 (by have := ok.ph1; omega)
  have T0 := ok.tr0
  have T1 := ok.tr1
  have HN := Lib.hid hn
  have HX := Lib.hid hx
  have OK := Lib.hid ok
  clear hn ok hx
  go_enter Try.func5, Try.ntmps5
  go_wp2_with (first | (go_at_call 13; with_reducible refine (awake_c _).mono ?_; rintro e w' ⟨rfl, hb⟩; have HB := bl_step (w := w) (by repeat (with_reducible first | exact HB | (refine bl_set ?_ (by omega)) | apply bl_alloc | apply bl_drew | apply bl_drewN | fail)) hb; have hzB := HB.size; have K0 := Blk.on (by first | exact K0 | exact K0 #[] | exact K0 (.cells #[] 0) #[]) (by repeat (with_reducible first | exact K0 | exact K0 _ | exact K0 _ _ | apply Blk.alloc | apply Blk.drew | apply Blk.drewN | apply Blk.set7_0 | apply Blk.set7_1 | apply Blk.set7_2 | apply Blk.set7_3 | apply Blk.set7_4 | apply Blk.set7_5 | apply Blk.set7_6 | (apply Blk.off; (first | assumption | omega | (simp; omega))) | fail)) hb; (try clear cK0_0 cK0_1 cK0_2 cK0_3 cK0_4 cK0_5 cK0_6 fK0 lK0 nK0 mK0); obtain ⟨cK0_0, cK0_1, cK0_2, cK0_3, cK0_4, cK0_5, cK0_6, fK0, lK0, nK0, mK0⟩ := Blk.all7 K0) | (go_at_call 15; with_reducible refine (mm.out _).mono ?_; rintro e w' ⟨rfl, hb⟩; have HB := bl_step (w := w) (by repeat (with_reducible first | exact HB | (refine bl_set ?_ (by omega)) | apply bl_alloc | apply bl_drew | apply bl_drewN | fail)) hb; have hzB := HB.size; have K0 := Blk.on (by first | exact K0 | exact K0 #[] | exact K0 (.cells #[] 0) #[]) (by repeat (with_reducible first | exact K0 | exact K0 _ | exact K0 _ _ | apply Blk.alloc | apply Blk.drew | apply Blk.drewN | apply Blk.set7_0 | apply Blk.set7_1 | apply Blk.set7_2 | apply Blk.set7_3 | apply Blk.set7_4 | apply Blk.set7_5 | apply Blk.set7_6 | (apply Blk.off; (first | assumption | omega | (simp; omega))) | fail)) hb; (try clear cK0_0 cK0_1 cK0_2 cK0_3 cK0_4 cK0_5 cK0_6 fK0 lK0 nK0 mK0); obtain ⟨cK0_0, cK0_1, cK0_2, cK0_3, cK0_4, cK0_5, cK0_6, fK0, lK0, nK0, mK0⟩ := Blk.all7 K0) | fail)
  clear cK0_0 cK0_1 cK0_2 cK0_3 cK0_4 cK0_5 cK0_6 fK0 lK0 nK0 mK0 mm p0 p7 hb hzB
  go_loopg [6] 10 (fun gg s6 wr => ∃ (k : Nat) (h : HS), h.Ok ∧ 10 - k ≤ gg ∧ h.tr = h0.tr + (k : Int) ∧ s6 = .int .i64 k ∧ Aside (Below w.heap.size w wr) ∧ Aside (Blk wr w.heap.size h.cs 23))
  case atStart => exact ⟨0, h0, OK.out, by omega, by omega, rfl, HB, K0⟩
  case round =>
    clear HB K0
    obtain ⟨k, h, ok, hg, ht, rfl, BW, BK⟩ := hrel
    have HB := BW.out
    have K0 : Blk wr w.heap.size #[.int .i64 h.ph, .string h.im, .int .i64 h.bl, .bool h.ag, .int .i64 h.tr, .string h.rd, .int .i64 h.rp] 23 := BK.out
    clear BW BK
    have HT := Lib.hid ht
    have t0 := ok.tr0
    have t1 := ok.tr1
    have i1 := ok.im1
    have r1 := ok.rd1
    have kle8 : (k : Int) ≤ 8 - h0.tr := by omega
    have klt12 : (k : Int) < 12 := by omega
    have hzB := HB.size
    clear ht
    obtain ⟨cK0_0, cK0_1, cK0_2, cK0_3, cK0_4, cK0_5, cK0_6, fK0, lK0, nK0, mK0⟩ := Blk.all7 K0
    by_cases hlt : k < n
    · obtain ⟨x, hxk⟩ : ∃ x, xs[k]? = some x := ⟨_, List.getElem?_eq_getElem (by have := HN.out; omega)⟩
      have hcx : wr.cell? ⟨b, off + k, none⟩ = some (.int .i64 x) := (HB.cell (p := ⟨b, off + k, none⟩) hl).trans (HX.out k x hxk)
      have hki : (k : Int) < (n : Int) := by omega
      have hk0 : (0 : Int) ≤ (k : Int) := by omega
      clear hxk
      rcases bit_one x with hbit | hbit
      · have tk := Lib.hid (fun W : World => take_c h false true ⟨#[]⟩ W (by omega) (by omega) (by decide +kernel))
        rw [take_on ok, show takeH h false true ⟨#[]⟩ = missH false h from rfl] at tk
        go_upto_region 9 with fail
        have HC : wr.cell? ⟨w.heap.size, 0, none⟩ = some (.int .i64 h.ph) ∧ wr.cell? ⟨w.heap.size, 1, none⟩ = some (.string h.im) ∧ wr.cell? ⟨w.heap.size, 2, none⟩ = some (.int .i64 h.bl) ∧ wr.cell? ⟨w.heap.size, 3, none⟩ = some (.bool h.ag) ∧ wr.cell? ⟨w.heap.size, 4, none⟩ = some (.int .i64 h.tr) ∧ wr.cell? ⟨w.heap.size, 5, none⟩ = some (.string h.rd) ∧ wr.cell? ⟨w.heap.size, 6, none⟩ = some (.int .i64 h.rp) ∧ wr.cell? ⟨b, off + k, none⟩ = some (.int .i64 x) := ⟨cK0_0, cK0_1, cK0_2, cK0_3, cK0_4, cK0_5, cK0_6, hcx⟩
        go_cut [7, 8] (fun v7 v8 wc => ∃ g : Nat, v7 = .pointer (some ⟨g, 0, none⟩) ∧ v8 = .int .i64 0 ∧ wr.heap.size ≤ g ∧ Aside (Blk wc g (missH false h).cs 23) ∧ Aside (Below wr.heap.size wr wc))
        case first =>
          go_region_held3 (fun W => W.cell? ⟨w.heap.size, 0, none⟩ = some (.int .i64 h.ph) ∧ W.cell? ⟨w.heap.size, 1, none⟩ = some (.string h.im) ∧ W.cell? ⟨w.heap.size, 2, none⟩ = some (.int .i64 h.bl) ∧ W.cell? ⟨w.heap.size, 3, none⟩ = some (.bool h.ag) ∧ W.cell? ⟨w.heap.size, 4, none⟩ = some (.int .i64 h.tr) ∧ W.cell? ⟨w.heap.size, 5, none⟩ = some (.string h.rd) ∧ W.cell? ⟨w.heap.size, 6, none⟩ = some (.int .i64 h.rp) ∧ W.cell? ⟨b, off + k, none⟩ = some (.int .i64 x) ∧ Below wr.heap.size wr W) (first | (refine k8 HC ?_; (repeat (with_reducible first | exact Below.refl _ _ | (apply kz8; assumption) | apply bl_alloc | apply bl_drew | apply bl_drewN | (refine bl_set ?_ (by omega)) | (refine bl_step ?_ (by assumption)) | fail)); done) | fail) (first | (go_at_call 10; with_reducible refine (tk.out _).mono ?_; rintro e wq ⟨rfl, hb⟩; obtain ⟨hcc, hff, hll, hnn, hnm⟩ := keep hb; have hzq : wr.heap.size ≤ wq.heap.size := Nat.le_trans (by simp) hb.size) | fail)
          all_goals (go_wp2_with fail; go_meet)
          · with_reducible refine way_new ?_ hb
            exact bl_drew (Below.refl _ _)
          · with_reducible refine way_old ?_ hb
            exact Below.refl _ _
        case rest =>
          obtain ⟨g, rfl, rfl, hgr, BK1, BB⟩ := hcut
          have hb := BB.out
          clear BB tk HC hcx hbit
          have HB := bl_step (w := w) (by repeat (with_reducible first | exact HB | (refine bl_set ?_ (by omega)) | apply bl_alloc | apply bl_drew | apply bl_drewN | fail)) hb; have hzB := HB.size; have K0 := Blk.on (by first | exact K0 | exact K0 #[] | exact K0 (.cells #[] 0) #[]) (by repeat (with_reducible first | exact K0 | exact K0 _ | exact K0 _ _ | apply Blk.alloc | apply Blk.drew | apply Blk.drewN | apply Blk.set7_0 | apply Blk.set7_1 | apply Blk.set7_2 | apply Blk.set7_3 | apply Blk.set7_4 | apply Blk.set7_5 | apply Blk.set7_6 | (apply Blk.off; (first | assumption | omega | (simp; omega))) | fail)) hb; (try clear cK0_0 cK0_1 cK0_2 cK0_3 cK0_4 cK0_5 cK0_6 fK0 lK0 nK0 mK0); obtain ⟨cK0_0, cK0_1, cK0_2, cK0_3, cK0_4, cK0_5, cK0_6, fK0, lK0, nK0, mK0⟩ := Blk.all7 K0
          by_cases t : h.tr < 8
          · obtain ⟨q1, q2, q3⟩ := miss_on ok false t
            have K1 : Blk wc g #[.int .i64 (missH false h).ph, .string (missH false h).im, .int .i64 (missH false h).bl, .bool (missH false h).ag, .int .i64 (missH false h).tr, .string (missH false h).rd, .int .i64 (missH false h).rp] 23 := BK1.out
            clear BK1
            have Q1 := Lib.hid q1
            have Q2 := Lib.hid q2
            have m1 := Lib.hid (fun W : World => rhmay_c (missH false h).ph (missH false h).im (missH false h).bl (missH false h).ag (missH false h).tr (missH false h).rd (missH false h).rp W (by have := q1.im1; omega) (by have := q1.rd1; omega))
            rw [show hostMay (missH false h).ph (missH false h).im (missH false h).bl (missH false h).tr (missH false h).rd (missH false h).rp = true from q1.fine.may] at m1
            have e1 : ((missH false h).im.toList == h.im.toList) = true := eqs_t q3
            have e1' : ((missH false h).im.toList != h.im.toList) = false := by rw [bne, e1]; rfl
            have e2 : ((k : Int) == 8 - h0.tr) = false := beq_eq_false_iff_ne.2 (by have := HT.out; omega)
            have e3 : ((missH false h).ph == 7) = false := beq_eq_false_iff_ne.2 (by have := q1.ph1; omega)
            have e4 : ((missH false h).tr != h.tr + 1) = false := by rw [q2]; simp
            clear q1 q2 q3
            generalize missH false h = X at *
            obtain ⟨cK1_0, cK1_1, cK1_2, cK1_3, cK1_4, cK1_5, cK1_6, fK1, lK1, nK1, mK1⟩ := Blk.all7 K1
            go_wp2_with (first | (go_at_call 12; with_reducible refine (enum_c _ _).mono ?_; rintro e w' ⟨rfl, rfl⟩) | (go_at_call 15; with_reducible refine (m1.out _).mono ?_; rintro e w' ⟨rfl, hb⟩; have HB := bl_step (w := w) (by repeat (with_reducible first | exact HB | (refine bl_set ?_ (by omega)) | apply bl_alloc | apply bl_drew | apply bl_drewN | fail)) hb; have hzB := HB.size; have K0 := Blk.on (by first | exact K0 | exact K0 #[] | exact K0 (.cells #[] 0) #[]) (by repeat (with_reducible first | exact K0 | exact K0 _ | exact K0 _ _ | apply Blk.alloc | apply Blk.drew | apply Blk.drewN | apply Blk.set7_0 | apply Blk.set7_1 | apply Blk.set7_2 | apply Blk.set7_3 | apply Blk.set7_4 | apply Blk.set7_5 | apply Blk.set7_6 | (apply Blk.off; (first | assumption | omega | (simp; omega))) | fail)) hb; (try clear cK0_0 cK0_1 cK0_2 cK0_3 cK0_4 cK0_5 cK0_6 fK0 lK0 nK0 mK0); obtain ⟨cK0_0, cK0_1, cK0_2, cK0_3, cK0_4, cK0_5, cK0_6, fK0, lK0, nK0, mK0⟩ := Blk.all7 K0; have K1 := Blk.on (by first | exact K1 | exact K1 #[] | exact K1 (.cells #[] 0) #[]) (by repeat (with_reducible first | exact K1 | exact K1 _ | exact K1 _ _ | apply Blk.alloc | apply Blk.drew | apply Blk.drewN | apply Blk.set7_0 | apply Blk.set7_1 | apply Blk.set7_2 | apply Blk.set7_3 | apply Blk.set7_4 | apply Blk.set7_5 | apply Blk.set7_6 | (apply Blk.off; (first | assumption | omega | (simp; omega))) | fail)) hb; (try clear cK1_0 cK1_1 cK1_2 cK1_3 cK1_4 cK1_5 cK1_6 fK1 lK1 nK1 mK1); obtain ⟨cK1_0, cK1_1, cK1_2, cK1_3, cK1_4, cK1_5, cK1_6, fK1, lK1, nK1, mK1⟩ := Blk.all7 K1) | fail)
            go_roundg (10 - (k + 1))
            case measure => omega
            case rel => exact ⟨k + 1, X, Q1.out, by omega, by rw [Q2.out, HT.out]; omega, by go_num, (by show Below _ _ _; exact (by repeat (with_reducible first | exact Below.refl _ _ | assumption | (refine bl_set ?_ (by omega)) | apply bl_alloc | apply bl_drewN | apply bl_drew | (refine bl_step ?_ (by assumption)) | fail))), (by show Blk _ _ _ _; exact (by repeat (with_reducible first | exact K0 | apply Blk.alloc | apply Blk.set7_0 | apply Blk.set7_1 | apply Blk.set7_2 | apply Blk.set7_3 | apply Blk.set7_4 | apply Blk.set7_5 | apply Blk.set7_6 | fail)))⟩
          · have K1 : Blk wc g #[.int .i64 7, .string h.im, .int .i64 0, .bool false, .int .i64 8, .string ⟨#[]⟩, .int .i64 2] 23 := by
              have := BK1.out
              rw [miss_last false t] at this
              exact this
            clear BK1
            have m1 := Lib.hid (fun W : World => rhmay_c 7 h.im 0 false 8 ⟨#[]⟩ 2 W (by omega) (by decide))
            rw [show hostMay 7 h.im 0 8 ⟨#[]⟩ 2 = true from (mk_keeps ok (ag := false) (by decide) (by decide) (by decide) (many0 h.im) (by omega) (by decide) (by decide) (by decide) (by decide) : Keeps h ⟨7, h.im, 0, false, 8, ⟨#[]⟩, 2⟩).1.may] at m1
            have e2 : ((k : Int) == 8 - h0.tr) = true := by have := HT.out; simp; omega
            obtain ⟨cK1_0, cK1_1, cK1_2, cK1_3, cK1_4, cK1_5, cK1_6, fK1, lK1, nK1, mK1⟩ := Blk.all7 K1
            go_wp2_with (first | (go_at_call 12; with_reducible refine (enum_c _ _).mono ?_; rintro e w' ⟨rfl, rfl⟩) | (go_at_call 15; with_reducible refine (m1.out _).mono ?_; rintro e w' ⟨rfl, hb⟩; have HB := bl_step (w := w) (by repeat (with_reducible first | exact HB | (refine bl_set ?_ (by omega)) | apply bl_alloc | apply bl_drew | apply bl_drewN | fail)) hb; have hzB := HB.size; have K0 := Blk.on (by first | exact K0 | exact K0 #[] | exact K0 (.cells #[] 0) #[]) (by repeat (with_reducible first | exact K0 | exact K0 _ | exact K0 _ _ | apply Blk.alloc | apply Blk.drew | apply Blk.drewN | apply Blk.set7_0 | apply Blk.set7_1 | apply Blk.set7_2 | apply Blk.set7_3 | apply Blk.set7_4 | apply Blk.set7_5 | apply Blk.set7_6 | (apply Blk.off; (first | assumption | omega | (simp; omega))) | fail)) hb; (try clear cK0_0 cK0_1 cK0_2 cK0_3 cK0_4 cK0_5 cK0_6 fK0 lK0 nK0 mK0); obtain ⟨cK0_0, cK0_1, cK0_2, cK0_3, cK0_4, cK0_5, cK0_6, fK0, lK0, nK0, mK0⟩ := Blk.all7 K0; have K1 := Blk.on (by first | exact K1 | exact K1 #[] | exact K1 (.cells #[] 0) #[]) (by repeat (with_reducible first | exact K1 | exact K1 _ | exact K1 _ _ | apply Blk.alloc | apply Blk.drew | apply Blk.drewN | apply Blk.set7_0 | apply Blk.set7_1 | apply Blk.set7_2 | apply Blk.set7_3 | apply Blk.set7_4 | apply Blk.set7_5 | apply Blk.set7_6 | (apply Blk.off; (first | assumption | omega | (simp; omega))) | fail)) hb; (try clear cK1_0 cK1_1 cK1_2 cK1_3 cK1_4 cK1_5 cK1_6 fK1 lK1 nK1 mK1); obtain ⟨cK1_0, cK1_1, cK1_2, cK1_3, cK1_4, cK1_5, cK1_6, fK1, lK1, nK1, mK1⟩ := Blk.all7 K1) | fail)
            go_ret
            exact ⟨rfl, (by repeat (with_reducible first | exact Below.refl _ _ | assumption | (refine bl_set ?_ (by omega)) | apply bl_alloc | apply bl_drewN | apply bl_drew | (refine bl_step ?_ (by assumption)) | fail))⟩
      · have tk := Lib.hid (fun W : World => take_c h true false ⟨#[]⟩ W (by omega) (by omega) (by decide +kernel))
        rw [take_on ok, show takeH h true false ⟨#[]⟩ = missH true h from rfl] at tk
        go_upto_region 9 with fail
        have HC : wr.cell? ⟨w.heap.size, 0, none⟩ = some (.int .i64 h.ph) ∧ wr.cell? ⟨w.heap.size, 1, none⟩ = some (.string h.im) ∧ wr.cell? ⟨w.heap.size, 2, none⟩ = some (.int .i64 h.bl) ∧ wr.cell? ⟨w.heap.size, 3, none⟩ = some (.bool h.ag) ∧ wr.cell? ⟨w.heap.size, 4, none⟩ = some (.int .i64 h.tr) ∧ wr.cell? ⟨w.heap.size, 5, none⟩ = some (.string h.rd) ∧ wr.cell? ⟨w.heap.size, 6, none⟩ = some (.int .i64 h.rp) ∧ wr.cell? ⟨b, off + k, none⟩ = some (.int .i64 x) := ⟨cK0_0, cK0_1, cK0_2, cK0_3, cK0_4, cK0_5, cK0_6, hcx⟩
        go_cut [7, 8] (fun v7 v8 wc => ∃ g : Nat, v7 = .pointer (some ⟨g, 0, none⟩) ∧ v8 = .int .i64 0 ∧ wr.heap.size ≤ g ∧ Aside (Blk wc g (missH true h).cs 23) ∧ Aside (Below wr.heap.size wr wc))
        case first =>
          go_region_held3 (fun W => W.cell? ⟨w.heap.size, 0, none⟩ = some (.int .i64 h.ph) ∧ W.cell? ⟨w.heap.size, 1, none⟩ = some (.string h.im) ∧ W.cell? ⟨w.heap.size, 2, none⟩ = some (.int .i64 h.bl) ∧ W.cell? ⟨w.heap.size, 3, none⟩ = some (.bool h.ag) ∧ W.cell? ⟨w.heap.size, 4, none⟩ = some (.int .i64 h.tr) ∧ W.cell? ⟨w.heap.size, 5, none⟩ = some (.string h.rd) ∧ W.cell? ⟨w.heap.size, 6, none⟩ = some (.int .i64 h.rp) ∧ W.cell? ⟨b, off + k, none⟩ = some (.int .i64 x) ∧ Below wr.heap.size wr W) (first | (refine k8 HC ?_; (repeat (with_reducible first | exact Below.refl _ _ | (apply kz8; assumption) | apply bl_alloc | apply bl_drew | apply bl_drewN | (refine bl_set ?_ (by omega)) | (refine bl_step ?_ (by assumption)) | fail)); done) | fail) (first | (go_at_call 10; with_reducible refine (tk.out _).mono ?_; rintro e wq ⟨rfl, hb⟩; obtain ⟨hcc, hff, hll, hnn, hnm⟩ := keep hb; have hzq : wr.heap.size ≤ wq.heap.size := Nat.le_trans (by simp) hb.size) | fail)
          all_goals (go_wp2_with fail; go_meet)
          · with_reducible refine way_new ?_ hb
            exact bl_drew (Below.refl _ _)
          · with_reducible refine way_old ?_ hb
            exact Below.refl _ _
        case rest =>
          obtain ⟨g, rfl, rfl, hgr, BK1, BB⟩ := hcut
          have hb := BB.out
          clear BB tk HC hcx hbit
          have HB := bl_step (w := w) (by repeat (with_reducible first | exact HB | (refine bl_set ?_ (by omega)) | apply bl_alloc | apply bl_drew | apply bl_drewN | fail)) hb; have hzB := HB.size; have K0 := Blk.on (by first | exact K0 | exact K0 #[] | exact K0 (.cells #[] 0) #[]) (by repeat (with_reducible first | exact K0 | exact K0 _ | exact K0 _ _ | apply Blk.alloc | apply Blk.drew | apply Blk.drewN | apply Blk.set7_0 | apply Blk.set7_1 | apply Blk.set7_2 | apply Blk.set7_3 | apply Blk.set7_4 | apply Blk.set7_5 | apply Blk.set7_6 | (apply Blk.off; (first | assumption | omega | (simp; omega))) | fail)) hb; (try clear cK0_0 cK0_1 cK0_2 cK0_3 cK0_4 cK0_5 cK0_6 fK0 lK0 nK0 mK0); obtain ⟨cK0_0, cK0_1, cK0_2, cK0_3, cK0_4, cK0_5, cK0_6, fK0, lK0, nK0, mK0⟩ := Blk.all7 K0
          by_cases t : h.tr < 8
          · obtain ⟨q1, q2, q3⟩ := miss_on ok true t
            have K1 : Blk wc g #[.int .i64 (missH true h).ph, .string (missH true h).im, .int .i64 (missH true h).bl, .bool (missH true h).ag, .int .i64 (missH true h).tr, .string (missH true h).rd, .int .i64 (missH true h).rp] 23 := BK1.out
            clear BK1
            have Q1 := Lib.hid q1
            have Q2 := Lib.hid q2
            have m1 := Lib.hid (fun W : World => rhmay_c (missH true h).ph (missH true h).im (missH true h).bl (missH true h).ag (missH true h).tr (missH true h).rd (missH true h).rp W (by have := q1.im1; omega) (by have := q1.rd1; omega))
            rw [show hostMay (missH true h).ph (missH true h).im (missH true h).bl (missH true h).tr (missH true h).rd (missH true h).rp = true from q1.fine.may] at m1
            have e1 : ((missH true h).im.toList == h.im.toList) = true := eqs_t q3
            have e1' : ((missH true h).im.toList != h.im.toList) = false := by rw [bne, e1]; rfl
            have e2 : ((k : Int) == 8 - h0.tr) = false := beq_eq_false_iff_ne.2 (by have := HT.out; omega)
            have e3 : ((missH true h).ph == 7) = false := beq_eq_false_iff_ne.2 (by have := q1.ph1; omega)
            have e4 : ((missH true h).tr != h.tr + 1) = false := by rw [q2]; simp
            clear q1 q2 q3
            generalize missH true h = X at *
            obtain ⟨cK1_0, cK1_1, cK1_2, cK1_3, cK1_4, cK1_5, cK1_6, fK1, lK1, nK1, mK1⟩ := Blk.all7 K1
            go_wp2_with (first | (go_at_call 12; with_reducible refine (enum_c _ _).mono ?_; rintro e w' ⟨rfl, rfl⟩) | (go_at_call 15; with_reducible refine (m1.out _).mono ?_; rintro e w' ⟨rfl, hb⟩; have HB := bl_step (w := w) (by repeat (with_reducible first | exact HB | (refine bl_set ?_ (by omega)) | apply bl_alloc | apply bl_drew | apply bl_drewN | fail)) hb; have hzB := HB.size; have K0 := Blk.on (by first | exact K0 | exact K0 #[] | exact K0 (.cells #[] 0) #[]) (by repeat (with_reducible first | exact K0 | exact K0 _ | exact K0 _ _ | apply Blk.alloc | apply Blk.drew | apply Blk.drewN | apply Blk.set7_0 | apply Blk.set7_1 | apply Blk.set7_2 | apply Blk.set7_3 | apply Blk.set7_4 | apply Blk.set7_5 | apply Blk.set7_6 | (apply Blk.off; (first | assumption | omega | (simp; omega))) | fail)) hb; (try clear cK0_0 cK0_1 cK0_2 cK0_3 cK0_4 cK0_5 cK0_6 fK0 lK0 nK0 mK0); obtain ⟨cK0_0, cK0_1, cK0_2, cK0_3, cK0_4, cK0_5, cK0_6, fK0, lK0, nK0, mK0⟩ := Blk.all7 K0; have K1 := Blk.on (by first | exact K1 | exact K1 #[] | exact K1 (.cells #[] 0) #[]) (by repeat (with_reducible first | exact K1 | exact K1 _ | exact K1 _ _ | apply Blk.alloc | apply Blk.drew | apply Blk.drewN | apply Blk.set7_0 | apply Blk.set7_1 | apply Blk.set7_2 | apply Blk.set7_3 | apply Blk.set7_4 | apply Blk.set7_5 | apply Blk.set7_6 | (apply Blk.off; (first | assumption | omega | (simp; omega))) | fail)) hb; (try clear cK1_0 cK1_1 cK1_2 cK1_3 cK1_4 cK1_5 cK1_6 fK1 lK1 nK1 mK1); obtain ⟨cK1_0, cK1_1, cK1_2, cK1_3, cK1_4, cK1_5, cK1_6, fK1, lK1, nK1, mK1⟩ := Blk.all7 K1) | fail)
            go_roundg (10 - (k + 1))
            case measure => omega
            case rel => exact ⟨k + 1, X, Q1.out, by omega, by rw [Q2.out, HT.out]; omega, by go_num, (by show Below _ _ _; exact (by repeat (with_reducible first | exact Below.refl _ _ | assumption | (refine bl_set ?_ (by omega)) | apply bl_alloc | apply bl_drewN | apply bl_drew | (refine bl_step ?_ (by assumption)) | fail))), (by show Blk _ _ _ _; exact (by repeat (with_reducible first | exact K0 | apply Blk.alloc | apply Blk.set7_0 | apply Blk.set7_1 | apply Blk.set7_2 | apply Blk.set7_3 | apply Blk.set7_4 | apply Blk.set7_5 | apply Blk.set7_6 | fail)))⟩
          · have K1 : Blk wc g #[.int .i64 7, .string h.im, .int .i64 0, .bool false, .int .i64 8, .string ⟨#[]⟩, .int .i64 2] 23 := by
              have := BK1.out
              rw [miss_last true t] at this
              exact this
            clear BK1
            have m1 := Lib.hid (fun W : World => rhmay_c 7 h.im 0 false 8 ⟨#[]⟩ 2 W (by omega) (by decide))
            rw [show hostMay 7 h.im 0 8 ⟨#[]⟩ 2 = true from (mk_keeps ok (ag := false) (by decide) (by decide) (by decide) (many0 h.im) (by omega) (by decide) (by decide) (by decide) (by decide) : Keeps h ⟨7, h.im, 0, false, 8, ⟨#[]⟩, 2⟩).1.may] at m1
            have e2 : ((k : Int) == 8 - h0.tr) = true := by have := HT.out; simp; omega
            obtain ⟨cK1_0, cK1_1, cK1_2, cK1_3, cK1_4, cK1_5, cK1_6, fK1, lK1, nK1, mK1⟩ := Blk.all7 K1
            go_wp2_with (first | (go_at_call 12; with_reducible refine (enum_c _ _).mono ?_; rintro e w' ⟨rfl, rfl⟩) | (go_at_call 15; with_reducible refine (m1.out _).mono ?_; rintro e w' ⟨rfl, hb⟩; have HB := bl_step (w := w) (by repeat (with_reducible first | exact HB | (refine bl_set ?_ (by omega)) | apply bl_alloc | apply bl_drew | apply bl_drewN | fail)) hb; have hzB := HB.size; have K0 := Blk.on (by first | exact K0 | exact K0 #[] | exact K0 (.cells #[] 0) #[]) (by repeat (with_reducible first | exact K0 | exact K0 _ | exact K0 _ _ | apply Blk.alloc | apply Blk.drew | apply Blk.drewN | apply Blk.set7_0 | apply Blk.set7_1 | apply Blk.set7_2 | apply Blk.set7_3 | apply Blk.set7_4 | apply Blk.set7_5 | apply Blk.set7_6 | (apply Blk.off; (first | assumption | omega | (simp; omega))) | fail)) hb; (try clear cK0_0 cK0_1 cK0_2 cK0_3 cK0_4 cK0_5 cK0_6 fK0 lK0 nK0 mK0); obtain ⟨cK0_0, cK0_1, cK0_2, cK0_3, cK0_4, cK0_5, cK0_6, fK0, lK0, nK0, mK0⟩ := Blk.all7 K0; have K1 := Blk.on (by first | exact K1 | exact K1 #[] | exact K1 (.cells #[] 0) #[]) (by repeat (with_reducible first | exact K1 | exact K1 _ | exact K1 _ _ | apply Blk.alloc | apply Blk.drew | apply Blk.drewN | apply Blk.set7_0 | apply Blk.set7_1 | apply Blk.set7_2 | apply Blk.set7_3 | apply Blk.set7_4 | apply Blk.set7_5 | apply Blk.set7_6 | (apply Blk.off; (first | assumption | omega | (simp; omega))) | fail)) hb; (try clear cK1_0 cK1_1 cK1_2 cK1_3 cK1_4 cK1_5 cK1_6 fK1 lK1 nK1 mK1); obtain ⟨cK1_0, cK1_1, cK1_2, cK1_3, cK1_4, cK1_5, cK1_6, fK1, lK1, nK1, mK1⟩ := Blk.all7 K1) | fail)
            go_ret
            exact ⟨rfl, (by repeat (with_reducible first | exact Below.refl _ _ | assumption | (refine bl_set ?_ (by omega)) | apply bl_alloc | apply bl_drewN | apply bl_drew | (refine bl_step ?_ (by assumption)) | fail))⟩
    · have hge : (n : Int) ≤ (k : Int) := by omega
      go_wp2_with fail
      go_ret
      exact ⟨rfl, (by repeat (with_reducible first | exact Below.refl _ _ | assumption | (refine bl_set ?_ (by omega)) | apply bl_alloc | apply bl_drewN | apply bl_drew | (refine bl_step ?_ (by assumption)) | fail))⟩
set_option maxRecDepth 100000 in
set_option maxHeartbeats 6400000 in
theorem tries_nil (h0 : HS) (A : Option Addr) (c : Nat) (w : World) (ok : h0.Ok) :
    Calls Try.prog 5 #[hostV h0.ph h0.im h0.bl h0.ag h0.tr h0.rd h0.rp, .slice A 0 c] w fun e w' => e = .returned (.bool true) ∧ Below w.heap.size w w' := by
  have HB := Below.refl w.heap.size w
  have K0 := Blk.new w #[.int .i64 h0.ph, .string h0.im, .int .i64 h0.bl, .bool h0.ag, .int .i64 h0.tr, .string h0.rd, .int .i64 h0.rp] 23
  have mm := Lib.hid (fun W : World => rhmay_c h0.ph h0.im h0.bl h0.ag h0.tr h0.rd h0.rp W (by have := ok.im1; omega) (by have := ok.rd1; omega))
  rw [show hostMay h0.ph h0.im h0.bl h0.tr h0.rd h0.rp = true from ok.fine.may] at mm
  have p0 : (h0.ph == 0) = false := beq_eq_false_iff_ne.2 (by have := ok.ph0; omega)
  have p7 : (h0.ph == 7) = false := beq_eq_false_iff_ne.2 (by have := ok.ph1; omega)
  have T0 := ok.tr0
  have T1 := ok.tr1
  clear ok
  go_enter Try.func5, Try.ntmps5
  go_wp2_with (first | (go_at_call 13; with_reducible refine (awake_c _).mono ?_; rintro e w' ⟨rfl, hb⟩; have HB := bl_step (w := w) (by repeat (with_reducible first | exact HB | (refine bl_set ?_ (by omega)) | apply bl_alloc | apply bl_drew | apply bl_drewN | fail)) hb; have hzB := HB.size; have K0 := Blk.on (by first | exact K0 | exact K0 #[] | exact K0 (.cells #[] 0) #[]) (by repeat (with_reducible first | exact K0 | exact K0 _ | exact K0 _ _ | apply Blk.alloc | apply Blk.drew | apply Blk.drewN | apply Blk.set7_0 | apply Blk.set7_1 | apply Blk.set7_2 | apply Blk.set7_3 | apply Blk.set7_4 | apply Blk.set7_5 | apply Blk.set7_6 | (apply Blk.off; (first | assumption | omega | (simp; omega))) | fail)) hb; (try clear cK0_0 cK0_1 cK0_2 cK0_3 cK0_4 cK0_5 cK0_6 fK0 lK0 nK0 mK0); obtain ⟨cK0_0, cK0_1, cK0_2, cK0_3, cK0_4, cK0_5, cK0_6, fK0, lK0, nK0, mK0⟩ := Blk.all7 K0) | (go_at_call 15; with_reducible refine (mm.out _).mono ?_; rintro e w' ⟨rfl, hb⟩; have HB := bl_step (w := w) (by repeat (with_reducible first | exact HB | (refine bl_set ?_ (by omega)) | apply bl_alloc | apply bl_drew | apply bl_drewN | fail)) hb; have hzB := HB.size; have K0 := Blk.on (by first | exact K0 | exact K0 #[] | exact K0 (.cells #[] 0) #[]) (by repeat (with_reducible first | exact K0 | exact K0 _ | exact K0 _ _ | apply Blk.alloc | apply Blk.drew | apply Blk.drewN | apply Blk.set7_0 | apply Blk.set7_1 | apply Blk.set7_2 | apply Blk.set7_3 | apply Blk.set7_4 | apply Blk.set7_5 | apply Blk.set7_6 | (apply Blk.off; (first | assumption | omega | (simp; omega))) | fail)) hb; (try clear cK0_0 cK0_1 cK0_2 cK0_3 cK0_4 cK0_5 cK0_6 fK0 lK0 nK0 mK0); obtain ⟨cK0_0, cK0_1, cK0_2, cK0_3, cK0_4, cK0_5, cK0_6, fK0, lK0, nK0, mK0⟩ := Blk.all7 K0) | fail)
  clear cK0_0 cK0_1 cK0_2 cK0_3 cK0_4 cK0_5 cK0_6 fK0 lK0 nK0 mK0 mm p0 p7 hb hzB
  go_loopg [6] 1 (fun gg s6 wr => s6 = .int .i64 0 ∧ Aside (Below w.heap.size w wr))
  case atStart => exact ⟨rfl, HB⟩
  case round =>
    clear HB
    obtain ⟨rfl, BW⟩ := hrel
    have HB := BW.out
    clear BW
    go_wp2_with fail
    go_ret
    exact ⟨rfl, (by repeat (with_reducible first | exact Below.refl _ _ | assumption | (refine bl_set ?_ (by omega)) | apply bl_alloc | apply bl_drewN | apply bl_drew | (refine bl_step ?_ (by assumption)) | fail))⟩
theorem tries_w (ph : Int) (im : ByteArray) (bl : Int) (ag : Bool) (tr : Int) (rd : ByteArray) (rp : Int) (A : Option Addr) (n c : Nat) (xs : List Int) (w : World) (hi : im.size ≤ 1000000000000000) (hr : rd.size ≤ 1000000000000000) (R : Lies encI 1 w A xs) (hn : xs.length = n) (hn1 : n ≤ 9223372036854775807) :
    Calls Try.prog 5 #[hostV ph im bl ag tr rd rp, .slice A n c] w fun e w' => e = .returned (.bool true) ∧ Below w.heap.size w w' := by
  cases hon : HS.on ⟨ph, im, bl, ag, tr, rd, rp⟩
  · exact tries_off ⟨ph, im, bl, ag, tr, rd, rp⟩ A n c w hi hr hon
  · have ok := (HS.on_iff _).1 hon
    rcases R with e | ⟨b, off, rfl, hl, hc⟩
    · subst e
      subst hn
      exact tries_nil ⟨ph, im, bl, ag, tr, rd, rp⟩ A c w ok
    · exact tries_on ⟨ph, im, bl, ag, tr, rd, rp⟩ b off n c xs w hl (fun j x hj => by have := hc j x hj 0 (.int .i64 x) rfl; simpa using this) hn hn1 ok
end Go.Proofs.Ythoonffbadhplaa.Rp

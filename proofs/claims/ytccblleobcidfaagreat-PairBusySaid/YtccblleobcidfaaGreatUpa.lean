/- Layer 20: reading back: what the program's Give answers, where a block may be read back (printed by gen_upa.py). -/
import Derived.Test.YtccblleobcidfaaGreatDlb
import Derived.Test.YtccblleobcidfaaGreatGt
import Derived.Test.YtccblleobcidfaaGreatGs
import Derived.Test.YtccblleobcidfaaGreatGy
import Derived.Test.YtccblleobcidfaaGreatGb
namespace Go.Proofs.YtccblleobcidfaaGreat.Dv
open Go.RowKit Go.Proofs.YtccblleobcidfaaGreat.Kt Go.Proofs.YtccblleobcidfaaGreat.Lw Go.Proofs.YtccblleobcidfaaGreat.St Go.Proofs.YtccblleobcidfaaGreat.Nm Go.Proofs.YtccblleobcidfaaGreat.Es Go.Proofs.YtccblleobcidfaaGreat.By Go.Proofs.YtccblleobcidfaaGreat.En Go.Proofs.YtccblleobcidfaaGreat.Jr Go.Proofs.YtccblleobcidfaaGreat.Im Go.Proofs.YtccblleobcidfaaGreat.Sl Go.Proofs.YtccblleobcidfaaGreat.Gr Go.Proofs.YtccblleobcidfaaGreat.Ops Go.Proofs.YtccblleobcidfaaGreat.Ch Go.Proofs.YtccblleobcidfaaGreat.Fl Go.Proofs.YtccblleobcidfaaGreat.Pl
set_option linter.unusedVariables false
set_option linter.unusedSimpArgs false
attribute [local irreducible] gotB goodB Cr.crcB nQ nS nZ nM placeB wholeB devMay
/-- the same, and the row lies lower than a block. -/
def OwnT (w : World) (base top : Nat) (A : Option Addr) (xs : List OpV) : Prop := Own w base A xs ∧ (xs = [] ∨ ∃ g off, A = some ⟨g, off, none⟩ ∧ g < top)
theorem Own.top {w : World} {base : Nat} {A : Option Addr} {xs : List OpV} (h : Own w base A xs) : OwnT w base w.heap.size A xs := by
  refine ⟨h, ?_⟩
  rcases h.2 with h | ⟨g, off, h1, _, h2, _⟩
  · exact .inl h
  · exact .inr ⟨g, off, h1, h2⟩
theorem OwnT.set {w : World} {base top : Nat} {A : Option Addr} {xs : List OpV} (h : OwnT w base top A xs) {p : Addr} (hp : p.block < base ∨ top ≤ p.block) (v : Value) : OwnT (w.setCell p v) base top A xs := by
  refine ⟨?_, h.2⟩
  rcases h.2 with hx | ⟨g0, off0, hA, hg⟩
  · subst hx
    exact Own.nil
  · rcases h.1.2 with hx | ⟨g, off, rfl, h1, h2, h3⟩
    · subst hx
      exact Own.nil
    · injection hA with hA
      injection hA with e1 _ _
      subst e1
      refine ⟨⟨h.1.1.1.set (fun b off he => by injection he with he; injection he with h4 _ _; omega) v, h.1.1.2⟩, .inr ⟨_, off, rfl, h1, by simpa [World.setCell] using h2, fun j => ?_⟩⟩
      rw [World.frozen?_setCell]
      exact h3 j
theorem OwnT.own {w : World} {base top : Nat} {A : Option Addr} {xs : List OpV} (h : OwnT w base top A xs) : Own w base A xs := h.1
theorem OwnT.alloc {w : World} {base top : Nat} {A : Option Addr} {xs : List OpV} (h : OwnT w base top A xs) (o : Obj) : OwnT (w.alloc o) base top A xs := ⟨h.1.alloc o, h.2⟩
theorem OwnT.drewn {w : World} {base top : Nat} {A : Option Addr} {xs : List OpV} (h : OwnT w base top A xs) : OwnT w.drew base top A xs := ⟨h.1.drewn, h.2⟩
theorem OwnT.below {w w' : World} {base top : Nat} {A : Option Addr} {xs : List OpV} (h : OwnT w base top A xs) (hb : Below w.heap.size w w') : OwnT w' base top A xs := ⟨h.1.below hb, h.2⟩
theorem up_parts {f : ByteArray} {d : DS} {b l : Int} (h : upOk f d b l = true) : (f.size = 768 ∧ d.may = true) ∧ (d.st = 0 ∨ d.st = 6) ∧ rngB b 0 65535 = true ∧ (0 ≤ l ∧ l ≤ 32) := by
  simp only [upOk, Bool.and_eq_true, Bool.or_eq_true, beq_iff_eq] at h
  refine ⟨both_parts h.1, h.2.1, h.2.2.1, ?_⟩
  have := h.2.2.2
  simpa [rngB] using this
theorem up_none {f : ByteArray} {d : DS} {b l : Int} (h : activeO f = none) : upD f d b l = DS.fail 2 ∧ upT f d b l = ⟨#[]⟩ := by simp only [upD, upT, h, and_self]
theorem up_far {f : ByteArray} {d : DS} {b l : Int} {p : PlV} (h : activeO f = some p) (hb : ¬ b = upNext d) : upD f d b l = DS.fail 4 ∧ upT f d b l = ⟨#[]⟩ := by simp only [upD, upT, h, hb, if_false, and_self]
theorem up_near {f : ByteArray} {d : DS} {b l : Int} {p : PlV} (h : activeO f = some p) (hb : b = upNext d) : upT f d b l = upB (imgB f p.s p.z) (upNext d).toNat l.toNat ∧ upD f d b l = (if (upB (imgB f p.s p.z) (upNext d).toNat l.toNat).size < 32 then DS.zero else ⟨6, d.su, min (upNext d + 1) 16, d.go, d.sl, d.ops⟩) := by simp only [upD, upT, h, hb, if_true, and_self]
theorem img_le {f : ByteArray} {p : PlV} (h : activeO f = some p) : (imgB f p.s p.z).size ≤ 288 := by
  have hm := may_parts (act_ok h).may
  unfold imgB
  rw [ByteArray.size_extract]
  omega
set_option maxRecDepth 100000 in
set_option maxHeartbeats 12800000 in
theorem give_n (f : ByteArray) (d : DS) (b l : Int) (A : Option Addr) (c n : Nat) (w : World) (hl : Row w A d.ops) (hn : d.ops.length = n) (hok : upOk f d b l = true) (ha : activeO f = none) :
    Calls Tryz.prog 243 #[.string f, (.agg #[.int .i64 d.st, .int .i64 d.su, .int .i64 d.nx, .int .i64 d.go, .int .i64 d.sl, .slice A n c]), .int .i64 b, .int .i64 l] w (GivesT w (DS.fail 2) (⟨#[]⟩) 0) := by
  obtain ⟨s, st, nx, g, sl, xs⟩ := d
  simp only at hl hn ⊢
  have HB := Below.refl w.heap.size w
  have K0 := Blk.new w #[.int .i64 s, .int .i64 st, .int .i64 nx, .int .i64 g, .int .i64 sl, .slice A n c] 28
  have K1 := fun cs0 => Blk.new1 w (.cells cs0 28) #[.int .i64 0, .int .i64 0, .int .i64 0, .int .i64 0, .int .i64 0, .slice none 0 0] 28
  obtain ⟨⟨hf, hmay⟩, hst, hr, hl0⟩ := up_parts hok
  simp only at hst
  obtain ⟨m1, m2, m3, m4, m5⟩ := may_nums hmay
  have hlen := may_len hmay
  simp only at hlen m1 m2 m3 m4 m5
  have mm := Lib.hid (fun W : World => may_c f W (by omega))
  rw [decide_eq_true hf] at mm
  have dm := Lib.hid (fun W (h : Below w.heap.size w W) => devMay_c s st nx g sl A c n xs W (hl.below h) hn)
  rw [show devMay s st nx g sl xs = true from hmay] at dm
  have vv := Lib.hid (fun W : World => Su.value_c b W)
  rw [hr] at vv
  have ll := Lib.hid (fun W : World => Su.length_c l W)
  rw [show rngB l 0 32 = true by simp [rngB]; omega] at ll
  have ac := Lib.hid (fun W : World => active_c f W hf)
  rw [(act_none ha).1, (act_none ha).2] at ac
  have cp := Lib.hid (fun W (h : Below w.heap.size w W) => dcopy_c ⟨s, st, nx, g, sl, xs⟩ A c n W (hl.below h) hn (by omega))
  simp only at cp
  have HN := Lib.hid hn
  clear hl hn hlen hmay hok hr m1 m2
  clear ha hl0
  rcases hst with h0 | h0
  · subst h0
    go_enter Tryz.func243, Tryz.ntmps243
    go_wp2_with (first | (go_at_call 76; with_reducible refine (mm.out _).mono ?_; rintro e w' ⟨rfl, rfl⟩) | (go_at_call 104; with_reducible refine (dm.out _ zq1).mono ?_; rintro e w' ⟨rfl, hb⟩; have HB := bl_step (w := w) zq0 hb; have hzB := HB.size; have K0 := Blk.on zq3 zq10 hb; (try clear eK0); have eK0 := Blk.ev K0; have K1 := Blk.on zq6 zq9 hb; (try clear eK1); have eK1 := Blk.ev K1) | (go_at_call 141; with_reducible refine (vv.out _).mono ?_; rintro e w' ⟨rfl, rfl⟩) | (go_at_call 142; with_reducible refine (ll.out _).mono ?_; rintro e w' ⟨rfl, rfl⟩) | (go_at_call 64; with_reducible refine (ac.out _).mono ?_; rintro e w' ⟨rfl, hb⟩; have HB := bl_step (w := w) zq0 hb; have hzB := HB.size; have K0 := Blk.on zq3 zq10 hb; (try clear eK0); have eK0 := Blk.ev K0; have K1 := Blk.on zq6 zq9 hb; (try clear eK1); have eK1 := Blk.ev K1; have K2 := fun cs => Blk.new w' cs 69) | (go_at_call 135; with_reducible refine (failed_c 2 _).mono ?_; rintro e w' ⟨rfl, hb⟩; have HB := bl_step (w := w) zq0 hb; have hzB := HB.size; have K0 := Blk.on zq3 zq10 hb; (try clear eK0); have eK0 := Blk.ev K0; have K1 := Blk.on zq6 zq9 hb; (try clear eK1); have eK1 := Blk.ev K1; have K2 := Blk.on zq15 zq21 hb; (try clear eK2); have eK2 := Blk.ev K2) | fail)
    refine body_gen1 (g1 := w.heap.size + 1) (cs1 := #[.int .i64 7, .int .i64 2, .int .i64 0, .int .i64 0, .int .i64 0, .slice none 0 0]) (t1 := 28) (A := none) (xs := []) (w := w) zq19 Own.nil zq1 ?_; intro wf L1 HOf HBf; obtain ⟨e0, e1, e2, e3, e4, e5, _⟩ := Blk.all6 L1; exact bodyPost_ret (v := .tuple #[.agg #[.int .i64 7, .int .i64 2, .int .i64 0, .int .i64 0, .int .i64 0, .slice none 0 0], .string ⟨#[]⟩, .int .i64 0]) (by simp [results, Tryz.results243, go_sem, e0, e1, e2, e3, e4, e5]) rfl ⟨⟨none, 0, 0, rfl, rfl, HOf⟩, HBf⟩
  · subst h0
    go_enter Tryz.func243, Tryz.ntmps243
    go_wp2_with (first | (go_at_call 76; with_reducible refine (mm.out _).mono ?_; rintro e w' ⟨rfl, rfl⟩) | (go_at_call 104; with_reducible refine (dm.out _ zq1).mono ?_; rintro e w' ⟨rfl, hb⟩; have HB := bl_step (w := w) zq0 hb; have hzB := HB.size; have K0 := Blk.on zq3 zq10 hb; (try clear eK0); have eK0 := Blk.ev K0; have K1 := Blk.on zq6 zq9 hb; (try clear eK1); have eK1 := Blk.ev K1) | (go_at_call 141; with_reducible refine (vv.out _).mono ?_; rintro e w' ⟨rfl, rfl⟩) | (go_at_call 142; with_reducible refine (ll.out _).mono ?_; rintro e w' ⟨rfl, rfl⟩) | (go_at_call 64; with_reducible refine (ac.out _).mono ?_; rintro e w' ⟨rfl, hb⟩; have HB := bl_step (w := w) zq0 hb; have hzB := HB.size; have K0 := Blk.on zq3 zq10 hb; (try clear eK0); have eK0 := Blk.ev K0; have K1 := Blk.on zq6 zq9 hb; (try clear eK1); have eK1 := Blk.ev K1; have K2 := fun cs => Blk.new w' cs 69) | (go_at_call 135; with_reducible refine (failed_c 2 _).mono ?_; rintro e w' ⟨rfl, hb⟩; have HB := bl_step (w := w) zq0 hb; have hzB := HB.size; have K0 := Blk.on zq3 zq10 hb; (try clear eK0); have eK0 := Blk.ev K0; have K1 := Blk.on zq6 zq9 hb; (try clear eK1); have eK1 := Blk.ev K1; have K2 := Blk.on zq15 zq21 hb; (try clear eK2); have eK2 := Blk.ev K2) | fail)
    refine body_gen1 (g1 := w.heap.size + 1) (cs1 := #[.int .i64 7, .int .i64 2, .int .i64 0, .int .i64 0, .int .i64 0, .slice none 0 0]) (t1 := 28) (A := none) (xs := []) (w := w) zq19 Own.nil zq1 ?_; intro wf L1 HOf HBf; obtain ⟨e0, e1, e2, e3, e4, e5, _⟩ := Blk.all6 L1; exact bodyPost_ret (v := .tuple #[.agg #[.int .i64 7, .int .i64 2, .int .i64 0, .int .i64 0, .int .i64 0, .slice none 0 0], .string ⟨#[]⟩, .int .i64 0]) (by simp [results, Tryz.results243, go_sem, e0, e1, e2, e3, e4, e5]) rfl ⟨⟨none, 0, 0, rfl, rfl, HOf⟩, HBf⟩
set_option maxRecDepth 100000 in
set_option maxHeartbeats 12800000 in
theorem give_x (f : ByteArray) (d : DS) (b l : Int) (A : Option Addr) (c n : Nat) (w : World) (hl : Row w A d.ops) (hn : d.ops.length = n) (hok : upOk f d b l = true) (p : PlV) (ha : activeO f = some p) (hb : ¬ b = upNext d) :
    Calls Tryz.prog 243 #[.string f, (.agg #[.int .i64 d.st, .int .i64 d.su, .int .i64 d.nx, .int .i64 d.go, .int .i64 d.sl, .slice A n c]), .int .i64 b, .int .i64 l] w (GivesT w (DS.fail 4) (⟨#[]⟩) 0) := by
  obtain ⟨s, st, nx, g, sl, xs⟩ := d
  simp only at hl hn ⊢
  have HB := Below.refl w.heap.size w
  have K0 := Blk.new w #[.int .i64 s, .int .i64 st, .int .i64 nx, .int .i64 g, .int .i64 sl, .slice A n c] 28
  have K1 := fun cs0 => Blk.new1 w (.cells cs0 28) #[.int .i64 0, .int .i64 0, .int .i64 0, .int .i64 0, .int .i64 0, .slice none 0 0] 28
  obtain ⟨⟨hf, hmay⟩, hst, hr, hl0⟩ := up_parts hok
  simp only at hst
  obtain ⟨m1, m2, m3, m4, m5⟩ := may_nums hmay
  have hlen := may_len hmay
  simp only at hlen m1 m2 m3 m4 m5
  have mm := Lib.hid (fun W : World => may_c f W (by omega))
  rw [decide_eq_true hf] at mm
  have dm := Lib.hid (fun W (h : Below w.heap.size w W) => devMay_c s st nx g sl A c n xs W (hl.below h) hn)
  rw [show devMay s st nx g sl xs = true from hmay] at dm
  have vv := Lib.hid (fun W : World => Su.value_c b W)
  rw [hr] at vv
  have ll := Lib.hid (fun W : World => Su.length_c l W)
  rw [show rngB l 0 32 = true by simp [rngB]; omega] at ll
  have ac := Lib.hid (fun W : World => active_c f W hf)
  rw [(act_some ha).1, (act_some ha).2] at ac
  have cp := Lib.hid (fun W (h : Below w.heap.size w W) => dcopy_c ⟨s, st, nx, g, sl, xs⟩ A c n W (hl.below h) hn (by omega))
  simp only at cp
  have HN := Lib.hid hn
  clear hl hn hlen hmay hok hr m1 m2
  simp only [upNext] at hb
  clear ha hl0
  rcases hst with h0 | h0
  · subst h0
    have hb1 : (b != 0) = true := by simpa using hb
    go_enter Tryz.func243, Tryz.ntmps243
    go_wp2_with (first | (go_at_call 76; with_reducible refine (mm.out _).mono ?_; rintro e w' ⟨rfl, rfl⟩) | (go_at_call 104; with_reducible refine (dm.out _ zq1).mono ?_; rintro e w' ⟨rfl, hb⟩; have HB := bl_step (w := w) zq0 hb; have hzB := HB.size; have K0 := Blk.on zq3 zq10 hb; (try clear eK0); have eK0 := Blk.ev K0; have K1 := Blk.on zq6 zq9 hb; (try clear eK1); have eK1 := Blk.ev K1) | (go_at_call 141; with_reducible refine (vv.out _).mono ?_; rintro e w' ⟨rfl, rfl⟩) | (go_at_call 142; with_reducible refine (ll.out _).mono ?_; rintro e w' ⟨rfl, rfl⟩) | (go_at_call 64; with_reducible refine (ac.out _).mono ?_; rintro e w' ⟨rfl, hb⟩; have HB := bl_step (w := w) zq0 hb; have hzB := HB.size; have K0 := Blk.on zq3 zq10 hb; (try clear eK0); have eK0 := Blk.ev K0; have K1 := Blk.on zq6 zq9 hb; (try clear eK1); have eK1 := Blk.ev K1; have K2 := fun cs => Blk.new w' cs 69) | (go_at_call 85; (with_reducible refine (cp.out _ zq1).mono ?_); rintro e w3 ⟨⟨A', c', rfl, HO⟩, hb⟩; have HO := HO.mono (base' := w.heap.size + 2) (by first | omega | (simp; done) | (simp; omega)); have hg1 : w.heap.size + 2 ≤ w3.heap.size := (by have := hb.size; first | omega | (simp at this; omega)); have HO := HO.top; have HB := bl_step (w := w) zq0 hb; have hzB := HB.size; have K0 := Blk.on zq3 zq10 hb; (try clear eK0); have eK0 := Blk.ev K0; have K1 := Blk.on zq6 zq9 hb; (try clear eK1); have eK1 := Blk.ev K1; have K2 := Blk.on zq15 zq21 hb; (try clear eK2); have eK2 := Blk.ev K2; have K3 := fun cs => Blk.new w3 cs 28) | (go_at_call 135; with_reducible refine (failed_c 4 _).mono ?_; rintro e w' ⟨rfl, hb⟩; have HB := bl_step (w := w) zq0 hb; have hzB := HB.size; have K0 := Blk.on zq3 zq10 hb; (try clear eK0); have eK0 := Blk.ev K0; have K1 := Blk.on zq6 zq9 hb; (try clear eK1); have eK1 := Blk.ev K1; have K2 := Blk.on zq15 zq21 hb; (try clear eK2); have eK2 := Blk.ev K2; have K3 := Blk.on zq26 zq31 hb; (try clear eK3); have eK3 := Blk.ev K3) | fail)
    refine body_gen1 (g1 := w.heap.size + 1) (cs1 := #[.int .i64 7, .int .i64 4, .int .i64 0, .int .i64 0, .int .i64 0, .slice none 0 0]) (t1 := 28) (A := none) (xs := []) (w := w) zq19 Own.nil zq1 ?_; intro wf L1 HOf HBf; obtain ⟨e0, e1, e2, e3, e4, e5, _⟩ := Blk.all6 L1; exact bodyPost_ret (v := .tuple #[.agg #[.int .i64 7, .int .i64 4, .int .i64 0, .int .i64 0, .int .i64 0, .slice none 0 0], .string ⟨#[]⟩, .int .i64 0]) (by simp [results, Tryz.results243, go_sem, e0, e1, e2, e3, e4, e5]) rfl ⟨⟨none, 0, 0, rfl, rfl, HOf⟩, HBf⟩
  · subst h0
    have hb1 : (b != nx) = true := by simpa using hb
    go_enter Tryz.func243, Tryz.ntmps243
    go_wp2_with (first | (go_at_call 76; with_reducible refine (mm.out _).mono ?_; rintro e w' ⟨rfl, rfl⟩) | (go_at_call 104; with_reducible refine (dm.out _ zq1).mono ?_; rintro e w' ⟨rfl, hb⟩; have HB := bl_step (w := w) zq0 hb; have hzB := HB.size; have K0 := Blk.on zq3 zq10 hb; (try clear eK0); have eK0 := Blk.ev K0; have K1 := Blk.on zq6 zq9 hb; (try clear eK1); have eK1 := Blk.ev K1) | (go_at_call 141; with_reducible refine (vv.out _).mono ?_; rintro e w' ⟨rfl, rfl⟩) | (go_at_call 142; with_reducible refine (ll.out _).mono ?_; rintro e w' ⟨rfl, rfl⟩) | (go_at_call 64; with_reducible refine (ac.out _).mono ?_; rintro e w' ⟨rfl, hb⟩; have HB := bl_step (w := w) zq0 hb; have hzB := HB.size; have K0 := Blk.on zq3 zq10 hb; (try clear eK0); have eK0 := Blk.ev K0; have K1 := Blk.on zq6 zq9 hb; (try clear eK1); have eK1 := Blk.ev K1; have K2 := fun cs => Blk.new w' cs 69) | (go_at_call 85; (with_reducible refine (cp.out _ zq1).mono ?_); rintro e w3 ⟨⟨A', c', rfl, HO⟩, hb⟩; have HO := HO.mono (base' := w.heap.size + 2) (by first | omega | (simp; done) | (simp; omega)); have hg1 : w.heap.size + 2 ≤ w3.heap.size := (by have := hb.size; first | omega | (simp at this; omega)); have HO := HO.top; have HB := bl_step (w := w) zq0 hb; have hzB := HB.size; have K0 := Blk.on zq3 zq10 hb; (try clear eK0); have eK0 := Blk.ev K0; have K1 := Blk.on zq6 zq9 hb; (try clear eK1); have eK1 := Blk.ev K1; have K2 := Blk.on zq15 zq21 hb; (try clear eK2); have eK2 := Blk.ev K2; have K3 := fun cs => Blk.new w3 cs 28) | (go_at_call 135; with_reducible refine (failed_c 4 _).mono ?_; rintro e w' ⟨rfl, hb⟩; have HB := bl_step (w := w) zq0 hb; have hzB := HB.size; have K0 := Blk.on zq3 zq10 hb; (try clear eK0); have eK0 := Blk.ev K0; have K1 := Blk.on zq6 zq9 hb; (try clear eK1); have eK1 := Blk.ev K1; have K2 := Blk.on zq15 zq21 hb; (try clear eK2); have eK2 := Blk.ev K2; have K3 := Blk.on zq26 zq31 hb; (try clear eK3); have eK3 := Blk.ev K3) | fail)
    refine body_gen1 (g1 := w.heap.size + 1) (cs1 := #[.int .i64 7, .int .i64 4, .int .i64 0, .int .i64 0, .int .i64 0, .slice none 0 0]) (t1 := 28) (A := none) (xs := []) (w := w) zq19 Own.nil zq1 ?_; intro wf L1 HOf HBf; obtain ⟨e0, e1, e2, e3, e4, e5, _⟩ := Blk.all6 L1; exact bodyPost_ret (v := .tuple #[.agg #[.int .i64 7, .int .i64 4, .int .i64 0, .int .i64 0, .int .i64 0, .slice none 0 0], .string ⟨#[]⟩, .int .i64 0]) (by simp [results, Tryz.results243, go_sem, e0, e1, e2, e3, e4, e5]) rfl ⟨⟨none, 0, 0, rfl, rfl, HOf⟩, HBf⟩
set_option maxRecDepth 100000 in
set_option maxHeartbeats 12800000 in
theorem give_s (f : ByteArray) (d : DS) (b l : Int) (A : Option Addr) (c n : Nat) (w : World) (hl : Row w A d.ops) (hn : d.ops.length = n) (hok : upOk f d b l = true) (p : PlV) (ha : activeO f = some p) (hb : b = upNext d) (hz : (upB (imgB f p.s p.z) (upNext d).toNat l.toNat).size < 32) :
    Calls Tryz.prog 243 #[.string f, (.agg #[.int .i64 d.st, .int .i64 d.su, .int .i64 d.nx, .int .i64 d.go, .int .i64 d.sl, .slice A n c]), .int .i64 b, .int .i64 l] w (GivesT w (DS.zero) (upB (imgB f p.s p.z) (upNext d).toNat l.toNat) 0) := by
  obtain ⟨s, st, nx, g, sl, xs⟩ := d
  simp only at hl hn ⊢
  have HB := Below.refl w.heap.size w
  have K0 := Blk.new w #[.int .i64 s, .int .i64 st, .int .i64 nx, .int .i64 g, .int .i64 sl, .slice A n c] 28
  have K1 := fun cs0 => Blk.new1 w (.cells cs0 28) #[.int .i64 0, .int .i64 0, .int .i64 0, .int .i64 0, .int .i64 0, .slice none 0 0] 28
  obtain ⟨⟨hf, hmay⟩, hst, hr, hl0⟩ := up_parts hok
  simp only at hst
  obtain ⟨m1, m2, m3, m4, m5⟩ := may_nums hmay
  have hlen := may_len hmay
  simp only at hlen m1 m2 m3 m4 m5
  have mm := Lib.hid (fun W : World => may_c f W (by omega))
  rw [decide_eq_true hf] at mm
  have dm := Lib.hid (fun W (h : Below w.heap.size w W) => devMay_c s st nx g sl A c n xs W (hl.below h) hn)
  rw [show devMay s st nx g sl xs = true from hmay] at dm
  have vv := Lib.hid (fun W : World => Su.value_c b W)
  rw [hr] at vv
  have ll := Lib.hid (fun W : World => Su.length_c l W)
  rw [show rngB l 0 32 = true by simp [rngB]; omega] at ll
  have ac := Lib.hid (fun W : World => active_c f W hf)
  rw [(act_some ha).1, (act_some ha).2] at ac
  have hI := img_le ha
  have of := Lib.hid (fun W : World => of_c f p.q p.s p.z p.m W hf (act_ok ha).may)
  generalize imgB f p.s p.z = I at *
  have cp := Lib.hid (fun W (h : Below w.heap.size w W) => dcopy_c ⟨s, st, nx, g, sl, xs⟩ A c n W (hl.below h) hn (by omega))
  simp only at cp
  have HN := Lib.hid hn
  clear hl hn hlen hmay hok hr m1 m2
  clear ha
  obtain ⟨ln, rfl⟩ := Int.eq_ofNat_of_zero_le hl0.1
  simp only [Int.toNat_natCast] at hz ⊢
  have hl32 : ln ≤ 32 := by omega
  clear hl0
  rcases hst with h0 | h0
  · subst h0
    simp only [upNext, if_true] at hb hz ⊢
    have hb1 : (b == 0) = true := by simpa using hb
    have hb2 : (b != 0) = false := by simp [hb]
    clear hb
    simp only [Int.toNat_zero] at hz ⊢
    have hT := Lib.hid (up_two I 0 ln)
    have e1 : I.extract 0 I.size = I := by rw [ByteArray.extract_zero_size]
    have e2 : I.extract 0 (min ln I.size) = upB I 0 ln := by have := hT.out; simpa using this
    have i1 : min (0 : Int) (I.size : Int) = 0 := by omega
    have i2 : min (ln : Int) (I.size : Int) = ((min ln I.size : Nat) : Int) := by omega
    have hb3 : min ln I.size ≤ I.size := by omega
    have hb4 : ((min ln I.size : Nat) : Int) ≤ (I.size : Int) := by omega
    generalize min ln I.size = bb at *
    have hs32 := upB_size I 0 ln
    generalize upB I 0 ln = T at *
    clear hT
    have z3 : decide ((T.size : Int) < 32) = true := by simp; omega
    go_enter Tryz.func243, Tryz.ntmps243
    go_wp2_with (first | (go_at_call 76; with_reducible refine (mm.out _).mono ?_; rintro e w' ⟨rfl, rfl⟩) | (go_at_call 104; with_reducible refine (dm.out _ zq1).mono ?_; rintro e w' ⟨rfl, hb⟩; have HB := bl_step (w := w) zq0 hb; have hzB := HB.size; have K0 := Blk.on zq3 zq10 hb; (try clear eK0); have eK0 := Blk.ev K0; have K1 := Blk.on zq6 zq9 hb; (try clear eK1); have eK1 := Blk.ev K1) | (go_at_call 141; with_reducible refine (vv.out _).mono ?_; rintro e w' ⟨rfl, rfl⟩) | (go_at_call 142; with_reducible refine (ll.out _).mono ?_; rintro e w' ⟨rfl, rfl⟩) | (go_at_call 64; with_reducible refine (ac.out _).mono ?_; rintro e w' ⟨rfl, hb⟩; have HB := bl_step (w := w) zq0 hb; have hzB := HB.size; have K0 := Blk.on zq3 zq10 hb; (try clear eK0); have eK0 := Blk.ev K0; have K1 := Blk.on zq6 zq9 hb; (try clear eK1); have eK1 := Blk.ev K1; have K2 := fun cs => Blk.new w' cs 69) | (go_at_call 85; (with_reducible refine (cp.out _ zq1).mono ?_); rintro e w3 ⟨⟨A', c', rfl, HO⟩, hb⟩; have HO := HO.mono (base' := w.heap.size + 2) (by first | omega | (simp; done) | (simp; omega)); have hg1 : w.heap.size + 2 ≤ w3.heap.size := (by have := hb.size; first | omega | (simp at this; omega)); have HO := HO.top; have HB := bl_step (w := w) zq0 hb; have hzB := HB.size; have K0 := Blk.on zq3 zq10 hb; (try clear eK0); have eK0 := Blk.ev K0; have K1 := Blk.on zq6 zq9 hb; (try clear eK1); have eK1 := Blk.ev K1; have K2 := Blk.on zq15 zq21 hb; (try clear eK2); have eK2 := Blk.ev K2; have K3 := fun cs => Blk.new w3 cs 28) | (go_at_call 92; with_reducible refine (of.out _).mono ?_; rintro e w' ⟨rfl, hb⟩; have HB := bl_step (w := w) zq0 hb; have hzB := HB.size; have K0 := Blk.on zq3 zq10 hb; (try clear eK0); have eK0 := Blk.ev K0; have K1 := Blk.on zq6 zq9 hb; (try clear eK1); have eK1 := Blk.ev K1; have K2 := Blk.on zq15 zq21 hb; (try clear eK2); have eK2 := Blk.ev K2; have K3 := Blk.on zq26 zq31 hb; (try clear eK3); have eK3 := Blk.ev K3) | (go_at_call 78; with_reducible refine (new_c _).mono ?_; rintro e w' ⟨rfl, hb⟩; have HB := bl_step (w := w) zq0 hb; have hzB := HB.size; have K0 := Blk.on zq3 zq10 hb; (try clear eK0); have eK0 := Blk.ev K0; have K1 := Blk.on zq6 zq9 hb; (try clear eK1); have eK1 := Blk.ev K1; have K3 := Blk.on zq26 zq31 hb; (try clear eK3); have eK3 := Blk.ev K3) | fail)
    refine body_gen1 (g1 := w.heap.size + 1) (cs1 := #[.int .i64 0, .int .i64 0, .int .i64 0, .int .i64 0, .int .i64 0, .slice none 0 0]) (t1 := 28) (A := none) (xs := []) (w := w) zq19 Own.nil zq1 ?_; intro wf L1 HOf HBf; obtain ⟨e0, e1, e2, e3, e4, e5, _⟩ := Blk.all6 L1; exact bodyPost_ret (v := .tuple #[.agg #[.int .i64 0, .int .i64 0, .int .i64 0, .int .i64 0, .int .i64 0, .slice none 0 0], .string T, .int .i64 0]) (by simp [results, Tryz.results243, go_sem, e0, e1, e2, e3, e4, e5]) rfl ⟨⟨none, 0, 0, rfl, rfl, HOf⟩, HBf⟩
  · subst h0
    simp only [upNext, show ¬ (6 : Int) = 0 by decide, if_false] at hb hz ⊢
    have hb1 : (b == nx) = true := by simpa using hb
    have hb2 : (b != nx) = false := by simp [hb]
    clear hb
    obtain ⟨k, rfl⟩ := Int.eq_ofNat_of_zero_le m3.1
    simp only [Int.toNat_natCast] at hz ⊢
    have k16 : k ≤ 16 := by omega
    clear m3
    have hT := Lib.hid (up_two I k ln)
    have i1 : min (32 * (k : Int)) (I.size : Int) = ((min (32 * k) I.size : Nat) : Int) := by omega
    have hT2 := hT.out
    have ha3 : min (32 * k) I.size ≤ I.size := by omega
    have ha4 : ((min (32 * k) I.size : Nat) : Int) ≤ (I.size : Int) := by omega
    generalize min (32 * k) I.size = aa at *
    have z1 : (I.extract aa I.size).size = I.size - aa := by rw [ByteArray.size_extract]; omega
    rw [← z1] at hT2
    generalize hJ : I.extract aa I.size = J at *
    have i2 : min (ln : Int) (J.size : Int) = ((min ln J.size : Nat) : Int) := by omega
    have hb3 : min ln J.size ≤ J.size := by omega
    have hb4 : ((min ln J.size : Nat) : Int) ≤ (J.size : Int) := by omega
    generalize min ln J.size = bb at *
    have e2 : J.extract 0 bb = upB I k ln := hT2
    clear hT2 z1
    have hs32 := upB_size I k ln
    generalize upB I k ln = T at *
    clear hT
    have z3 : decide ((T.size : Int) < 32) = true := by simp; omega
    go_enter Tryz.func243, Tryz.ntmps243
    go_wp2_with (first | (go_at_call 76; with_reducible refine (mm.out _).mono ?_; rintro e w' ⟨rfl, rfl⟩) | (go_at_call 104; with_reducible refine (dm.out _ zq1).mono ?_; rintro e w' ⟨rfl, hb⟩; have HB := bl_step (w := w) zq0 hb; have hzB := HB.size; have K0 := Blk.on zq3 zq10 hb; (try clear eK0); have eK0 := Blk.ev K0; have K1 := Blk.on zq6 zq9 hb; (try clear eK1); have eK1 := Blk.ev K1) | (go_at_call 141; with_reducible refine (vv.out _).mono ?_; rintro e w' ⟨rfl, rfl⟩) | (go_at_call 142; with_reducible refine (ll.out _).mono ?_; rintro e w' ⟨rfl, rfl⟩) | (go_at_call 64; with_reducible refine (ac.out _).mono ?_; rintro e w' ⟨rfl, hb⟩; have HB := bl_step (w := w) zq0 hb; have hzB := HB.size; have K0 := Blk.on zq3 zq10 hb; (try clear eK0); have eK0 := Blk.ev K0; have K1 := Blk.on zq6 zq9 hb; (try clear eK1); have eK1 := Blk.ev K1; have K2 := fun cs => Blk.new w' cs 69) | (go_at_call 85; (with_reducible refine (cp.out _ zq1).mono ?_); rintro e w3 ⟨⟨A', c', rfl, HO⟩, hb⟩; have HO := HO.mono (base' := w.heap.size + 2) (by first | omega | (simp; done) | (simp; omega)); have hg1 : w.heap.size + 2 ≤ w3.heap.size := (by have := hb.size; first | omega | (simp at this; omega)); have HO := HO.top; have HB := bl_step (w := w) zq0 hb; have hzB := HB.size; have K0 := Blk.on zq3 zq10 hb; (try clear eK0); have eK0 := Blk.ev K0; have K1 := Blk.on zq6 zq9 hb; (try clear eK1); have eK1 := Blk.ev K1; have K2 := Blk.on zq15 zq21 hb; (try clear eK2); have eK2 := Blk.ev K2; have K3 := fun cs => Blk.new w3 cs 28) | (go_at_call 92; with_reducible refine (of.out _).mono ?_; rintro e w' ⟨rfl, hb⟩; have HB := bl_step (w := w) zq0 hb; have hzB := HB.size; have K0 := Blk.on zq3 zq10 hb; (try clear eK0); have eK0 := Blk.ev K0; have K1 := Blk.on zq6 zq9 hb; (try clear eK1); have eK1 := Blk.ev K1; have K2 := Blk.on zq15 zq21 hb; (try clear eK2); have eK2 := Blk.ev K2; have K3 := Blk.on zq26 zq31 hb; (try clear eK3); have eK3 := Blk.ev K3) | (go_at_call 78; with_reducible refine (new_c _).mono ?_; rintro e w' ⟨rfl, hb⟩; have HB := bl_step (w := w) zq0 hb; have hzB := HB.size; have K0 := Blk.on zq3 zq10 hb; (try clear eK0); have eK0 := Blk.ev K0; have K1 := Blk.on zq6 zq9 hb; (try clear eK1); have eK1 := Blk.ev K1; have K3 := Blk.on zq26 zq31 hb; (try clear eK3); have eK3 := Blk.ev K3) | fail)
    refine body_gen1 (g1 := w.heap.size + 1) (cs1 := #[.int .i64 0, .int .i64 0, .int .i64 0, .int .i64 0, .int .i64 0, .slice none 0 0]) (t1 := 28) (A := none) (xs := []) (w := w) zq19 Own.nil zq1 ?_; intro wf L1 HOf HBf; obtain ⟨e0, e1, e2, e3, e4, e5, _⟩ := Blk.all6 L1; exact bodyPost_ret (v := .tuple #[.agg #[.int .i64 0, .int .i64 0, .int .i64 0, .int .i64 0, .int .i64 0, .slice none 0 0], .string T, .int .i64 0]) (by simp [results, Tryz.results243, go_sem, e0, e1, e2, e3, e4, e5]) rfl ⟨⟨none, 0, 0, rfl, rfl, HOf⟩, HBf⟩
set_option maxRecDepth 100000 in
set_option maxHeartbeats 12800000 in
theorem give_l (f : ByteArray) (d : DS) (b l : Int) (A : Option Addr) (c n : Nat) (w : World) (hl : Row w A d.ops) (hn : d.ops.length = n) (hok : upOk f d b l = true) (p : PlV) (ha : activeO f = some p) (hb : b = upNext d) (hz : ¬ (upB (imgB f p.s p.z) (upNext d).toNat l.toNat).size < 32) :
    Calls Tryz.prog 243 #[.string f, (.agg #[.int .i64 d.st, .int .i64 d.su, .int .i64 d.nx, .int .i64 d.go, .int .i64 d.sl, .slice A n c]), .int .i64 b, .int .i64 l] w (GivesT w (⟨6, d.su, min (upNext d + 1) 16, d.go, d.sl, d.ops⟩) (upB (imgB f p.s p.z) (upNext d).toNat l.toNat) 0) := by
  obtain ⟨s, st, nx, g, sl, xs⟩ := d
  simp only at hl hn ⊢
  have HB := Below.refl w.heap.size w
  have K0 := Blk.new w #[.int .i64 s, .int .i64 st, .int .i64 nx, .int .i64 g, .int .i64 sl, .slice A n c] 28
  have K1 := fun cs0 => Blk.new1 w (.cells cs0 28) #[.int .i64 0, .int .i64 0, .int .i64 0, .int .i64 0, .int .i64 0, .slice none 0 0] 28
  obtain ⟨⟨hf, hmay⟩, hst, hr, hl0⟩ := up_parts hok
  simp only at hst
  obtain ⟨m1, m2, m3, m4, m5⟩ := may_nums hmay
  have hlen := may_len hmay
  simp only at hlen m1 m2 m3 m4 m5
  have mm := Lib.hid (fun W : World => may_c f W (by omega))
  rw [decide_eq_true hf] at mm
  have dm := Lib.hid (fun W (h : Below w.heap.size w W) => devMay_c s st nx g sl A c n xs W (hl.below h) hn)
  rw [show devMay s st nx g sl xs = true from hmay] at dm
  have vv := Lib.hid (fun W : World => Su.value_c b W)
  rw [hr] at vv
  have ll := Lib.hid (fun W : World => Su.length_c l W)
  rw [show rngB l 0 32 = true by simp [rngB]; omega] at ll
  have ac := Lib.hid (fun W : World => active_c f W hf)
  rw [(act_some ha).1, (act_some ha).2] at ac
  have hI := img_le ha
  have of := Lib.hid (fun W : World => of_c f p.q p.s p.z p.m W hf (act_ok ha).may)
  generalize imgB f p.s p.z = I at *
  have cp := Lib.hid (fun W (h : Below w.heap.size w W) => dcopy_c ⟨s, st, nx, g, sl, xs⟩ A c n W (hl.below h) hn (by omega))
  simp only at cp
  have HN := Lib.hid hn
  clear hl hn hlen hmay hok hr m1 m2
  clear ha
  obtain ⟨ln, rfl⟩ := Int.eq_ofNat_of_zero_le hl0.1
  simp only [Int.toNat_natCast] at hz ⊢
  have hl32 : ln ≤ 32 := by omega
  clear hl0
  rcases hst with h0 | h0
  · subst h0
    simp only [upNext, if_true] at hb hz ⊢
    have hb1 : (b == 0) = true := by simpa using hb
    have hb2 : (b != 0) = false := by simp [hb]
    clear hb
    simp only [Int.toNat_zero] at hz ⊢
    have hT := Lib.hid (up_two I 0 ln)
    have e1 : I.extract 0 I.size = I := by rw [ByteArray.extract_zero_size]
    have e2 : I.extract 0 (min ln I.size) = upB I 0 ln := by have := hT.out; simpa using this
    have i1 : min (0 : Int) (I.size : Int) = 0 := by omega
    have i2 : min (ln : Int) (I.size : Int) = ((min ln I.size : Nat) : Int) := by omega
    have hb3 : min ln I.size ≤ I.size := by omega
    have hb4 : ((min ln I.size : Nat) : Int) ≤ (I.size : Int) := by omega
    generalize min ln I.size = bb at *
    have hs32 := upB_size I 0 ln
    generalize upB I 0 ln = T at *
    clear hT
    have z3 : decide ((T.size : Int) < 32) = false := by simp; omega
    have z4 : min (1 : Int) 16 = 1 := by omega
    go_enter Tryz.func243, Tryz.ntmps243
    go_wp2_with (first | (go_at_call 76; with_reducible refine (mm.out _).mono ?_; rintro e w' ⟨rfl, rfl⟩) | (go_at_call 104; with_reducible refine (dm.out _ zq1).mono ?_; rintro e w' ⟨rfl, hb⟩; have HB := bl_step (w := w) zq0 hb; have hzB := HB.size; have K0 := Blk.on zq3 zq10 hb; (try clear eK0); have eK0 := Blk.ev K0; have K1 := Blk.on zq6 zq9 hb; (try clear eK1); have eK1 := Blk.ev K1) | (go_at_call 141; with_reducible refine (vv.out _).mono ?_; rintro e w' ⟨rfl, rfl⟩) | (go_at_call 142; with_reducible refine (ll.out _).mono ?_; rintro e w' ⟨rfl, rfl⟩) | (go_at_call 64; with_reducible refine (ac.out _).mono ?_; rintro e w' ⟨rfl, hb⟩; have HB := bl_step (w := w) zq0 hb; have hzB := HB.size; have K0 := Blk.on zq3 zq10 hb; (try clear eK0); have eK0 := Blk.ev K0; have K1 := Blk.on zq6 zq9 hb; (try clear eK1); have eK1 := Blk.ev K1; have K2 := fun cs => Blk.new w' cs 69) | (go_at_call 85; (with_reducible refine (cp.out _ zq1).mono ?_); rintro e w3 ⟨⟨A', c', rfl, HO⟩, hb⟩; have HO := HO.mono (base' := w.heap.size + 2) (by first | omega | (simp; done) | (simp; omega)); have hg1 : w.heap.size + 2 ≤ w3.heap.size := (by have := hb.size; first | omega | (simp at this; omega)); have HO := HO.top; have HB := bl_step (w := w) zq0 hb; have hzB := HB.size; have K0 := Blk.on zq3 zq10 hb; (try clear eK0); have eK0 := Blk.ev K0; have K1 := Blk.on zq6 zq9 hb; (try clear eK1); have eK1 := Blk.ev K1; have K2 := Blk.on zq15 zq21 hb; (try clear eK2); have eK2 := Blk.ev K2; have K3 := fun cs => Blk.new w3 cs 28) | (go_at_call 92; (with_reducible refine (of.out _).mono ?_); rintro e w' ⟨rfl, hb⟩; have HO := OwnT.below (base := w.heap.size + 2) (top := w3.heap.size) (A := A') (xs := xs) (by repeat (with_reducible first | exact HO | (refine OwnT.set ?_ (by dsimp only; omega) _) | (refine OwnT.alloc ?_ _) | (refine OwnT.drewn ?_) | fail)) hb; have HB := bl_step (w := w) zq0 hb; have hzB := HB.size; have K0 := Blk.on zq3 zq10 hb; (try clear eK0); have eK0 := Blk.ev K0; have K1 := Blk.on zq6 zq9 hb; (try clear eK1); have eK1 := Blk.ev K1; have K2 := Blk.on zq15 zq21 hb; (try clear eK2); have eK2 := Blk.ev K2; have K3 := Blk.on zq26 zq31 hb; (try clear eK3); have eK3 := Blk.ev K3) | fail)
    refine body_gen1 (g1 := w.heap.size + 1) (cs1 := #[.int .i64 6, .int .i64 st, .int .i64 1, .int .i64 g, .int .i64 sl, .slice A' n c']) (t1 := 28) (A := A') (xs := xs) (w := w) zq19 zq55 zq1 ?_; intro wf L1 HOf HBf; obtain ⟨e0, e1, e2, e3, e4, e5, _⟩ := Blk.all6 L1; exact bodyPost_ret (v := .tuple #[.agg #[.int .i64 6, .int .i64 st, .int .i64 1, .int .i64 g, .int .i64 sl, .slice A' n c'], .string T, .int .i64 0]) (by simp [results, Tryz.results243, go_sem, e0, e1, e2, e3, e4, e5]) rfl ⟨⟨A', n, c', rfl, HN.out, HOf⟩, HBf⟩
  · subst h0
    simp only [upNext, show ¬ (6 : Int) = 0 by decide, if_false] at hb hz ⊢
    have hb1 : (b == nx) = true := by simpa using hb
    have hb2 : (b != nx) = false := by simp [hb]
    clear hb
    obtain ⟨k, rfl⟩ := Int.eq_ofNat_of_zero_le m3.1
    simp only [Int.toNat_natCast] at hz ⊢
    have k16 : k ≤ 16 := by omega
    clear m3
    have hT := Lib.hid (up_two I k ln)
    have i1 : min (32 * (k : Int)) (I.size : Int) = ((min (32 * k) I.size : Nat) : Int) := by omega
    have hT2 := hT.out
    have ha3 : min (32 * k) I.size ≤ I.size := by omega
    have ha4 : ((min (32 * k) I.size : Nat) : Int) ≤ (I.size : Int) := by omega
    generalize min (32 * k) I.size = aa at *
    have z1 : (I.extract aa I.size).size = I.size - aa := by rw [ByteArray.size_extract]; omega
    rw [← z1] at hT2
    generalize hJ : I.extract aa I.size = J at *
    have i2 : min (ln : Int) (J.size : Int) = ((min ln J.size : Nat) : Int) := by omega
    have hb3 : min ln J.size ≤ J.size := by omega
    have hb4 : ((min ln J.size : Nat) : Int) ≤ (J.size : Int) := by omega
    generalize min ln J.size = bb at *
    have e2 : J.extract 0 bb = upB I k ln := hT2
    clear hT2 z1
    have hs32 := upB_size I k ln
    generalize upB I k ln = T at *
    clear hT
    have z3 : decide ((T.size : Int) < 32) = false := by simp; omega
    have z4 : min ((k : Int) + 1 : Int) 16 = ((min (k + 1) 16 : Nat) : Int) := by omega
    have z5 : min ((k : Int) + 1) 16 = ((min (k + 1) 16 : Nat) : Int) := z4
    rw [z5]
    have z6 : min (k + 1) 16 ≤ 16 := by omega
    generalize min (k + 1) 16 = kk at *
    go_enter Tryz.func243, Tryz.ntmps243
    go_wp2_with (first | (go_at_call 76; with_reducible refine (mm.out _).mono ?_; rintro e w' ⟨rfl, rfl⟩) | (go_at_call 104; with_reducible refine (dm.out _ zq1).mono ?_; rintro e w' ⟨rfl, hb⟩; have HB := bl_step (w := w) zq0 hb; have hzB := HB.size; have K0 := Blk.on zq3 zq10 hb; (try clear eK0); have eK0 := Blk.ev K0; have K1 := Blk.on zq6 zq9 hb; (try clear eK1); have eK1 := Blk.ev K1) | (go_at_call 141; with_reducible refine (vv.out _).mono ?_; rintro e w' ⟨rfl, rfl⟩) | (go_at_call 142; with_reducible refine (ll.out _).mono ?_; rintro e w' ⟨rfl, rfl⟩) | (go_at_call 64; with_reducible refine (ac.out _).mono ?_; rintro e w' ⟨rfl, hb⟩; have HB := bl_step (w := w) zq0 hb; have hzB := HB.size; have K0 := Blk.on zq3 zq10 hb; (try clear eK0); have eK0 := Blk.ev K0; have K1 := Blk.on zq6 zq9 hb; (try clear eK1); have eK1 := Blk.ev K1; have K2 := fun cs => Blk.new w' cs 69) | (go_at_call 85; (with_reducible refine (cp.out _ zq1).mono ?_); rintro e w3 ⟨⟨A', c', rfl, HO⟩, hb⟩; have HO := HO.mono (base' := w.heap.size + 2) (by first | omega | (simp; done) | (simp; omega)); have hg1 : w.heap.size + 2 ≤ w3.heap.size := (by have := hb.size; first | omega | (simp at this; omega)); have HO := HO.top; have HB := bl_step (w := w) zq0 hb; have hzB := HB.size; have K0 := Blk.on zq3 zq10 hb; (try clear eK0); have eK0 := Blk.ev K0; have K1 := Blk.on zq6 zq9 hb; (try clear eK1); have eK1 := Blk.ev K1; have K2 := Blk.on zq15 zq21 hb; (try clear eK2); have eK2 := Blk.ev K2; have K3 := fun cs => Blk.new w3 cs 28) | (go_at_call 92; (with_reducible refine (of.out _).mono ?_); rintro e w' ⟨rfl, hb⟩; have HO := OwnT.below (base := w.heap.size + 2) (top := w3.heap.size) (A := A') (xs := xs) (by repeat (with_reducible first | exact HO | (refine OwnT.set ?_ (by dsimp only; omega) _) | (refine OwnT.alloc ?_ _) | (refine OwnT.drewn ?_) | fail)) hb; have HB := bl_step (w := w) zq0 hb; have hzB := HB.size; have K0 := Blk.on zq3 zq10 hb; (try clear eK0); have eK0 := Blk.ev K0; have K1 := Blk.on zq6 zq9 hb; (try clear eK1); have eK1 := Blk.ev K1; have K2 := Blk.on zq15 zq21 hb; (try clear eK2); have eK2 := Blk.ev K2; have K3 := Blk.on zq26 zq31 hb; (try clear eK3); have eK3 := Blk.ev K3) | fail)
    refine body_gen1 (g1 := w.heap.size + 1) (cs1 := #[.int .i64 6, .int .i64 st, .int .i64 (kk : Int), .int .i64 g, .int .i64 sl, .slice A' n c']) (t1 := 28) (A := A') (xs := xs) (w := w) zq19 zq55 zq1 ?_; intro wf L1 HOf HBf; obtain ⟨e0, e1, e2, e3, e4, e5, _⟩ := Blk.all6 L1; exact bodyPost_ret (v := .tuple #[.agg #[.int .i64 6, .int .i64 st, .int .i64 (kk : Int), .int .i64 g, .int .i64 sl, .slice A' n c'], .string T, .int .i64 0]) (by simp [results, Tryz.results243, go_sem, e0, e1, e2, e3, e4, e5]) rfl ⟨⟨A', n, c', rfl, HN.out, HOf⟩, HBf⟩
theorem give_c (f : ByteArray) (d : DS) (b l : Int) (A : Option Addr) (c n : Nat) (w : World) (hl : Row w A d.ops) (hn : d.ops.length = n) (hok : upOk f d b l = true) :
    Calls Tryz.prog 243 #[.string f, (.agg #[.int .i64 d.st, .int .i64 d.su, .int .i64 d.nx, .int .i64 d.go, .int .i64 d.sl, .slice A n c]), .int .i64 b, .int .i64 l] w (GivesT w (upD f d b l) (upT f d b l) 0) := by
  cases ha : activeO f with
  | none => rw [(up_none ha).1, (up_none ha).2]; exact give_n f d b l A c n w hl hn hok ha
  | some p =>
    by_cases hb : b = upNext d
    · rw [(up_near ha hb).1, (up_near ha hb).2]
      by_cases hz : (upB (imgB f p.s p.z) (upNext d).toNat l.toNat).size < 32
      · rw [if_pos hz]; exact give_s f d b l A c n w hl hn hok p ha hb hz
      · rw [if_neg hz]; exact give_l f d b l A c n w hl hn hok p ha hb hz
    · rw [(up_far ha hb).1, (up_far ha hb).2]; exact give_x f d b l A c n w hl hn hok p ha hb
end Go.Proofs.YtccblleobcidfaaGreat.Dv

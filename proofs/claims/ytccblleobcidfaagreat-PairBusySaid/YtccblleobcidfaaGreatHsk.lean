/- Layer 22: what a host asks: the program's Asks. -/
import Derived.Test.YtccblleobcidfaaGreatHst
import Derived.Test.YtccblleobcidfaaGreatGu
import Derived.Test.YtccblleobcidfaaGreatGn
namespace Go.Proofs.YtccblleobcidfaaGreat.Ho
open Go.RowKit Go.Proofs.YtccblleobcidfaaGreat.Kt Go.Proofs.YtccblleobcidfaaGreat.Lw Go.Proofs.YtccblleobcidfaaGreat.St Go.Proofs.YtccblleobcidfaaGreat.Nm Go.Proofs.YtccblleobcidfaaGreat.Su Go.Proofs.YtccblleobcidfaaGreat.Mp
set_option linter.unusedVariables false
set_option linter.unusedSimpArgs false
def askC (ph bl : Int) (ag : Bool) : Int := if ph = 1 then (bif ag then (if bl = 0 then 4 else 6) else 3) else if ph = 2 ∨ ph = 4 then 1 else if ph = 6 then 2 else 3
def askW (ph bl : Int) : Int := if ph = 2 ∨ ph = 4 ∨ ph = 6 then bl else 0
def askL (ph : Int) (im : ByteArray) (bl : Int) (ag : Bool) : Int := if ph = 1 then (bif ag then 0 else 6) else if ph = 2 then ((dataB im bl).size : Int) else if ph = 4 then 0 else if ph = 6 then 32 else 6
def askD (ph : Int) (im : ByteArray) (bl : Int) : ByteArray := if ph = 2 then dataB im bl else ⟨#[]⟩
def asksOk (ph : Int) (im : ByteArray) (bl : Int) (tr : Int) (rd : ByteArray) (rp : Int) : Bool := hostMay ph im bl tr rd rp && !offB ph
def asksV (ph : Int) (im : ByteArray) (bl : Int) (ag : Bool) (tr : Int) (rd : ByteArray) (rp : Int) : Value :=
  bif asksOk ph im bl tr rd rp then .tuple #[.string (supB (askC ph bl ag) (askW ph bl) (askL ph im bl ag)), .string (askD ph im bl), .int .i64 0] else .tuple #[.string ⟨#[]⟩, .string ⟨#[]⟩, .int .i64 2200]
theorem may_facts {ph : Int} {im : ByteArray} {bl tr : Int} {rd : ByteArray} {rp : Int} (h : asksOk ph im bl tr rd rp = true) : (ph = 1 ∨ ph = 2 ∨ ph = 3 ∨ ph = 4 ∨ ph = 5 ∨ ph = 6) ∧ im.size ≤ 288 ∧ 0 ≤ bl ∧ bl ≤ 9 := by
  simp only [asksOk, hostMay, Bool.and_eq_true, decide_eq_true_eq] at h
  obtain ⟨⟨h1, _, h3, _, h5, _⟩, h7⟩ := h
  simp [rngB] at h1 h5
  simp [offB] at h7
  unfold manyI at h5
  omega
theorem blk_grown {w w' : World} {g : Nat} {cs : Array Value} {t : TypeId} {row : Option Nat} (h : Blk w g cs t) (hg : w.grownBy w' row) (hr : some g ≠ row) : Blk w' g cs t := by
  have hlt := h.lt
  exact (hg.block g hlt hr).trans h
set_option maxRecDepth 100000 in
set_option maxHeartbeats 6400000 in
theorem asks_1a (im : ByteArray) (bl : Int) (tr : Int) (rd : ByteArray) (rp : Int) (w : World) (hi : im.size ≤ 1000000000000000) (hr : rd.size ≤ 1000000000000000) (hm : hostMay 1 im bl tr rd rp = true) :
    Calls Tryz.prog 156 #[hostV 1 im bl false tr rd rp] w fun e w' => e = .returned (asksV 1 im bl false tr rd rp) ∧ Below w.heap.size w w' := by
  have HB := Below.refl w.heap.size w
  have K0 := fun cs => Blk.new w cs 30
  have ho : offB 1 = false := by decide
  have hk : asksOk 1 im bl tr rd rp = true := by simp [asksOk, hm, ho]
  obtain ⟨hph, hz1, hz2, hz3⟩ := may_facts hk
  clear hph
  go_enter Tryz.func156, Tryz.ntmps156
  go_upto_region 4 with (first | (go_at_call 105; refine (hmay_c _ _ _ _ _ _ _ _ hi hr).mono ?_; rintro e w' ⟨rfl, hb⟩; have HB := bl_step zq4 hb; have K0 := Blk.below zq7 hb; obtain ⟨_, _, _, _, _, _, _, _, _, _, _⟩ := Blk.all7 K0) | (go_at_call 155; refine (off_c _ 1 _ (K0.cell 0)).mono ?_; rintro e w' ⟨rfl, rfl⟩) | fail)
  have hmk : ∀ W : World, (Instr.makeMap 248 none).run Tryz.prog W = .ok (.map (some W.heap.size)) (W.alloc (.map #[] 0)) := fun W => rfl
  have M0 := MapAt.new (w'.alloc (.cells #[.int .i64 1, .string im, .int .i64 bl, .bool false, .int .i64 tr, .string rd, .int .i64 rp] 246))
  rw [World.size_alloc] at M0
  have L0 := (Blk.new w' #[.int .i64 1, .string im, .int .i64 bl, .bool false, .int .i64 tr, .string rd, .int .i64 rp] 246).alloc (.map #[] 0)
  have P0 := (K0.alloc (.cells #[.int .i64 1, .string im, .int .i64 bl, .bool false, .int .i64 tr, .string rd, .int .i64 rp] 246)).alloc (.map #[] 0)
  have B0 := bl_alloc (bl_alloc HB (.cells #[.int .i64 1, .string im, .int .i64 bl, .bool false, .int .i64 tr, .string rd, .int .i64 rp] 246)) (.map #[] 0)
  have hlt := K0.lt
  obtain ⟨w1, hr1, M1, hg1⟩ := insert_run (t := 248) (key := .int .i64 1) (val := (.func (.func 201) #[(.agg #[.int .i64 1, .string im, .int .i64 bl, .bool false, .int .i64 tr, .string rd, .int .i64 rp])] #[])) Tryz.underlying248 M0 (finds_int Tryz.underlying3 1) (by simp) (by simp [intE]) (by kernel_rfl)
  have L1 := blk_grown L0 hg1 (by simp)
  have P1 := blk_grown P0 hg1 (by simp; omega)
  have B1 := B0.grown hg1 B0.size (fun q hq => by cases hq; omega)
  obtain ⟨_, _, _, _, _, _, _, _⟩ := Blk.all7 L1
  obtain ⟨w2, hr2, M2, hg2⟩ := insert_run (t := 248) (key := .int .i64 2) (val := (.func (.func 202) #[(.agg #[.int .i64 1, .string im, .int .i64 bl, .bool false, .int .i64 tr, .string rd, .int .i64 rp])] #[])) Tryz.underlying248 M1 (finds_int Tryz.underlying3 2) (by simp) (by simp [intE]) (by kernel_rfl)
  have L2 := blk_grown L1 hg2 (by simp)
  have P2 := blk_grown P1 hg2 (by simp; omega)
  have B2 := B1.grown hg2 B1.size (fun q hq => by cases hq; omega)
  obtain ⟨_, _, _, _, _, _, _, _⟩ := Blk.all7 L2
  obtain ⟨w3, hr3, M3, hg3⟩ := insert_run (t := 248) (key := .int .i64 3) (val := (.func (.func 203) #[(.agg #[.int .i64 1, .string im, .int .i64 bl, .bool false, .int .i64 tr, .string rd, .int .i64 rp])] #[])) Tryz.underlying248 M2 (finds_int Tryz.underlying3 3) (by simp) (by simp [intE]) (by kernel_rfl)
  have L3 := blk_grown L2 hg3 (by simp)
  have P3 := blk_grown P2 hg3 (by simp; omega)
  have B3 := B2.grown hg3 B2.size (fun q hq => by cases hq; omega)
  obtain ⟨_, _, _, _, _, _, _, _⟩ := Blk.all7 L3
  obtain ⟨w4, hr4, M4, hg4⟩ := insert_run (t := 248) (key := .int .i64 4) (val := (.func (.func 204) #[(.agg #[.int .i64 1, .string im, .int .i64 bl, .bool false, .int .i64 tr, .string rd, .int .i64 rp])] #[])) Tryz.underlying248 M3 (finds_int Tryz.underlying3 4) (by simp) (by simp [intE]) (by kernel_rfl)
  have L4 := blk_grown L3 hg4 (by simp)
  have P4 := blk_grown P3 hg4 (by simp; omega)
  have B4 := B3.grown hg4 B3.size (fun q hq => by cases hq; omega)
  obtain ⟨_, _, _, _, _, _, _, _⟩ := Blk.all7 L4
  obtain ⟨w5, hr5, M5, hg5⟩ := insert_run (t := 248) (key := .int .i64 5) (val := (.func (.func 203) #[(.agg #[.int .i64 1, .string im, .int .i64 bl, .bool false, .int .i64 tr, .string rd, .int .i64 rp])] #[])) Tryz.underlying248 M4 (finds_int Tryz.underlying3 5) (by simp) (by simp [intE]) (by kernel_rfl)
  have L5 := blk_grown L4 hg5 (by simp)
  have P5 := blk_grown P4 hg5 (by simp; omega)
  have B5 := B4.grown hg5 B4.size (fun q hq => by cases hq; omega)
  obtain ⟨_, _, _, _, _, _, _, _⟩ := Blk.all7 L5
  obtain ⟨w6, hr6, M6, hg6⟩ := insert_run (t := 248) (key := .int .i64 6) (val := (.func (.func 205) #[(.agg #[.int .i64 1, .string im, .int .i64 bl, .bool false, .int .i64 tr, .string rd, .int .i64 rp])] #[])) Tryz.underlying248 M5 (finds_int Tryz.underlying3 6) (by simp) (by simp [intE]) (by kernel_rfl)
  have L6 := blk_grown L5 hg6 (by simp)
  have P6 := blk_grown P5 hg6 (by simp; omega)
  have B6 := B5.grown hg6 B5.size (fun q hq => by cases hq; omega)
  obtain ⟨_, _, _, _, _, _, _, _⟩ := Blk.all7 L6
  obtain ⟨_, _, _, _, _, _, _, _⟩ := Blk.all7 L0
  obtain ⟨_, _, _, _, _, _, _, _⟩ := Blk.all7 P6
  go_upto_region 5 with fail
  have HB := B6
  clear hr1 hr2 hr3 hr4 hr5 hr6 M0 M1 M2 M3 M4 M5 hg1 hg2 hg3 hg4 hg5 hg6 L0 L1 L2 L3 L4 L5 P0 P1 P2 P3 P4 P5 B0 B1 B2 B3 B4 B5 hmk
  have hlk : (Instr.lookup 248 (.map (some (w'.heap.size + 1))) (.int .i64 1) false).run Tryz.prog w6 = .ok (.func (.func 201) #[(.agg #[.int .i64 1, .string im, .int .i64 bl, .bool false, .int .i64 tr, .string rd, .int .i64 rp])] #[]) w6 :=
    lookup_run (z := .nilFunc) Tryz.underlying248 M6 (finds_int Tryz.underlying3 1) (by simp) (by kernel_rfl) (by intro em; cases em <;> kernel_rfl) (by intro _; simp [intE]) (by intro h; have h1 := h (.int .i64 1, (.func (.func 201) #[(.agg #[.int .i64 1, .string im, .int .i64 bl, .bool false, .int .i64 tr, .string rd, .int .i64 rp])] #[])) (by simp); simp [intE] at h1)
  have hlk' := Lib.hid M6
  clear M6
  go_wp2_with (first | (go_at_call 201; refine (clear1_c _ _ _ _ _ _ _ _ rfl).mono ?_; rintro e w' ⟨rfl, hb⟩; have HB := bl_step zq4 hb) | (go_at_call 184; refine (sput_c _ _ _ _).mono ?_; rintro e w' ⟨rfl, hb⟩; have HB := bl_step zq4 hb) | fail)
  go_ret3
  exact ⟨by simp [asksV, hk, askC, askW, askL, askD], zq1⟩
set_option maxRecDepth 100000 in
set_option maxHeartbeats 6400000 in
theorem asks_1b (im : ByteArray) (tr : Int) (rd : ByteArray) (rp : Int) (w : World) (hi : im.size ≤ 1000000000000000) (hr : rd.size ≤ 1000000000000000) (hm : hostMay 1 im 0 tr rd rp = true) :
    Calls Tryz.prog 156 #[hostV 1 im 0 true tr rd rp] w fun e w' => e = .returned (asksV 1 im 0 true tr rd rp) ∧ Below w.heap.size w w' := by
  have HB := Below.refl w.heap.size w
  have K0 := fun cs => Blk.new w cs 30
  have ho : offB 1 = false := by decide
  have hk : asksOk 1 im 0 tr rd rp = true := by simp [asksOk, hm, ho]
  obtain ⟨hph, hz1, hz2, hz3⟩ := may_facts hk
  clear hph
  go_enter Tryz.func156, Tryz.ntmps156
  go_upto_region 4 with (first | (go_at_call 105; refine (hmay_c _ _ _ _ _ _ _ _ hi hr).mono ?_; rintro e w' ⟨rfl, hb⟩; have HB := bl_step zq4 hb; have K0 := Blk.below zq7 hb; obtain ⟨_, _, _, _, _, _, _, _, _, _, _⟩ := Blk.all7 K0) | (go_at_call 155; refine (off_c _ 1 _ (K0.cell 0)).mono ?_; rintro e w' ⟨rfl, rfl⟩) | fail)
  have hmk : ∀ W : World, (Instr.makeMap 248 none).run Tryz.prog W = .ok (.map (some W.heap.size)) (W.alloc (.map #[] 0)) := fun W => rfl
  have M0 := MapAt.new (w'.alloc (.cells #[.int .i64 1, .string im, .int .i64 0, .bool true, .int .i64 tr, .string rd, .int .i64 rp] 246))
  rw [World.size_alloc] at M0
  have L0 := (Blk.new w' #[.int .i64 1, .string im, .int .i64 0, .bool true, .int .i64 tr, .string rd, .int .i64 rp] 246).alloc (.map #[] 0)
  have P0 := (K0.alloc (.cells #[.int .i64 1, .string im, .int .i64 0, .bool true, .int .i64 tr, .string rd, .int .i64 rp] 246)).alloc (.map #[] 0)
  have B0 := bl_alloc (bl_alloc HB (.cells #[.int .i64 1, .string im, .int .i64 0, .bool true, .int .i64 tr, .string rd, .int .i64 rp] 246)) (.map #[] 0)
  have hlt := K0.lt
  obtain ⟨w1, hr1, M1, hg1⟩ := insert_run (t := 248) (key := .int .i64 1) (val := (.func (.func 201) #[(.agg #[.int .i64 1, .string im, .int .i64 0, .bool true, .int .i64 tr, .string rd, .int .i64 rp])] #[])) Tryz.underlying248 M0 (finds_int Tryz.underlying3 1) (by simp) (by simp [intE]) (by kernel_rfl)
  have L1 := blk_grown L0 hg1 (by simp)
  have P1 := blk_grown P0 hg1 (by simp; omega)
  have B1 := B0.grown hg1 B0.size (fun q hq => by cases hq; omega)
  obtain ⟨_, _, _, _, _, _, _, _⟩ := Blk.all7 L1
  obtain ⟨w2, hr2, M2, hg2⟩ := insert_run (t := 248) (key := .int .i64 2) (val := (.func (.func 202) #[(.agg #[.int .i64 1, .string im, .int .i64 0, .bool true, .int .i64 tr, .string rd, .int .i64 rp])] #[])) Tryz.underlying248 M1 (finds_int Tryz.underlying3 2) (by simp) (by simp [intE]) (by kernel_rfl)
  have L2 := blk_grown L1 hg2 (by simp)
  have P2 := blk_grown P1 hg2 (by simp; omega)
  have B2 := B1.grown hg2 B1.size (fun q hq => by cases hq; omega)
  obtain ⟨_, _, _, _, _, _, _, _⟩ := Blk.all7 L2
  obtain ⟨w3, hr3, M3, hg3⟩ := insert_run (t := 248) (key := .int .i64 3) (val := (.func (.func 203) #[(.agg #[.int .i64 1, .string im, .int .i64 0, .bool true, .int .i64 tr, .string rd, .int .i64 rp])] #[])) Tryz.underlying248 M2 (finds_int Tryz.underlying3 3) (by simp) (by simp [intE]) (by kernel_rfl)
  have L3 := blk_grown L2 hg3 (by simp)
  have P3 := blk_grown P2 hg3 (by simp; omega)
  have B3 := B2.grown hg3 B2.size (fun q hq => by cases hq; omega)
  obtain ⟨_, _, _, _, _, _, _, _⟩ := Blk.all7 L3
  obtain ⟨w4, hr4, M4, hg4⟩ := insert_run (t := 248) (key := .int .i64 4) (val := (.func (.func 204) #[(.agg #[.int .i64 1, .string im, .int .i64 0, .bool true, .int .i64 tr, .string rd, .int .i64 rp])] #[])) Tryz.underlying248 M3 (finds_int Tryz.underlying3 4) (by simp) (by simp [intE]) (by kernel_rfl)
  have L4 := blk_grown L3 hg4 (by simp)
  have P4 := blk_grown P3 hg4 (by simp; omega)
  have B4 := B3.grown hg4 B3.size (fun q hq => by cases hq; omega)
  obtain ⟨_, _, _, _, _, _, _, _⟩ := Blk.all7 L4
  obtain ⟨w5, hr5, M5, hg5⟩ := insert_run (t := 248) (key := .int .i64 5) (val := (.func (.func 203) #[(.agg #[.int .i64 1, .string im, .int .i64 0, .bool true, .int .i64 tr, .string rd, .int .i64 rp])] #[])) Tryz.underlying248 M4 (finds_int Tryz.underlying3 5) (by simp) (by simp [intE]) (by kernel_rfl)
  have L5 := blk_grown L4 hg5 (by simp)
  have P5 := blk_grown P4 hg5 (by simp; omega)
  have B5 := B4.grown hg5 B4.size (fun q hq => by cases hq; omega)
  obtain ⟨_, _, _, _, _, _, _, _⟩ := Blk.all7 L5
  obtain ⟨w6, hr6, M6, hg6⟩ := insert_run (t := 248) (key := .int .i64 6) (val := (.func (.func 205) #[(.agg #[.int .i64 1, .string im, .int .i64 0, .bool true, .int .i64 tr, .string rd, .int .i64 rp])] #[])) Tryz.underlying248 M5 (finds_int Tryz.underlying3 6) (by simp) (by simp [intE]) (by kernel_rfl)
  have L6 := blk_grown L5 hg6 (by simp)
  have P6 := blk_grown P5 hg6 (by simp; omega)
  have B6 := B5.grown hg6 B5.size (fun q hq => by cases hq; omega)
  obtain ⟨_, _, _, _, _, _, _, _⟩ := Blk.all7 L6
  obtain ⟨_, _, _, _, _, _, _, _⟩ := Blk.all7 L0
  obtain ⟨_, _, _, _, _, _, _, _⟩ := Blk.all7 P6
  go_upto_region 5 with fail
  have HB := B6
  clear hr1 hr2 hr3 hr4 hr5 hr6 M0 M1 M2 M3 M4 M5 hg1 hg2 hg3 hg4 hg5 hg6 L0 L1 L2 L3 L4 L5 P0 P1 P2 P3 P4 P5 B0 B1 B2 B3 B4 B5 hmk
  have hlk : (Instr.lookup 248 (.map (some (w'.heap.size + 1))) (.int .i64 1) false).run Tryz.prog w6 = .ok (.func (.func 201) #[(.agg #[.int .i64 1, .string im, .int .i64 0, .bool true, .int .i64 tr, .string rd, .int .i64 rp])] #[]) w6 :=
    lookup_run (z := .nilFunc) Tryz.underlying248 M6 (finds_int Tryz.underlying3 1) (by simp) (by kernel_rfl) (by intro em; cases em <;> kernel_rfl) (by intro _; simp [intE]) (by intro h; have h1 := h (.int .i64 1, (.func (.func 201) #[(.agg #[.int .i64 1, .string im, .int .i64 0, .bool true, .int .i64 tr, .string rd, .int .i64 rp])] #[])) (by simp); simp [intE] at h1)
  have hlk' := Lib.hid M6
  clear M6
  go_wp2_with (first | (go_at_call 201; refine (clear2_c _ _ _ _ _ _ _ _ rfl rfl).mono ?_; rintro e w' ⟨rfl, hb⟩; have HB := bl_step zq4 hb) | (go_at_call 184; refine (sput_c _ _ _ _).mono ?_; rintro e w' ⟨rfl, hb⟩; have HB := bl_step zq4 hb) | fail)
  go_ret3
  exact ⟨by simp [asksV, hk, askC, askW, askL, askD], zq1⟩
set_option maxRecDepth 100000 in
set_option maxHeartbeats 6400000 in
theorem asks_1c (im : ByteArray) (bl : Int) (tr : Int) (rd : ByteArray) (rp : Int) (w : World) (hi : im.size ≤ 1000000000000000) (hr : rd.size ≤ 1000000000000000) (hm : hostMay 1 im bl tr rd rp = true) (hb0 : ¬ bl = 0) :
    Calls Tryz.prog 156 #[hostV 1 im bl true tr rd rp] w fun e w' => e = .returned (asksV 1 im bl true tr rd rp) ∧ Below w.heap.size w w' := by
  have HB := Below.refl w.heap.size w
  have K0 := fun cs => Blk.new w cs 30
  have ho : offB 1 = false := by decide
  have hk : asksOk 1 im bl tr rd rp = true := by simp [asksOk, hm, ho]
  obtain ⟨hph, hz1, hz2, hz3⟩ := may_facts hk
  clear hph
  go_enter Tryz.func156, Tryz.ntmps156
  go_upto_region 4 with (first | (go_at_call 105; refine (hmay_c _ _ _ _ _ _ _ _ hi hr).mono ?_; rintro e w' ⟨rfl, hb⟩; have HB := bl_step zq4 hb; have K0 := Blk.below zq7 hb; obtain ⟨_, _, _, _, _, _, _, _, _, _, _⟩ := Blk.all7 K0) | (go_at_call 155; refine (off_c _ 1 _ (K0.cell 0)).mono ?_; rintro e w' ⟨rfl, rfl⟩) | fail)
  have hmk : ∀ W : World, (Instr.makeMap 248 none).run Tryz.prog W = .ok (.map (some W.heap.size)) (W.alloc (.map #[] 0)) := fun W => rfl
  have M0 := MapAt.new (w'.alloc (.cells #[.int .i64 1, .string im, .int .i64 bl, .bool true, .int .i64 tr, .string rd, .int .i64 rp] 246))
  rw [World.size_alloc] at M0
  have L0 := (Blk.new w' #[.int .i64 1, .string im, .int .i64 bl, .bool true, .int .i64 tr, .string rd, .int .i64 rp] 246).alloc (.map #[] 0)
  have P0 := (K0.alloc (.cells #[.int .i64 1, .string im, .int .i64 bl, .bool true, .int .i64 tr, .string rd, .int .i64 rp] 246)).alloc (.map #[] 0)
  have B0 := bl_alloc (bl_alloc HB (.cells #[.int .i64 1, .string im, .int .i64 bl, .bool true, .int .i64 tr, .string rd, .int .i64 rp] 246)) (.map #[] 0)
  have hlt := K0.lt
  obtain ⟨w1, hr1, M1, hg1⟩ := insert_run (t := 248) (key := .int .i64 1) (val := (.func (.func 201) #[(.agg #[.int .i64 1, .string im, .int .i64 bl, .bool true, .int .i64 tr, .string rd, .int .i64 rp])] #[])) Tryz.underlying248 M0 (finds_int Tryz.underlying3 1) (by simp) (by simp [intE]) (by kernel_rfl)
  have L1 := blk_grown L0 hg1 (by simp)
  have P1 := blk_grown P0 hg1 (by simp; omega)
  have B1 := B0.grown hg1 B0.size (fun q hq => by cases hq; omega)
  obtain ⟨_, _, _, _, _, _, _, _⟩ := Blk.all7 L1
  obtain ⟨w2, hr2, M2, hg2⟩ := insert_run (t := 248) (key := .int .i64 2) (val := (.func (.func 202) #[(.agg #[.int .i64 1, .string im, .int .i64 bl, .bool true, .int .i64 tr, .string rd, .int .i64 rp])] #[])) Tryz.underlying248 M1 (finds_int Tryz.underlying3 2) (by simp) (by simp [intE]) (by kernel_rfl)
  have L2 := blk_grown L1 hg2 (by simp)
  have P2 := blk_grown P1 hg2 (by simp; omega)
  have B2 := B1.grown hg2 B1.size (fun q hq => by cases hq; omega)
  obtain ⟨_, _, _, _, _, _, _, _⟩ := Blk.all7 L2
  obtain ⟨w3, hr3, M3, hg3⟩ := insert_run (t := 248) (key := .int .i64 3) (val := (.func (.func 203) #[(.agg #[.int .i64 1, .string im, .int .i64 bl, .bool true, .int .i64 tr, .string rd, .int .i64 rp])] #[])) Tryz.underlying248 M2 (finds_int Tryz.underlying3 3) (by simp) (by simp [intE]) (by kernel_rfl)
  have L3 := blk_grown L2 hg3 (by simp)
  have P3 := blk_grown P2 hg3 (by simp; omega)
  have B3 := B2.grown hg3 B2.size (fun q hq => by cases hq; omega)
  obtain ⟨_, _, _, _, _, _, _, _⟩ := Blk.all7 L3
  obtain ⟨w4, hr4, M4, hg4⟩ := insert_run (t := 248) (key := .int .i64 4) (val := (.func (.func 204) #[(.agg #[.int .i64 1, .string im, .int .i64 bl, .bool true, .int .i64 tr, .string rd, .int .i64 rp])] #[])) Tryz.underlying248 M3 (finds_int Tryz.underlying3 4) (by simp) (by simp [intE]) (by kernel_rfl)
  have L4 := blk_grown L3 hg4 (by simp)
  have P4 := blk_grown P3 hg4 (by simp; omega)
  have B4 := B3.grown hg4 B3.size (fun q hq => by cases hq; omega)
  obtain ⟨_, _, _, _, _, _, _, _⟩ := Blk.all7 L4
  obtain ⟨w5, hr5, M5, hg5⟩ := insert_run (t := 248) (key := .int .i64 5) (val := (.func (.func 203) #[(.agg #[.int .i64 1, .string im, .int .i64 bl, .bool true, .int .i64 tr, .string rd, .int .i64 rp])] #[])) Tryz.underlying248 M4 (finds_int Tryz.underlying3 5) (by simp) (by simp [intE]) (by kernel_rfl)
  have L5 := blk_grown L4 hg5 (by simp)
  have P5 := blk_grown P4 hg5 (by simp; omega)
  have B5 := B4.grown hg5 B4.size (fun q hq => by cases hq; omega)
  obtain ⟨_, _, _, _, _, _, _, _⟩ := Blk.all7 L5
  obtain ⟨w6, hr6, M6, hg6⟩ := insert_run (t := 248) (key := .int .i64 6) (val := (.func (.func 205) #[(.agg #[.int .i64 1, .string im, .int .i64 bl, .bool true, .int .i64 tr, .string rd, .int .i64 rp])] #[])) Tryz.underlying248 M5 (finds_int Tryz.underlying3 6) (by simp) (by simp [intE]) (by kernel_rfl)
  have L6 := blk_grown L5 hg6 (by simp)
  have P6 := blk_grown P5 hg6 (by simp; omega)
  have B6 := B5.grown hg6 B5.size (fun q hq => by cases hq; omega)
  obtain ⟨_, _, _, _, _, _, _, _⟩ := Blk.all7 L6
  obtain ⟨_, _, _, _, _, _, _, _⟩ := Blk.all7 L0
  obtain ⟨_, _, _, _, _, _, _, _⟩ := Blk.all7 P6
  go_upto_region 5 with fail
  have HB := B6
  clear hr1 hr2 hr3 hr4 hr5 hr6 M0 M1 M2 M3 M4 M5 hg1 hg2 hg3 hg4 hg5 hg6 L0 L1 L2 L3 L4 L5 P0 P1 P2 P3 P4 P5 B0 B1 B2 B3 B4 B5 hmk
  have hlk : (Instr.lookup 248 (.map (some (w'.heap.size + 1))) (.int .i64 1) false).run Tryz.prog w6 = .ok (.func (.func 201) #[(.agg #[.int .i64 1, .string im, .int .i64 bl, .bool true, .int .i64 tr, .string rd, .int .i64 rp])] #[]) w6 :=
    lookup_run (z := .nilFunc) Tryz.underlying248 M6 (finds_int Tryz.underlying3 1) (by simp) (by kernel_rfl) (by intro em; cases em <;> kernel_rfl) (by intro _; simp [intE]) (by intro h; have h1 := h (.int .i64 1, (.func (.func 201) #[(.agg #[.int .i64 1, .string im, .int .i64 bl, .bool true, .int .i64 tr, .string rd, .int .i64 rp])] #[])) (by simp); simp [intE] at h1)
  have hlk' := Lib.hid M6
  clear M6
  go_wp2_with (first | (go_at_call 201; refine (clear3_c _ _ _ _ _ _ _ _ rfl hb0).mono ?_; rintro e w' ⟨rfl, hb⟩; have HB := bl_step zq4 hb) | (go_at_call 184; refine (sput_c _ _ _ _).mono ?_; rintro e w' ⟨rfl, hb⟩; have HB := bl_step zq4 hb) | fail)
  go_ret3
  exact ⟨by simp [asksV, hk, askC, askW, askL, askD, hb0], zq1⟩
set_option maxRecDepth 100000 in
set_option maxHeartbeats 6400000 in
theorem asks_2 (im : ByteArray) (bl : Int) (ag : Bool) (tr : Int) (rd : ByteArray) (rp : Int) (w : World) (hi : im.size ≤ 1000000000000000) (hr : rd.size ≤ 1000000000000000) (hm : hostMay 2 im bl tr rd rp = true) :
    Calls Tryz.prog 156 #[hostV 2 im bl ag tr rd rp] w fun e w' => e = .returned (asksV 2 im bl ag tr rd rp) ∧ Below w.heap.size w w' := by
  have HB := Below.refl w.heap.size w
  have K0 := fun cs => Blk.new w cs 30
  have ho : offB 2 = false := by decide
  have hk : asksOk 2 im bl tr rd rp = true := by simp [asksOk, hm, ho]
  obtain ⟨hph, hz1, hz2, hz3⟩ := may_facts hk
  clear hph
  go_enter Tryz.func156, Tryz.ntmps156
  go_upto_region 4 with (first | (go_at_call 105; refine (hmay_c _ _ _ _ _ _ _ _ hi hr).mono ?_; rintro e w' ⟨rfl, hb⟩; have HB := bl_step zq4 hb; have K0 := Blk.below zq7 hb; obtain ⟨_, _, _, _, _, _, _, _, _, _, _⟩ := Blk.all7 K0) | (go_at_call 155; refine (off_c _ 2 _ (K0.cell 0)).mono ?_; rintro e w' ⟨rfl, rfl⟩) | fail)
  have hmk : ∀ W : World, (Instr.makeMap 248 none).run Tryz.prog W = .ok (.map (some W.heap.size)) (W.alloc (.map #[] 0)) := fun W => rfl
  have M0 := MapAt.new (w'.alloc (.cells #[.int .i64 2, .string im, .int .i64 bl, .bool ag, .int .i64 tr, .string rd, .int .i64 rp] 246))
  rw [World.size_alloc] at M0
  have L0 := (Blk.new w' #[.int .i64 2, .string im, .int .i64 bl, .bool ag, .int .i64 tr, .string rd, .int .i64 rp] 246).alloc (.map #[] 0)
  have P0 := (K0.alloc (.cells #[.int .i64 2, .string im, .int .i64 bl, .bool ag, .int .i64 tr, .string rd, .int .i64 rp] 246)).alloc (.map #[] 0)
  have B0 := bl_alloc (bl_alloc HB (.cells #[.int .i64 2, .string im, .int .i64 bl, .bool ag, .int .i64 tr, .string rd, .int .i64 rp] 246)) (.map #[] 0)
  have hlt := K0.lt
  obtain ⟨w1, hr1, M1, hg1⟩ := insert_run (t := 248) (key := .int .i64 1) (val := (.func (.func 201) #[(.agg #[.int .i64 2, .string im, .int .i64 bl, .bool ag, .int .i64 tr, .string rd, .int .i64 rp])] #[])) Tryz.underlying248 M0 (finds_int Tryz.underlying3 1) (by simp) (by simp [intE]) (by kernel_rfl)
  have L1 := blk_grown L0 hg1 (by simp)
  have P1 := blk_grown P0 hg1 (by simp; omega)
  have B1 := B0.grown hg1 B0.size (fun q hq => by cases hq; omega)
  obtain ⟨_, _, _, _, _, _, _, _⟩ := Blk.all7 L1
  obtain ⟨w2, hr2, M2, hg2⟩ := insert_run (t := 248) (key := .int .i64 2) (val := (.func (.func 202) #[(.agg #[.int .i64 2, .string im, .int .i64 bl, .bool ag, .int .i64 tr, .string rd, .int .i64 rp])] #[])) Tryz.underlying248 M1 (finds_int Tryz.underlying3 2) (by simp) (by simp [intE]) (by kernel_rfl)
  have L2 := blk_grown L1 hg2 (by simp)
  have P2 := blk_grown P1 hg2 (by simp; omega)
  have B2 := B1.grown hg2 B1.size (fun q hq => by cases hq; omega)
  obtain ⟨_, _, _, _, _, _, _, _⟩ := Blk.all7 L2
  obtain ⟨w3, hr3, M3, hg3⟩ := insert_run (t := 248) (key := .int .i64 3) (val := (.func (.func 203) #[(.agg #[.int .i64 2, .string im, .int .i64 bl, .bool ag, .int .i64 tr, .string rd, .int .i64 rp])] #[])) Tryz.underlying248 M2 (finds_int Tryz.underlying3 3) (by simp) (by simp [intE]) (by kernel_rfl)
  have L3 := blk_grown L2 hg3 (by simp)
  have P3 := blk_grown P2 hg3 (by simp; omega)
  have B3 := B2.grown hg3 B2.size (fun q hq => by cases hq; omega)
  obtain ⟨_, _, _, _, _, _, _, _⟩ := Blk.all7 L3
  obtain ⟨w4, hr4, M4, hg4⟩ := insert_run (t := 248) (key := .int .i64 4) (val := (.func (.func 204) #[(.agg #[.int .i64 2, .string im, .int .i64 bl, .bool ag, .int .i64 tr, .string rd, .int .i64 rp])] #[])) Tryz.underlying248 M3 (finds_int Tryz.underlying3 4) (by simp) (by simp [intE]) (by kernel_rfl)
  have L4 := blk_grown L3 hg4 (by simp)
  have P4 := blk_grown P3 hg4 (by simp; omega)
  have B4 := B3.grown hg4 B3.size (fun q hq => by cases hq; omega)
  obtain ⟨_, _, _, _, _, _, _, _⟩ := Blk.all7 L4
  obtain ⟨w5, hr5, M5, hg5⟩ := insert_run (t := 248) (key := .int .i64 5) (val := (.func (.func 203) #[(.agg #[.int .i64 2, .string im, .int .i64 bl, .bool ag, .int .i64 tr, .string rd, .int .i64 rp])] #[])) Tryz.underlying248 M4 (finds_int Tryz.underlying3 5) (by simp) (by simp [intE]) (by kernel_rfl)
  have L5 := blk_grown L4 hg5 (by simp)
  have P5 := blk_grown P4 hg5 (by simp; omega)
  have B5 := B4.grown hg5 B4.size (fun q hq => by cases hq; omega)
  obtain ⟨_, _, _, _, _, _, _, _⟩ := Blk.all7 L5
  obtain ⟨w6, hr6, M6, hg6⟩ := insert_run (t := 248) (key := .int .i64 6) (val := (.func (.func 205) #[(.agg #[.int .i64 2, .string im, .int .i64 bl, .bool ag, .int .i64 tr, .string rd, .int .i64 rp])] #[])) Tryz.underlying248 M5 (finds_int Tryz.underlying3 6) (by simp) (by simp [intE]) (by kernel_rfl)
  have L6 := blk_grown L5 hg6 (by simp)
  have P6 := blk_grown P5 hg6 (by simp; omega)
  have B6 := B5.grown hg6 B5.size (fun q hq => by cases hq; omega)
  obtain ⟨_, _, _, _, _, _, _, _⟩ := Blk.all7 L6
  obtain ⟨_, _, _, _, _, _, _, _⟩ := Blk.all7 L0
  obtain ⟨_, _, _, _, _, _, _, _⟩ := Blk.all7 P6
  go_upto_region 5 with fail
  have HB := B6
  clear hr1 hr2 hr3 hr4 hr5 hr6 M0 M1 M2 M3 M4 M5 hg1 hg2 hg3 hg4 hg5 hg6 L0 L1 L2 L3 L4 L5 P0 P1 P2 P3 P4 P5 B0 B1 B2 B3 B4 B5 hmk
  have hlk : (Instr.lookup 248 (.map (some (w'.heap.size + 1))) (.int .i64 2) false).run Tryz.prog w6 = .ok (.func (.func 202) #[(.agg #[.int .i64 2, .string im, .int .i64 bl, .bool ag, .int .i64 tr, .string rd, .int .i64 rp])] #[]) w6 :=
    lookup_run (z := .nilFunc) Tryz.underlying248 M6 (finds_int Tryz.underlying3 2) (by simp) (by kernel_rfl) (by intro em; cases em <;> kernel_rfl) (by intro _; simp [intE]) (by intro h; have h1 := h (.int .i64 2, (.func (.func 202) #[(.agg #[.int .i64 2, .string im, .int .i64 bl, .bool ag, .int .i64 tr, .string rd, .int .i64 rp])] #[])) (by simp); simp [intE] at h1)
  have hlk' := Lib.hid M6
  clear M6
  go_wp2_with (first | (go_at_call 202; refine (send_c _ _ _ _ _ _ _ _ hz2 (by omega) hz1).mono ?_; rintro e w' ⟨rfl, hb⟩; have HB := bl_step zq4 hb) | (go_at_call 184; refine (sput_c _ _ _ _).mono ?_; rintro e w' ⟨rfl, hb⟩; have HB := bl_step zq4 hb) | fail)
  go_ret3
  exact ⟨by simp [asksV, hk, askC, askW, askL, askD], zq1⟩
set_option maxRecDepth 100000 in
set_option maxHeartbeats 6400000 in
theorem asks_3 (im : ByteArray) (bl : Int) (ag : Bool) (tr : Int) (rd : ByteArray) (rp : Int) (w : World) (hi : im.size ≤ 1000000000000000) (hr : rd.size ≤ 1000000000000000) (hm : hostMay 3 im bl tr rd rp = true) :
    Calls Tryz.prog 156 #[hostV 3 im bl ag tr rd rp] w fun e w' => e = .returned (asksV 3 im bl ag tr rd rp) ∧ Below w.heap.size w w' := by
  have HB := Below.refl w.heap.size w
  have K0 := fun cs => Blk.new w cs 30
  have ho : offB 3 = false := by decide
  have hk : asksOk 3 im bl tr rd rp = true := by simp [asksOk, hm, ho]
  obtain ⟨hph, hz1, hz2, hz3⟩ := may_facts hk
  clear hph
  go_enter Tryz.func156, Tryz.ntmps156
  go_upto_region 4 with (first | (go_at_call 105; refine (hmay_c _ _ _ _ _ _ _ _ hi hr).mono ?_; rintro e w' ⟨rfl, hb⟩; have HB := bl_step zq4 hb; have K0 := Blk.below zq7 hb; obtain ⟨_, _, _, _, _, _, _, _, _, _, _⟩ := Blk.all7 K0) | (go_at_call 155; refine (off_c _ 3 _ (K0.cell 0)).mono ?_; rintro e w' ⟨rfl, rfl⟩) | fail)
  have hmk : ∀ W : World, (Instr.makeMap 248 none).run Tryz.prog W = .ok (.map (some W.heap.size)) (W.alloc (.map #[] 0)) := fun W => rfl
  have M0 := MapAt.new (w'.alloc (.cells #[.int .i64 3, .string im, .int .i64 bl, .bool ag, .int .i64 tr, .string rd, .int .i64 rp] 246))
  rw [World.size_alloc] at M0
  have L0 := (Blk.new w' #[.int .i64 3, .string im, .int .i64 bl, .bool ag, .int .i64 tr, .string rd, .int .i64 rp] 246).alloc (.map #[] 0)
  have P0 := (K0.alloc (.cells #[.int .i64 3, .string im, .int .i64 bl, .bool ag, .int .i64 tr, .string rd, .int .i64 rp] 246)).alloc (.map #[] 0)
  have B0 := bl_alloc (bl_alloc HB (.cells #[.int .i64 3, .string im, .int .i64 bl, .bool ag, .int .i64 tr, .string rd, .int .i64 rp] 246)) (.map #[] 0)
  have hlt := K0.lt
  obtain ⟨w1, hr1, M1, hg1⟩ := insert_run (t := 248) (key := .int .i64 1) (val := (.func (.func 201) #[(.agg #[.int .i64 3, .string im, .int .i64 bl, .bool ag, .int .i64 tr, .string rd, .int .i64 rp])] #[])) Tryz.underlying248 M0 (finds_int Tryz.underlying3 1) (by simp) (by simp [intE]) (by kernel_rfl)
  have L1 := blk_grown L0 hg1 (by simp)
  have P1 := blk_grown P0 hg1 (by simp; omega)
  have B1 := B0.grown hg1 B0.size (fun q hq => by cases hq; omega)
  obtain ⟨_, _, _, _, _, _, _, _⟩ := Blk.all7 L1
  obtain ⟨w2, hr2, M2, hg2⟩ := insert_run (t := 248) (key := .int .i64 2) (val := (.func (.func 202) #[(.agg #[.int .i64 3, .string im, .int .i64 bl, .bool ag, .int .i64 tr, .string rd, .int .i64 rp])] #[])) Tryz.underlying248 M1 (finds_int Tryz.underlying3 2) (by simp) (by simp [intE]) (by kernel_rfl)
  have L2 := blk_grown L1 hg2 (by simp)
  have P2 := blk_grown P1 hg2 (by simp; omega)
  have B2 := B1.grown hg2 B1.size (fun q hq => by cases hq; omega)
  obtain ⟨_, _, _, _, _, _, _, _⟩ := Blk.all7 L2
  obtain ⟨w3, hr3, M3, hg3⟩ := insert_run (t := 248) (key := .int .i64 3) (val := (.func (.func 203) #[(.agg #[.int .i64 3, .string im, .int .i64 bl, .bool ag, .int .i64 tr, .string rd, .int .i64 rp])] #[])) Tryz.underlying248 M2 (finds_int Tryz.underlying3 3) (by simp) (by simp [intE]) (by kernel_rfl)
  have L3 := blk_grown L2 hg3 (by simp)
  have P3 := blk_grown P2 hg3 (by simp; omega)
  have B3 := B2.grown hg3 B2.size (fun q hq => by cases hq; omega)
  obtain ⟨_, _, _, _, _, _, _, _⟩ := Blk.all7 L3
  obtain ⟨w4, hr4, M4, hg4⟩ := insert_run (t := 248) (key := .int .i64 4) (val := (.func (.func 204) #[(.agg #[.int .i64 3, .string im, .int .i64 bl, .bool ag, .int .i64 tr, .string rd, .int .i64 rp])] #[])) Tryz.underlying248 M3 (finds_int Tryz.underlying3 4) (by simp) (by simp [intE]) (by kernel_rfl)
  have L4 := blk_grown L3 hg4 (by simp)
  have P4 := blk_grown P3 hg4 (by simp; omega)
  have B4 := B3.grown hg4 B3.size (fun q hq => by cases hq; omega)
  obtain ⟨_, _, _, _, _, _, _, _⟩ := Blk.all7 L4
  obtain ⟨w5, hr5, M5, hg5⟩ := insert_run (t := 248) (key := .int .i64 5) (val := (.func (.func 203) #[(.agg #[.int .i64 3, .string im, .int .i64 bl, .bool ag, .int .i64 tr, .string rd, .int .i64 rp])] #[])) Tryz.underlying248 M4 (finds_int Tryz.underlying3 5) (by simp) (by simp [intE]) (by kernel_rfl)
  have L5 := blk_grown L4 hg5 (by simp)
  have P5 := blk_grown P4 hg5 (by simp; omega)
  have B5 := B4.grown hg5 B4.size (fun q hq => by cases hq; omega)
  obtain ⟨_, _, _, _, _, _, _, _⟩ := Blk.all7 L5
  obtain ⟨w6, hr6, M6, hg6⟩ := insert_run (t := 248) (key := .int .i64 6) (val := (.func (.func 205) #[(.agg #[.int .i64 3, .string im, .int .i64 bl, .bool ag, .int .i64 tr, .string rd, .int .i64 rp])] #[])) Tryz.underlying248 M5 (finds_int Tryz.underlying3 6) (by simp) (by simp [intE]) (by kernel_rfl)
  have L6 := blk_grown L5 hg6 (by simp)
  have P6 := blk_grown P5 hg6 (by simp; omega)
  have B6 := B5.grown hg6 B5.size (fun q hq => by cases hq; omega)
  obtain ⟨_, _, _, _, _, _, _, _⟩ := Blk.all7 L6
  obtain ⟨_, _, _, _, _, _, _, _⟩ := Blk.all7 L0
  obtain ⟨_, _, _, _, _, _, _, _⟩ := Blk.all7 P6
  go_upto_region 5 with fail
  have HB := B6
  clear hr1 hr2 hr3 hr4 hr5 hr6 M0 M1 M2 M3 M4 M5 hg1 hg2 hg3 hg4 hg5 hg6 L0 L1 L2 L3 L4 L5 P0 P1 P2 P3 P4 P5 B0 B1 B2 B3 B4 B5 hmk
  have hlk : (Instr.lookup 248 (.map (some (w'.heap.size + 1))) (.int .i64 3) false).run Tryz.prog w6 = .ok (.func (.func 203) #[(.agg #[.int .i64 3, .string im, .int .i64 bl, .bool ag, .int .i64 tr, .string rd, .int .i64 rp])] #[]) w6 :=
    lookup_run (z := .nilFunc) Tryz.underlying248 M6 (finds_int Tryz.underlying3 3) (by simp) (by kernel_rfl) (by intro em; cases em <;> kernel_rfl) (by intro _; simp [intE]) (by intro h; have h1 := h (.int .i64 3, (.func (.func 203) #[(.agg #[.int .i64 3, .string im, .int .i64 bl, .bool ag, .int .i64 tr, .string rd, .int .i64 rp])] #[])) (by simp); simp [intE] at h1)
  have hlk' := Lib.hid M6
  clear M6
  go_wp2_with (first | (go_at_call 203; refine (status_c _ _ _ _ _ _ _ _).mono ?_; rintro e w' ⟨rfl, hb⟩; have HB := bl_step zq4 hb) | (go_at_call 184; refine (sput_c _ _ _ _).mono ?_; rintro e w' ⟨rfl, hb⟩; have HB := bl_step zq4 hb) | fail)
  go_ret3
  exact ⟨by simp [asksV, hk, askC, askW, askL, askD], zq1⟩
set_option maxRecDepth 100000 in
set_option maxHeartbeats 6400000 in
theorem asks_4 (im : ByteArray) (bl : Int) (ag : Bool) (tr : Int) (rd : ByteArray) (rp : Int) (w : World) (hi : im.size ≤ 1000000000000000) (hr : rd.size ≤ 1000000000000000) (hm : hostMay 4 im bl tr rd rp = true) :
    Calls Tryz.prog 156 #[hostV 4 im bl ag tr rd rp] w fun e w' => e = .returned (asksV 4 im bl ag tr rd rp) ∧ Below w.heap.size w w' := by
  have HB := Below.refl w.heap.size w
  have K0 := fun cs => Blk.new w cs 30
  have ho : offB 4 = false := by decide
  have hk : asksOk 4 im bl tr rd rp = true := by simp [asksOk, hm, ho]
  obtain ⟨hph, hz1, hz2, hz3⟩ := may_facts hk
  clear hph
  go_enter Tryz.func156, Tryz.ntmps156
  go_upto_region 4 with (first | (go_at_call 105; refine (hmay_c _ _ _ _ _ _ _ _ hi hr).mono ?_; rintro e w' ⟨rfl, hb⟩; have HB := bl_step zq4 hb; have K0 := Blk.below zq7 hb; obtain ⟨_, _, _, _, _, _, _, _, _, _, _⟩ := Blk.all7 K0) | (go_at_call 155; refine (off_c _ 4 _ (K0.cell 0)).mono ?_; rintro e w' ⟨rfl, rfl⟩) | fail)
  have hmk : ∀ W : World, (Instr.makeMap 248 none).run Tryz.prog W = .ok (.map (some W.heap.size)) (W.alloc (.map #[] 0)) := fun W => rfl
  have M0 := MapAt.new (w'.alloc (.cells #[.int .i64 4, .string im, .int .i64 bl, .bool ag, .int .i64 tr, .string rd, .int .i64 rp] 246))
  rw [World.size_alloc] at M0
  have L0 := (Blk.new w' #[.int .i64 4, .string im, .int .i64 bl, .bool ag, .int .i64 tr, .string rd, .int .i64 rp] 246).alloc (.map #[] 0)
  have P0 := (K0.alloc (.cells #[.int .i64 4, .string im, .int .i64 bl, .bool ag, .int .i64 tr, .string rd, .int .i64 rp] 246)).alloc (.map #[] 0)
  have B0 := bl_alloc (bl_alloc HB (.cells #[.int .i64 4, .string im, .int .i64 bl, .bool ag, .int .i64 tr, .string rd, .int .i64 rp] 246)) (.map #[] 0)
  have hlt := K0.lt
  obtain ⟨w1, hr1, M1, hg1⟩ := insert_run (t := 248) (key := .int .i64 1) (val := (.func (.func 201) #[(.agg #[.int .i64 4, .string im, .int .i64 bl, .bool ag, .int .i64 tr, .string rd, .int .i64 rp])] #[])) Tryz.underlying248 M0 (finds_int Tryz.underlying3 1) (by simp) (by simp [intE]) (by kernel_rfl)
  have L1 := blk_grown L0 hg1 (by simp)
  have P1 := blk_grown P0 hg1 (by simp; omega)
  have B1 := B0.grown hg1 B0.size (fun q hq => by cases hq; omega)
  obtain ⟨_, _, _, _, _, _, _, _⟩ := Blk.all7 L1
  obtain ⟨w2, hr2, M2, hg2⟩ := insert_run (t := 248) (key := .int .i64 2) (val := (.func (.func 202) #[(.agg #[.int .i64 4, .string im, .int .i64 bl, .bool ag, .int .i64 tr, .string rd, .int .i64 rp])] #[])) Tryz.underlying248 M1 (finds_int Tryz.underlying3 2) (by simp) (by simp [intE]) (by kernel_rfl)
  have L2 := blk_grown L1 hg2 (by simp)
  have P2 := blk_grown P1 hg2 (by simp; omega)
  have B2 := B1.grown hg2 B1.size (fun q hq => by cases hq; omega)
  obtain ⟨_, _, _, _, _, _, _, _⟩ := Blk.all7 L2
  obtain ⟨w3, hr3, M3, hg3⟩ := insert_run (t := 248) (key := .int .i64 3) (val := (.func (.func 203) #[(.agg #[.int .i64 4, .string im, .int .i64 bl, .bool ag, .int .i64 tr, .string rd, .int .i64 rp])] #[])) Tryz.underlying248 M2 (finds_int Tryz.underlying3 3) (by simp) (by simp [intE]) (by kernel_rfl)
  have L3 := blk_grown L2 hg3 (by simp)
  have P3 := blk_grown P2 hg3 (by simp; omega)
  have B3 := B2.grown hg3 B2.size (fun q hq => by cases hq; omega)
  obtain ⟨_, _, _, _, _, _, _, _⟩ := Blk.all7 L3
  obtain ⟨w4, hr4, M4, hg4⟩ := insert_run (t := 248) (key := .int .i64 4) (val := (.func (.func 204) #[(.agg #[.int .i64 4, .string im, .int .i64 bl, .bool ag, .int .i64 tr, .string rd, .int .i64 rp])] #[])) Tryz.underlying248 M3 (finds_int Tryz.underlying3 4) (by simp) (by simp [intE]) (by kernel_rfl)
  have L4 := blk_grown L3 hg4 (by simp)
  have P4 := blk_grown P3 hg4 (by simp; omega)
  have B4 := B3.grown hg4 B3.size (fun q hq => by cases hq; omega)
  obtain ⟨_, _, _, _, _, _, _, _⟩ := Blk.all7 L4
  obtain ⟨w5, hr5, M5, hg5⟩ := insert_run (t := 248) (key := .int .i64 5) (val := (.func (.func 203) #[(.agg #[.int .i64 4, .string im, .int .i64 bl, .bool ag, .int .i64 tr, .string rd, .int .i64 rp])] #[])) Tryz.underlying248 M4 (finds_int Tryz.underlying3 5) (by simp) (by simp [intE]) (by kernel_rfl)
  have L5 := blk_grown L4 hg5 (by simp)
  have P5 := blk_grown P4 hg5 (by simp; omega)
  have B5 := B4.grown hg5 B4.size (fun q hq => by cases hq; omega)
  obtain ⟨_, _, _, _, _, _, _, _⟩ := Blk.all7 L5
  obtain ⟨w6, hr6, M6, hg6⟩ := insert_run (t := 248) (key := .int .i64 6) (val := (.func (.func 205) #[(.agg #[.int .i64 4, .string im, .int .i64 bl, .bool ag, .int .i64 tr, .string rd, .int .i64 rp])] #[])) Tryz.underlying248 M5 (finds_int Tryz.underlying3 6) (by simp) (by simp [intE]) (by kernel_rfl)
  have L6 := blk_grown L5 hg6 (by simp)
  have P6 := blk_grown P5 hg6 (by simp; omega)
  have B6 := B5.grown hg6 B5.size (fun q hq => by cases hq; omega)
  obtain ⟨_, _, _, _, _, _, _, _⟩ := Blk.all7 L6
  obtain ⟨_, _, _, _, _, _, _, _⟩ := Blk.all7 L0
  obtain ⟨_, _, _, _, _, _, _, _⟩ := Blk.all7 P6
  go_upto_region 5 with fail
  have HB := B6
  clear hr1 hr2 hr3 hr4 hr5 hr6 M0 M1 M2 M3 M4 M5 hg1 hg2 hg3 hg4 hg5 hg6 L0 L1 L2 L3 L4 L5 P0 P1 P2 P3 P4 P5 B0 B1 B2 B3 B4 B5 hmk
  have hlk : (Instr.lookup 248 (.map (some (w'.heap.size + 1))) (.int .i64 4) false).run Tryz.prog w6 = .ok (.func (.func 204) #[(.agg #[.int .i64 4, .string im, .int .i64 bl, .bool ag, .int .i64 tr, .string rd, .int .i64 rp])] #[]) w6 :=
    lookup_run (z := .nilFunc) Tryz.underlying248 M6 (finds_int Tryz.underlying3 4) (by simp) (by kernel_rfl) (by intro em; cases em <;> kernel_rfl) (by intro _; simp [intE]) (by intro h; have h1 := h (.int .i64 4, (.func (.func 204) #[(.agg #[.int .i64 4, .string im, .int .i64 bl, .bool ag, .int .i64 tr, .string rd, .int .i64 rp])] #[])) (by simp); simp [intE] at h1)
  have hlk' := Lib.hid M6
  clear M6
  go_wp2_with (first | (go_at_call 204; refine (end_c _ _ _ _ _ _ _ _).mono ?_; rintro e w' ⟨rfl, hb⟩; have HB := bl_step zq4 hb) | (go_at_call 184; refine (sput_c _ _ _ _).mono ?_; rintro e w' ⟨rfl, hb⟩; have HB := bl_step zq4 hb) | fail)
  go_ret3
  exact ⟨by simp [asksV, hk, askC, askW, askL, askD], zq1⟩
set_option maxRecDepth 100000 in
set_option maxHeartbeats 6400000 in
theorem asks_5 (im : ByteArray) (bl : Int) (ag : Bool) (tr : Int) (rd : ByteArray) (rp : Int) (w : World) (hi : im.size ≤ 1000000000000000) (hr : rd.size ≤ 1000000000000000) (hm : hostMay 5 im bl tr rd rp = true) :
    Calls Tryz.prog 156 #[hostV 5 im bl ag tr rd rp] w fun e w' => e = .returned (asksV 5 im bl ag tr rd rp) ∧ Below w.heap.size w w' := by
  have HB := Below.refl w.heap.size w
  have K0 := fun cs => Blk.new w cs 30
  have ho : offB 5 = false := by decide
  have hk : asksOk 5 im bl tr rd rp = true := by simp [asksOk, hm, ho]
  obtain ⟨hph, hz1, hz2, hz3⟩ := may_facts hk
  clear hph
  go_enter Tryz.func156, Tryz.ntmps156
  go_upto_region 4 with (first | (go_at_call 105; refine (hmay_c _ _ _ _ _ _ _ _ hi hr).mono ?_; rintro e w' ⟨rfl, hb⟩; have HB := bl_step zq4 hb; have K0 := Blk.below zq7 hb; obtain ⟨_, _, _, _, _, _, _, _, _, _, _⟩ := Blk.all7 K0) | (go_at_call 155; refine (off_c _ 5 _ (K0.cell 0)).mono ?_; rintro e w' ⟨rfl, rfl⟩) | fail)
  have hmk : ∀ W : World, (Instr.makeMap 248 none).run Tryz.prog W = .ok (.map (some W.heap.size)) (W.alloc (.map #[] 0)) := fun W => rfl
  have M0 := MapAt.new (w'.alloc (.cells #[.int .i64 5, .string im, .int .i64 bl, .bool ag, .int .i64 tr, .string rd, .int .i64 rp] 246))
  rw [World.size_alloc] at M0
  have L0 := (Blk.new w' #[.int .i64 5, .string im, .int .i64 bl, .bool ag, .int .i64 tr, .string rd, .int .i64 rp] 246).alloc (.map #[] 0)
  have P0 := (K0.alloc (.cells #[.int .i64 5, .string im, .int .i64 bl, .bool ag, .int .i64 tr, .string rd, .int .i64 rp] 246)).alloc (.map #[] 0)
  have B0 := bl_alloc (bl_alloc HB (.cells #[.int .i64 5, .string im, .int .i64 bl, .bool ag, .int .i64 tr, .string rd, .int .i64 rp] 246)) (.map #[] 0)
  have hlt := K0.lt
  obtain ⟨w1, hr1, M1, hg1⟩ := insert_run (t := 248) (key := .int .i64 1) (val := (.func (.func 201) #[(.agg #[.int .i64 5, .string im, .int .i64 bl, .bool ag, .int .i64 tr, .string rd, .int .i64 rp])] #[])) Tryz.underlying248 M0 (finds_int Tryz.underlying3 1) (by simp) (by simp [intE]) (by kernel_rfl)
  have L1 := blk_grown L0 hg1 (by simp)
  have P1 := blk_grown P0 hg1 (by simp; omega)
  have B1 := B0.grown hg1 B0.size (fun q hq => by cases hq; omega)
  obtain ⟨_, _, _, _, _, _, _, _⟩ := Blk.all7 L1
  obtain ⟨w2, hr2, M2, hg2⟩ := insert_run (t := 248) (key := .int .i64 2) (val := (.func (.func 202) #[(.agg #[.int .i64 5, .string im, .int .i64 bl, .bool ag, .int .i64 tr, .string rd, .int .i64 rp])] #[])) Tryz.underlying248 M1 (finds_int Tryz.underlying3 2) (by simp) (by simp [intE]) (by kernel_rfl)
  have L2 := blk_grown L1 hg2 (by simp)
  have P2 := blk_grown P1 hg2 (by simp; omega)
  have B2 := B1.grown hg2 B1.size (fun q hq => by cases hq; omega)
  obtain ⟨_, _, _, _, _, _, _, _⟩ := Blk.all7 L2
  obtain ⟨w3, hr3, M3, hg3⟩ := insert_run (t := 248) (key := .int .i64 3) (val := (.func (.func 203) #[(.agg #[.int .i64 5, .string im, .int .i64 bl, .bool ag, .int .i64 tr, .string rd, .int .i64 rp])] #[])) Tryz.underlying248 M2 (finds_int Tryz.underlying3 3) (by simp) (by simp [intE]) (by kernel_rfl)
  have L3 := blk_grown L2 hg3 (by simp)
  have P3 := blk_grown P2 hg3 (by simp; omega)
  have B3 := B2.grown hg3 B2.size (fun q hq => by cases hq; omega)
  obtain ⟨_, _, _, _, _, _, _, _⟩ := Blk.all7 L3
  obtain ⟨w4, hr4, M4, hg4⟩ := insert_run (t := 248) (key := .int .i64 4) (val := (.func (.func 204) #[(.agg #[.int .i64 5, .string im, .int .i64 bl, .bool ag, .int .i64 tr, .string rd, .int .i64 rp])] #[])) Tryz.underlying248 M3 (finds_int Tryz.underlying3 4) (by simp) (by simp [intE]) (by kernel_rfl)
  have L4 := blk_grown L3 hg4 (by simp)
  have P4 := blk_grown P3 hg4 (by simp; omega)
  have B4 := B3.grown hg4 B3.size (fun q hq => by cases hq; omega)
  obtain ⟨_, _, _, _, _, _, _, _⟩ := Blk.all7 L4
  obtain ⟨w5, hr5, M5, hg5⟩ := insert_run (t := 248) (key := .int .i64 5) (val := (.func (.func 203) #[(.agg #[.int .i64 5, .string im, .int .i64 bl, .bool ag, .int .i64 tr, .string rd, .int .i64 rp])] #[])) Tryz.underlying248 M4 (finds_int Tryz.underlying3 5) (by simp) (by simp [intE]) (by kernel_rfl)
  have L5 := blk_grown L4 hg5 (by simp)
  have P5 := blk_grown P4 hg5 (by simp; omega)
  have B5 := B4.grown hg5 B4.size (fun q hq => by cases hq; omega)
  obtain ⟨_, _, _, _, _, _, _, _⟩ := Blk.all7 L5
  obtain ⟨w6, hr6, M6, hg6⟩ := insert_run (t := 248) (key := .int .i64 6) (val := (.func (.func 205) #[(.agg #[.int .i64 5, .string im, .int .i64 bl, .bool ag, .int .i64 tr, .string rd, .int .i64 rp])] #[])) Tryz.underlying248 M5 (finds_int Tryz.underlying3 6) (by simp) (by simp [intE]) (by kernel_rfl)
  have L6 := blk_grown L5 hg6 (by simp)
  have P6 := blk_grown P5 hg6 (by simp; omega)
  have B6 := B5.grown hg6 B5.size (fun q hq => by cases hq; omega)
  obtain ⟨_, _, _, _, _, _, _, _⟩ := Blk.all7 L6
  obtain ⟨_, _, _, _, _, _, _, _⟩ := Blk.all7 L0
  obtain ⟨_, _, _, _, _, _, _, _⟩ := Blk.all7 P6
  go_upto_region 5 with fail
  have HB := B6
  clear hr1 hr2 hr3 hr4 hr5 hr6 M0 M1 M2 M3 M4 M5 hg1 hg2 hg3 hg4 hg5 hg6 L0 L1 L2 L3 L4 L5 P0 P1 P2 P3 P4 P5 B0 B1 B2 B3 B4 B5 hmk
  have hlk : (Instr.lookup 248 (.map (some (w'.heap.size + 1))) (.int .i64 5) false).run Tryz.prog w6 = .ok (.func (.func 203) #[(.agg #[.int .i64 5, .string im, .int .i64 bl, .bool ag, .int .i64 tr, .string rd, .int .i64 rp])] #[]) w6 :=
    lookup_run (z := .nilFunc) Tryz.underlying248 M6 (finds_int Tryz.underlying3 5) (by simp) (by kernel_rfl) (by intro em; cases em <;> kernel_rfl) (by intro _; simp [intE]) (by intro h; have h1 := h (.int .i64 5, (.func (.func 203) #[(.agg #[.int .i64 5, .string im, .int .i64 bl, .bool ag, .int .i64 tr, .string rd, .int .i64 rp])] #[])) (by simp); simp [intE] at h1)
  have hlk' := Lib.hid M6
  clear M6
  go_wp2_with (first | (go_at_call 203; refine (status_c _ _ _ _ _ _ _ _).mono ?_; rintro e w' ⟨rfl, hb⟩; have HB := bl_step zq4 hb) | (go_at_call 184; refine (sput_c _ _ _ _).mono ?_; rintro e w' ⟨rfl, hb⟩; have HB := bl_step zq4 hb) | fail)
  go_ret3
  exact ⟨by simp [asksV, hk, askC, askW, askL, askD], zq1⟩
set_option maxRecDepth 100000 in
set_option maxHeartbeats 6400000 in
theorem asks_6 (im : ByteArray) (bl : Int) (ag : Bool) (tr : Int) (rd : ByteArray) (rp : Int) (w : World) (hi : im.size ≤ 1000000000000000) (hr : rd.size ≤ 1000000000000000) (hm : hostMay 6 im bl tr rd rp = true) :
    Calls Tryz.prog 156 #[hostV 6 im bl ag tr rd rp] w fun e w' => e = .returned (asksV 6 im bl ag tr rd rp) ∧ Below w.heap.size w w' := by
  have HB := Below.refl w.heap.size w
  have K0 := fun cs => Blk.new w cs 30
  have ho : offB 6 = false := by decide
  have hk : asksOk 6 im bl tr rd rp = true := by simp [asksOk, hm, ho]
  obtain ⟨hph, hz1, hz2, hz3⟩ := may_facts hk
  clear hph
  go_enter Tryz.func156, Tryz.ntmps156
  go_upto_region 4 with (first | (go_at_call 105; refine (hmay_c _ _ _ _ _ _ _ _ hi hr).mono ?_; rintro e w' ⟨rfl, hb⟩; have HB := bl_step zq4 hb; have K0 := Blk.below zq7 hb; obtain ⟨_, _, _, _, _, _, _, _, _, _, _⟩ := Blk.all7 K0) | (go_at_call 155; refine (off_c _ 6 _ (K0.cell 0)).mono ?_; rintro e w' ⟨rfl, rfl⟩) | fail)
  have hmk : ∀ W : World, (Instr.makeMap 248 none).run Tryz.prog W = .ok (.map (some W.heap.size)) (W.alloc (.map #[] 0)) := fun W => rfl
  have M0 := MapAt.new (w'.alloc (.cells #[.int .i64 6, .string im, .int .i64 bl, .bool ag, .int .i64 tr, .string rd, .int .i64 rp] 246))
  rw [World.size_alloc] at M0
  have L0 := (Blk.new w' #[.int .i64 6, .string im, .int .i64 bl, .bool ag, .int .i64 tr, .string rd, .int .i64 rp] 246).alloc (.map #[] 0)
  have P0 := (K0.alloc (.cells #[.int .i64 6, .string im, .int .i64 bl, .bool ag, .int .i64 tr, .string rd, .int .i64 rp] 246)).alloc (.map #[] 0)
  have B0 := bl_alloc (bl_alloc HB (.cells #[.int .i64 6, .string im, .int .i64 bl, .bool ag, .int .i64 tr, .string rd, .int .i64 rp] 246)) (.map #[] 0)
  have hlt := K0.lt
  obtain ⟨w1, hr1, M1, hg1⟩ := insert_run (t := 248) (key := .int .i64 1) (val := (.func (.func 201) #[(.agg #[.int .i64 6, .string im, .int .i64 bl, .bool ag, .int .i64 tr, .string rd, .int .i64 rp])] #[])) Tryz.underlying248 M0 (finds_int Tryz.underlying3 1) (by simp) (by simp [intE]) (by kernel_rfl)
  have L1 := blk_grown L0 hg1 (by simp)
  have P1 := blk_grown P0 hg1 (by simp; omega)
  have B1 := B0.grown hg1 B0.size (fun q hq => by cases hq; omega)
  obtain ⟨_, _, _, _, _, _, _, _⟩ := Blk.all7 L1
  obtain ⟨w2, hr2, M2, hg2⟩ := insert_run (t := 248) (key := .int .i64 2) (val := (.func (.func 202) #[(.agg #[.int .i64 6, .string im, .int .i64 bl, .bool ag, .int .i64 tr, .string rd, .int .i64 rp])] #[])) Tryz.underlying248 M1 (finds_int Tryz.underlying3 2) (by simp) (by simp [intE]) (by kernel_rfl)
  have L2 := blk_grown L1 hg2 (by simp)
  have P2 := blk_grown P1 hg2 (by simp; omega)
  have B2 := B1.grown hg2 B1.size (fun q hq => by cases hq; omega)
  obtain ⟨_, _, _, _, _, _, _, _⟩ := Blk.all7 L2
  obtain ⟨w3, hr3, M3, hg3⟩ := insert_run (t := 248) (key := .int .i64 3) (val := (.func (.func 203) #[(.agg #[.int .i64 6, .string im, .int .i64 bl, .bool ag, .int .i64 tr, .string rd, .int .i64 rp])] #[])) Tryz.underlying248 M2 (finds_int Tryz.underlying3 3) (by simp) (by simp [intE]) (by kernel_rfl)
  have L3 := blk_grown L2 hg3 (by simp)
  have P3 := blk_grown P2 hg3 (by simp; omega)
  have B3 := B2.grown hg3 B2.size (fun q hq => by cases hq; omega)
  obtain ⟨_, _, _, _, _, _, _, _⟩ := Blk.all7 L3
  obtain ⟨w4, hr4, M4, hg4⟩ := insert_run (t := 248) (key := .int .i64 4) (val := (.func (.func 204) #[(.agg #[.int .i64 6, .string im, .int .i64 bl, .bool ag, .int .i64 tr, .string rd, .int .i64 rp])] #[])) Tryz.underlying248 M3 (finds_int Tryz.underlying3 4) (by simp) (by simp [intE]) (by kernel_rfl)
  have L4 := blk_grown L3 hg4 (by simp)
  have P4 := blk_grown P3 hg4 (by simp; omega)
  have B4 := B3.grown hg4 B3.size (fun q hq => by cases hq; omega)
  obtain ⟨_, _, _, _, _, _, _, _⟩ := Blk.all7 L4
  obtain ⟨w5, hr5, M5, hg5⟩ := insert_run (t := 248) (key := .int .i64 5) (val := (.func (.func 203) #[(.agg #[.int .i64 6, .string im, .int .i64 bl, .bool ag, .int .i64 tr, .string rd, .int .i64 rp])] #[])) Tryz.underlying248 M4 (finds_int Tryz.underlying3 5) (by simp) (by simp [intE]) (by kernel_rfl)
  have L5 := blk_grown L4 hg5 (by simp)
  have P5 := blk_grown P4 hg5 (by simp; omega)
  have B5 := B4.grown hg5 B4.size (fun q hq => by cases hq; omega)
  obtain ⟨_, _, _, _, _, _, _, _⟩ := Blk.all7 L5
  obtain ⟨w6, hr6, M6, hg6⟩ := insert_run (t := 248) (key := .int .i64 6) (val := (.func (.func 205) #[(.agg #[.int .i64 6, .string im, .int .i64 bl, .bool ag, .int .i64 tr, .string rd, .int .i64 rp])] #[])) Tryz.underlying248 M5 (finds_int Tryz.underlying3 6) (by simp) (by simp [intE]) (by kernel_rfl)
  have L6 := blk_grown L5 hg6 (by simp)
  have P6 := blk_grown P5 hg6 (by simp; omega)
  have B6 := B5.grown hg6 B5.size (fun q hq => by cases hq; omega)
  obtain ⟨_, _, _, _, _, _, _, _⟩ := Blk.all7 L6
  obtain ⟨_, _, _, _, _, _, _, _⟩ := Blk.all7 L0
  obtain ⟨_, _, _, _, _, _, _, _⟩ := Blk.all7 P6
  go_upto_region 5 with fail
  have HB := B6
  clear hr1 hr2 hr3 hr4 hr5 hr6 M0 M1 M2 M3 M4 M5 hg1 hg2 hg3 hg4 hg5 hg6 L0 L1 L2 L3 L4 L5 P0 P1 P2 P3 P4 P5 B0 B1 B2 B3 B4 B5 hmk
  have hlk : (Instr.lookup 248 (.map (some (w'.heap.size + 1))) (.int .i64 6) false).run Tryz.prog w6 = .ok (.func (.func 205) #[(.agg #[.int .i64 6, .string im, .int .i64 bl, .bool ag, .int .i64 tr, .string rd, .int .i64 rp])] #[]) w6 :=
    lookup_run (z := .nilFunc) Tryz.underlying248 M6 (finds_int Tryz.underlying3 6) (by simp) (by kernel_rfl) (by intro em; cases em <;> kernel_rfl) (by intro _; simp [intE]) (by intro h; have h1 := h (.int .i64 6, (.func (.func 205) #[(.agg #[.int .i64 6, .string im, .int .i64 bl, .bool ag, .int .i64 tr, .string rd, .int .i64 rp])] #[])) (by simp); simp [intE] at h1)
  have hlk' := Lib.hid M6
  clear M6
  go_wp2_with (first | (go_at_call 205; refine (read_c _ _ _ _ _ _ _ _).mono ?_; rintro e w' ⟨rfl, hb⟩; have HB := bl_step zq4 hb) | (go_at_call 184; refine (sput_c _ _ _ _).mono ?_; rintro e w' ⟨rfl, hb⟩; have HB := bl_step zq4 hb) | fail)
  go_ret3
  exact ⟨by simp [asksV, hk, askC, askW, askL, askD], zq1⟩
set_option maxRecDepth 100000 in
set_option maxHeartbeats 6400000 in
theorem asks_c (ph : Int) (im : ByteArray) (bl : Int) (ag : Bool) (tr : Int) (rd : ByteArray) (rp : Int) (w : World) (hi : im.size ≤ 1000000000000000) (hr : rd.size ≤ 1000000000000000) :
    Calls Tryz.prog 156 #[hostV ph im bl ag tr rd rp] w fun e w' => e = .returned (asksV ph im bl ag tr rd rp) ∧ Below w.heap.size w w' := by
  have HB := Below.refl w.heap.size w
  have K0 := fun cs => Blk.new w cs 30
  cases hm : hostMay ph im bl tr rd rp
  · have hv : asksV ph im bl ag tr rd rp = .tuple #[.string ⟨#[]⟩, .string ⟨#[]⟩, .int .i64 2200] := by simp [asksV, asksOk, hm]
    go_enter Tryz.func156, Tryz.ntmps156
    go_wp2_with (first | (go_at_call 105; refine (hmay_c _ _ _ _ _ _ _ _ hi hr).mono ?_; rintro e w' ⟨rfl, hb⟩; have HB := bl_step zq4 hb; have K0 := Blk.below zq7 hb; obtain ⟨_, _, _, _, _, _, _, _, _, _, _⟩ := Blk.all7 K0) | fail)
    exact bodyPost_ret (v := asksV ph im bl ag tr rd rp) (by rw [hv]; simp [results, Tryz.results156, go_sem]) rfl ⟨rfl, zq1⟩
  · cases ho : offB ph
    · have hk : asksOk ph im bl tr rd rp = true := by simp [asksOk, hm, ho]
      rcases (may_facts hk).1 with rfl | rfl | rfl | rfl | rfl | rfl
      · cases ag
        · exact asks_1a im bl tr rd rp w hi hr hm
        · by_cases hb0 : bl = 0
          · subst hb0
            exact asks_1b im tr rd rp w hi hr hm
          · exact asks_1c im bl tr rd rp w hi hr hm hb0
      · exact asks_2 im bl ag tr rd rp w hi hr hm
      · exact asks_3 im bl ag tr rd rp w hi hr hm
      · exact asks_4 im bl ag tr rd rp w hi hr hm
      · exact asks_5 im bl ag tr rd rp w hi hr hm
      · exact asks_6 im bl ag tr rd rp w hi hr hm
    · have hv : asksV ph im bl ag tr rd rp = .tuple #[.string ⟨#[]⟩, .string ⟨#[]⟩, .int .i64 2200] := by simp [asksV, asksOk, hm, ho]
      go_enter Tryz.func156, Tryz.ntmps156
      go_wp2_with (first | (go_at_call 105; refine (hmay_c _ _ _ _ _ _ _ _ hi hr).mono ?_; rintro e w' ⟨rfl, hb⟩; have HB := bl_step zq4 hb; have K0 := Blk.below zq7 hb; obtain ⟨_, _, _, _, _, _, _, _, _, _, _⟩ := Blk.all7 K0) | (go_at_call 155; refine (off_c _ ph _ (K0.cell 0)).mono ?_; rintro e w' ⟨rfl, rfl⟩) | fail)
      exact bodyPost_ret (v := asksV ph im bl ag tr rd rp) (by rw [hv]; simp [results, Tryz.results156, go_sem]) rfl ⟨rfl, zq1⟩
end Go.Proofs.YtccblleobcidfaaGreat.Ho

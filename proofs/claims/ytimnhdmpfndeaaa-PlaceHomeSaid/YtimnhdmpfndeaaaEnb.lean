/- Layer 4: a record's bytes: what the program's and the references' functions answer. -/
import Derived.Test.YtimnhdmpfndeaaaEna
import Derived.Laws.CopyRow
import Derived.Laws.AppendOwn
namespace Go.Proofs.Ytimnhdmpfndeaaa.En
open Go.RowKit Go.Proofs.Ytimnhdmpfndeaaa.Kt Go.Proofs.Ytimnhdmpfndeaaa.Lw Go.Proofs.Ytimnhdmpfndeaaa.St Go.Proofs.Ytimnhdmpfndeaaa.Nm Go.Proofs.Ytimnhdmpfndeaaa.By
set_option linter.unusedVariables false
set_option linter.unusedSimpArgs false
/-- a record's first half, its whole. -/
def halfB (q s z m : Int) : ByteArray := lowB q 4 ++ lowB s 2 ++ lowB z 2 ++ lowB m 4
def wholeB (q s z m : Int) : ByteArray := halfB q s z m ++ compB (halfB q s z m)
theorem half_size (q s z m : Int) : (halfB q s z m).size = 12 := by simp [halfB, ByteArray.size_append, lowB_size]
theorem whole_size (q s z m : Int) : (wholeB q s z m).size = 24 := by simp [wholeB, ByteArray.size_append, comp_size, half_size]
def putB (q s z m : Int) : ByteArray := bif recMay q s z m then wholeB q s z m else ⟨#[]⟩
def putE (q s z m : Int) : Int := bif recMay q s z m then 0 else 400
set_option maxRecDepth 100000 in
set_option maxHeartbeats 3200000 in
theorem put_c (q s z m : Int) (w : World) : Calls Try.prog 34 #[.agg #[.int .i64 q, .int .i64 s, .int .i64 z, .int .i64 m]] w fun e w' => e = .returned (.tuple #[.string (putB q s z m), .int .i64 (putE q s z m)]) ∧ Below w.heap.size w w' := by
  have HB := Below.refl w.heap.size w
  have K0 := Blk.new w #[.int .i64 q, .int .i64 s, .int .i64 z, .int .i64 m] 23
  have mm := Lib.hid (fun W : World => recMay_c q s z m W)
  cases hm : recMay q s z m
  · rw [hm] at mm
    have hv : putB q s z m = ⟨#[]⟩ ∧ putE q s z m = 400 := by simp [putB, putE, hm]
    rw [hv.1, hv.2]
    clear hm hv
    go_enter Try.func34, Try.ntmps34
    go_wp2_with (first | (go_at_call 60; with_reducible refine (mm.out _).mono ?_; rintro e w' ⟨rfl, hb⟩; have HB := bl_step (w := w) (by repeat (with_reducible first | exact HB | (refine bl_set ?_ (by omega)) | apply bl_alloc | apply bl_drew | apply bl_drewN | fail)) hb; have hzB := HB.size; have K0 := Blk.on (by first | exact K0 | exact K0 #[] | exact K0 (.cells #[] 0) #[]) (by repeat (with_reducible first | exact K0 | exact K0 _ | exact K0 _ _ | apply Blk.alloc | apply Blk.drew | apply Blk.drewN | apply Blk.set4_0 | apply Blk.set4_1 | apply Blk.set4_2 | apply Blk.set4_3 | (apply Blk.off; (first | assumption | omega | (simp; omega))) | fail)) hb; (try clear cK0_0 cK0_1 cK0_2 cK0_3 fK0 lK0 nK0 mK0); obtain ⟨cK0_0, cK0_1, cK0_2, cK0_3, fK0, lK0, nK0, mK0⟩ := Blk.all4 K0) | fail)
    go_ret2
    exact ⟨rfl, (by repeat (with_reducible first | exact Below.refl _ _ | assumption | (refine bl_set ?_ (by omega)) | apply bl_alloc | apply bl_drewN | apply bl_drew | (refine bl_step ?_ (by assumption)) | fail))⟩
  · rw [hm] at mm
    have hv : putB q s z m = wholeB q s z m ∧ putE q s z m = 0 := by simp [putB, putE, hm]
    rw [hv.1, hv.2]
    clear hm hv
    have z1 := lowB_size q 4
    have z2 := lowB_size s 2
    have z3 := lowB_size z 2
    have z4 := lowB_size m 4
    have z5 := Lib.hid (half_size q s z m)
    have l1 := Lib.hid (fun W : World => low_c q 4 W (by decide) (by decide))
    have l2 := Lib.hid (fun W : World => low_c s 2 W (by decide) (by decide))
    have l3 := Lib.hid (fun W : World => low_c z 2 W (by decide) (by decide))
    have l4 := Lib.hid (fun W : World => low_c m 4 W (by decide) (by decide))
    have e1 : Int.toNat 4 = 4 := rfl
    have e2 : Int.toNat 2 = 2 := rfl
    rw [e1] at l1 l4
    rw [e2] at l2 l3
    clear e1 e2
    have hh : lowB q 4 ++ lowB s 2 ++ lowB z 2 ++ lowB m 4 = halfB q s z m := rfl
    have hw := Lib.hid (show halfB q s z m ++ compB (halfB q s z m) = wholeB q s z m from rfl)
    have z6 := comp_size (halfB q s z m)
    rw [half_size] at z6
    have z7 := half_size q s z m
    generalize lowB q 4 = L1 at *
    generalize lowB s 2 = L2 at *
    generalize lowB z 2 = L3 at *
    generalize lowB m 4 = L4 at *
    generalize halfB q s z m = H at *
    generalize wholeB q s z m = WW at *
    have hs1 : (L1 ++ L2).size = 6 := by rw [ByteArray.size_append]; omega
    have hs2 : (L1 ++ L2 ++ L3).size = 8 := by rw [ByteArray.size_append]; omega
    go_enter Try.func34, Try.ntmps34
    go_upto_region 3 with (first | (go_at_call 60; with_reducible refine (mm.out _).mono ?_; rintro e w' ⟨rfl, hb⟩; have HB := bl_step (w := w) (by repeat (with_reducible first | exact HB | (refine bl_set ?_ (by omega)) | apply bl_alloc | apply bl_drew | apply bl_drewN | fail)) hb; have hzB := HB.size; have K0 := Blk.on (by first | exact K0 | exact K0 #[] | exact K0 (.cells #[] 0) #[]) (by repeat (with_reducible first | exact K0 | exact K0 _ | exact K0 _ _ | apply Blk.alloc | apply Blk.drew | apply Blk.drewN | apply Blk.set4_0 | apply Blk.set4_1 | apply Blk.set4_2 | apply Blk.set4_3 | (apply Blk.off; (first | assumption | omega | (simp; omega))) | fail)) hb; (try clear cK0_0 cK0_1 cK0_2 cK0_3 fK0 lK0 nK0 mK0); obtain ⟨cK0_0, cK0_1, cK0_2, cK0_3, fK0, lK0, nK0, mK0⟩ := Blk.all4 K0) | fail)
    have qK0_0 := fun s : Wld _ => Wld.cell cK0_0 s; have qK0_1 := fun s : Wld _ => Wld.cell cK0_1 s; have qK0_2 := fun s : Wld _ => Wld.cell cK0_2 s; have qK0_3 := fun s : Wld _ => Wld.cell cK0_3 s
    refine wld_lit (by kernel_rfl) (by kernel_rfl) ?_
    repeat (go_big_quiet_step (first | (go_at_call 61; first | (with_reducible exact Wld.call (l1.out _)) | (with_reducible exact Wld.call (l2.out _)) | (with_reducible exact Wld.call (l3.out _)) | (with_reducible exact Wld.call (l4.out _)) | fail) | fail))
    refine wpQuiet_nil ?_; refine Wld.elim ?_; intro w' hb; clear qK0_0 qK0_1 qK0_2 qK0_3; have HB := bl_step (w := w) (by repeat (with_reducible first | exact HB | (refine bl_set ?_ (by omega)) | apply bl_alloc | apply bl_drew | apply bl_drewN | fail)) hb; have hzB := HB.size; have K0 := Blk.on (by first | exact K0 | exact K0 #[] | exact K0 (.cells #[] 0) #[]) (by repeat (with_reducible first | exact K0 | exact K0 _ | exact K0 _ _ | apply Blk.alloc | apply Blk.drew | apply Blk.drewN | apply Blk.set4_0 | apply Blk.set4_1 | apply Blk.set4_2 | apply Blk.set4_3 | (apply Blk.off; (first | assumption | omega | (simp; omega))) | fail)) hb; (try clear cK0_0 cK0_1 cK0_2 cK0_3 fK0 lK0 nK0 mK0); obtain ⟨cK0_0, cK0_1, cK0_2, cK0_3, fK0, lK0, nK0, mK0⟩ := Blk.all4 K0
    have q3 : (9223372036854775807 < H.size + (compB H).size) = False := by rw [z6, z7]; simp
    go_wp2_with (first | (go_at_call 62; with_reducible refine (comp_c H _ (by rw [z7]; decide)).mono ?_; rintro e w' ⟨rfl, hb⟩; have HB := bl_step (w := w) (by repeat (with_reducible first | exact HB | (refine bl_set ?_ (by omega)) | apply bl_alloc | apply bl_drew | apply bl_drewN | fail)) hb; have hzB := HB.size) | fail)
    go_ret2
    exact ⟨by rw [hw.out]; rfl, (by repeat (with_reducible first | exact Below.refl _ _ | assumption | (refine bl_set ?_ (by omega)) | apply bl_alloc | apply bl_drewN | apply bl_drew | (refine bl_step ?_ (by assumption)) | fail))⟩
/-! an append of one byte onto a row of one's own that may be a string's bytes -/
section
variable {P : Program}
def BRow (w : World) (base g n cap : Nat) (xs : List Int) : Prop :=
  base ≤ g ∧ g < w.heap.size ∧ xs.length = n ∧ n ≤ cap ∧ (∀ j, j < cap → (∃ v, w.cell? ⟨g, j, none⟩ = some v) ∧ w.frozen? ⟨g, j, none⟩ = false) ∧ ∀ j x, xs[j]? = some x → w.cell? ⟨g, j, none⟩ = some (.int .u8 x)
theorem BRow.below {w w' : World} {base g n cap : Nat} {xs : List Int} (h : BRow w base g n cap xs) (hb : Below w.heap.size w w') : BRow w' base g n cap xs := by
  obtain ⟨h1, h2, h3, h4, h5, h6⟩ := h
  refine ⟨h1, Nat.lt_of_lt_of_le h2 hb.size, h3, h4, fun j hj => ?_, fun j x hx => ?_⟩
  · rw [hb.cell (p := ⟨g, j, none⟩) h2, hb.frozen (p := ⟨g, j, none⟩) h2]
    exact h5 j hj
  · rw [hb.cell (p := ⟨g, j, none⟩) h2]
    exact h6 j x hx
theorem run_append_one (w : World) (base : Nat) (t ty e : TypeId) (i : TypeInfo) (ht : P.underlying t = some (.slice e)) (hi : P.info? e = some i) (hz : i.zero = some (.int .u8 0)) (hsize : i.size = 1) (hby : i.bytes = 1)
    (g n cap : Nat) (xs : List Int) (hr : BRow w base g n cap xs) (ad : Addr) (c : Nat) (x : Int) (hx : w.cell? (ad.add 0) = some (.int .u8 x)) (hn : n ≤ 1000000) (hbase : base ≤ w.heap.size) :
    ∃ g' cap' w', (Builtin.append_ #[t, t] ty #[.slice (some ⟨g, 0, none⟩) n cap, .slice (some ad) 1 c]).run P w = .ok (.slice (some ⟨g', 0, none⟩) (n + 1) cap') w' ∧ BRow w' base g' (n + 1) cap' (xs ++ [x]) ∧ w.grownBy w' (some g) := by
  obtain ⟨h1, h2, h3, h4, h5, h6⟩ := hr
  have hnews : ∀ j u, [Value.int .u8 x][j]? = some u → w.cell? (ad.add j) = some u := by
    intro j u hj
    rcases j with _ | j
    · simp at hj; subst hj; exact hx
    · simp at hj
  by_cases hroom : n + 1 ≤ cap
  · obtain ⟨⟨v0, hv0⟩, hf0⟩ := h5 n (by omega)
    have hf := run_firstCells_some (P := P) w i.size 1 ad 1 c [.int .u8 x] (by rw [hsize]; rfl) hnews
    rw [hsize] at hf
    have hst : (store ⟨g, n, none⟩ (.int .u8 x)).run P w = .ok () (w.setCell ⟨g, n, none⟩ (.int .u8 x)) := by
      rw [run_store P w _ _ _ rfl, hv0]
      simp [hf0]
    refine ⟨g, cap, w.setCell ⟨g, n, none⟩ (.int .u8 x), ?_, ⟨h1, by simpa using h2, by simp [h3], hroom, fun j hj => ?_, fun j y hy => ?_⟩, ⟨rfl, rfl, rfl, by simp, fun k hk hr => Below.heap_setCell _ _ _ _ (fun e => hr (by rw [e]))⟩⟩
    · have ha : (⟨g, 0, none⟩ : Addr).add n = ⟨g, n, none⟩ := add_plain g n
      have ha2 : (⟨g, n, none⟩ : Addr).add 0 = ⟨g, n, none⟩ := by unfold Addr.add; split <;> simp_all
      simp [Builtin.append_, run_underlying ht, sizeOf, typeInfo, hi, Builtin.lenOf, hroom, hf, hsize, storeCells, ha, ha2, hst]
    · by_cases e : j = n
      · subst e
        exact ⟨⟨_, World.cell?_setCell_same _ _ _ hv0⟩, by rw [World.frozen?_setCell]; exact hf0⟩
      · rw [World.cell?_setCell_other (h := by intro e'; injection e' with _ e' _; omega), World.frozen?_setCell]
        exact h5 j hj
    · by_cases e : j = n
      · subst e
        rw [List.getElem?_append_right (by omega), h3, Nat.sub_self] at hy
        simp at hy
        subst hy
        exact World.cell?_setCell_same _ _ _ hv0
      · rw [World.cell?_setCell_other (h := by intro e'; injection e' with _ e' _; omega)]
        refine h6 j y ?_
        have hlt : j < (xs ++ [x]).length := (List.getElem?_eq_some_iff.1 hy).1
        rw [List.length_append, h3] at hlt
        simp at hlt
        rwa [List.getElem?_append_left (by omega)] at hy
  · have hlo : (xs.map (Value.int .u8)).length = n * i.size := by rw [List.length_map, h3, hsize, Nat.mul_one]
    have holds : ∀ j v, (xs.map (Value.int .u8))[j]? = some v → w.cell? ((⟨g, 0, none⟩ : Addr).add j) = some v := by
      intro j v hj
      rw [add_plain]
      rw [List.getElem?_map] at hj
      cases hq : xs[j]? with
      | none => rw [hq] at hj; cases hj
      | some y =>
        rw [hq] at hj
        obtain rfl := Option.some.inj hj
        exact h6 j y hq
    have hgr := run_append_grow (P := P) w t ty e i (.int .u8 0) ht hi hz ⟨g, 0, none⟩ n cap (xs.map (Value.int .u8)) hlo holds ad 1 c [.int .u8 x] (by rw [hsize]; rfl) hnews (by omega) (by omega) (growslice_fits (by omega) (by rw [hby]; omega))
    have hge := grownCap_ge w (n + 1) cap e
    generalize grownCap w (n + 1) cap e = cap' at *
    have hB := Blk.new w.drew ((xs.map (Value.int .u8)).toArray ++ [Value.int .u8 x].toArray ++ Builtin.zeroCells (Value.int .u8 0).cells (cap' - (n + 1))) e
    have hs : w.drew.heap.size = w.heap.size := rfl
    rw [hs] at hB
    have hzc : (Builtin.zeroCells (Value.int .u8 0).cells (cap' - (n + 1))).size = cap' - (n + 1) := by
      rw [size_zeroCells]
      show _ * 1 = _
      omega
    refine ⟨_, _, _, hgr, ⟨hbase, hB.lt, by simp [h3], hge, fun j hj => ⟨?_, hB.frozen j⟩, fun j y hy => ?_⟩, ⟨rfl, rfl, rfl, by simp, fun k hk _ => Below.heap_alloc w.drew _ k hk⟩⟩
    · rw [hB.cell j]
      refine ⟨_, Array.getElem?_eq_getElem ?_⟩
      simp only [Array.size_append, hzc, List.size_toArray, List.length_map, h3, List.length_cons, List.length_nil]
      omega
    · rw [hB.cell j]
      have hlt : j < (xs ++ [x]).length := (List.getElem?_eq_some_iff.1 hy).1
      have e0 : (xs.map (Value.int .u8)).toArray ++ [Value.int .u8 x].toArray = ((xs ++ [x]).map (Value.int .u8)).toArray := by simp
      rw [e0, Array.getElem?_append_left (by simpa using hlt)]
      simp only [List.getElem?_toArray, List.getElem?_map, hy, Option.map_some]
theorem wp_one {o : Oper} {a : Act} {K : Act → World → Prop} {Q : Exit → Act → World → Prop} (s y : Operand) (t : TypeId)
    (ho : o.op = .call { callee := .builtin .append, args := #[s, y], argTypes := #[t, t] })
    (w : World) (base : Nat) (e : TypeId) (i : TypeInfo) (ht : P.underlying t = some (.slice e)) (hi : P.info? e = some i) (hz : i.zero = some (.int .u8 0)) (hsize : i.size = 1) (hby : i.bytes = 1)
    (g n cap : Nat) (xs : List Int) (hs : a.eval s = .slice (some ⟨g, 0, none⟩) n cap) (hr : BRow w base g n cap xs) (ad : Addr) (c : Nat) (hy : a.eval y = .slice (some ad) 1 c) (x : Int) (hx : w.cell? (ad.add 0) = some (.int .u8 x)) (hn : n ≤ 1000000) (hbase : base ≤ w.heap.size)
    (h : ∀ g' cap' w', BRow w' base g' (n + 1) cap' (xs ++ [x]) → w.grownBy w' (some g) → K (a.put o.dst (.slice (some ⟨g', 0, none⟩) (n + 1) cap')) w') : o.wp P a w K Q := by
  obtain ⟨g', cap', w', hrun, h2, h3⟩ := run_append_one (P := P) w base t o.type e i ht hi hz hsize hby g n cap xs hr ad c x hx hn hbase
  unfold Oper.wp execOp
  simp only [ho, resolve, invoke, builtin, Sem.run_bind, Sem.run_pure, Result.andThen_ok, List.map_toArray, List.map_cons, List.map_nil, hs, hy, hrun]
  exact h g' cap' w' h2 h3
theorem wpList_one {ops : Array Oper} {rest : List Oper} {o : Oper} {a : Act} {Q : Exit → Act → World → Prop} (hgd : o.guard = none) (s y : Operand) (t : TypeId)
    (ho : o.op = .call { callee := .builtin .append, args := #[s, y], argTypes := #[t, t] })
    (w : World) (base : Nat) (e : TypeId) (i : TypeInfo) (ht : P.underlying t = some (.slice e)) (hi : P.info? e = some i) (hz : i.zero = some (.int .u8 0)) (hsize : i.size = 1) (hby : i.bytes = 1)
    (g n cap : Nat) (xs : List Int) (hs : a.eval s = .slice (some ⟨g, 0, none⟩) n cap) (hr : BRow w base g n cap xs) (ad : Addr) (c : Nat) (hy : a.eval y = .slice (some ad) 1 c) (x : Int) (hx : w.cell? (ad.add 0) = some (.int .u8 x)) (hn : n ≤ 1000000) (hbase : base ≤ w.heap.size)
    (h : ∀ g' cap' w', BRow w' base g' (n + 1) cap' (xs ++ [x]) → w.grownBy w' (some g) → wpList P ops Q rest (a.put o.dst (.slice (some ⟨g', 0, none⟩) (n + 1) cap')) w') : wpList P ops Q (o :: rest) a w :=
  wpList_plain hgd fun _ hK => wp_one s y t ho w base e i ht hi hz hsize hby g n cap xs hs hr ad c hy x hx hn hbase fun g' cap' w' h2 h3 => hK _ _ (h g' cap' w' h2 h3)
end
end Go.Proofs.Ytimnhdmpfndeaaa.En

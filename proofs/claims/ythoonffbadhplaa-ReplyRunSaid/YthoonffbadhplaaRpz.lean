/- Layer 23: the law's walk: ReplyRun. -/
import Derived.Test.YthoonffbadhplaaRpl
import Derived.Test.YthoonffbadhplaaRpu
import Derived.Test.YthoonffbadhplaaGro
import Derived.Maps.AppendAt
import Derived.Deep.LoopGhost
import Derived.Test.YthoonffbadhplaaSuq
namespace Go.Proofs.Ythoonffbadhplaa.Rp
open Go.RowKit Go.Proofs.Ythoonffbadhplaa.Kt Go.Proofs.Ythoonffbadhplaa.Lw Go.Proofs.Ythoonffbadhplaa.St Go.Proofs.Ythoonffbadhplaa.Nm Go.Proofs.Ythoonffbadhplaa.An Go.Proofs.Ythoonffbadhplaa.Ho Go.Proofs.Ythoonffbadhplaa.Es Go.Proofs.Ythoonffbadhplaa.Su Go.Proofs.Ythoonffbadhplaa.Gr
set_option linter.unusedVariables false
set_option linter.unusedSimpArgs false
attribute [local go_sem high] eqHost
/-- the statuses that a device tells: idle, ready, busy. -/
def rdyB : ByteArray := ⟨#[0, 0, 0, 0, 3, 0]⟩
def bsyB : ByteArray := ⟨#[0, 9, 0, 0, 2, 0]⟩
theorem rdy_put : putB 0 0 3 = rdyB ∧ putE 0 0 3 = 0 := by decide +kernel
theorem bsy_put : putB 0 9 2 = bsyB ∧ putE 0 9 2 = 0 := by decide +kernel
theorem texts3 : Texts idleB bsyB rdyB := ⟨by decide +kernel, by decide +kernel, by decide +kernel, by decide +kernel, by decide +kernel, by decide +kernel⟩
theorem small3 : idleB.size = 6 ∧ bsyB.size = 6 ∧ rdyB.size = 6 := by decide +kernel
/-- the texts laid so far. -/
def lay0 (idl bsy rdy : ByteArray) (k : Nat) : List ByteArray := idl :: (List.replicate k [⟨#[]⟩, bsy, rdy]).flatten
theorem lay0_len (idl bsy rdy : ByteArray) : ∀ k, (lay0 idl bsy rdy k).length = 1 + 3 * k
  | 0 => rfl
  | k + 1 => by
    have := lay0_len idl bsy rdy k
    simp only [lay0, List.replicate_succ, List.flatten_cons, List.length_cons, List.length_append] at this ⊢
    simp at this ⊢
    omega
theorem lay0_succ (idl bsy rdy : ByteArray) (k : Nat) : lay0 idl bsy rdy (k + 1) = lay0 idl bsy rdy k ++ [⟨#[]⟩, bsy, rdy] := by
  unfold lay0
  rw [List.replicate_succ', List.flatten_append]
  simp
def lay1 (idl bsy rdy im : ByteArray) (N j : Nat) : List ByteArray := lay0 idl bsy rdy N ++ [⟨#[]⟩, idl] ++ (List.range' 0 j).map (pieceB im)
theorem lay1_len (idl bsy rdy im : ByteArray) (N j : Nat) : (lay1 idl bsy rdy im N j).length = 3 + 3 * N + j := by
  unfold lay1
  rw [List.length_append, List.length_append, lay0_len, List.length_map, List.length_range']
  show 1 + 3 * N + 2 + j = _
  omega
theorem lay1_succ (idl bsy rdy im : ByteArray) (N j : Nat) : lay1 idl bsy rdy im N (j + 1) = lay1 idl bsy rdy im N j ++ [pieceB im j] := by
  unfold lay1
  rw [List.range'_concat, List.map_append, List.append_assoc (lay0 idl bsy rdy N ++ [⟨#[]⟩, idl])]
  simp
theorem lay1_all (idl bsy rdy im : ByteArray) (N : Nat) : lay1 idl bsy rdy im N (im.size / 32 + 1) = runL idl bsy rdy im N := by
  unfold lay1 runL lay0
  simp
def encT (s : ByteArray) : List Value := [.string s]
/-- a row of texts that stands in a block of one's own. -/
def Row1 (w : World) (b : Nat) (L : List ByteArray) : Prop := b < w.heap.size ∧ ∀ j x, L[j]? = some x → w.cell? ⟨b, j, none⟩ = some (.string x)
theorem Row1.below {w w' : World} {b : Nat} {L : List ByteArray} (h : Row1 w b L) (hb : Below w.heap.size w w') : Row1 w' b L :=
  ⟨Nat.lt_of_lt_of_le h.1 hb.size, fun j x hj => (hb.cell (p := ⟨b, j, none⟩) h.1).trans (h.2 j x hj)⟩
theorem Row1.set {w : World} {b g i : Nat} {v : Value} {L : List ByteArray} (h : Row1 w b L) (hg : b ≠ g) : Row1 (w.setCell ⟨g, i, none⟩ v) b L :=
  ⟨by simpa using h.1, fun j x hj => by rw [World.cell?_setCell_other (h := by intro e; injection e with e _ _; omega)]; exact h.2 j x hj⟩
theorem Row1.set7 {w : World} {b g : Nat} {v0 v1 v2 v3 v4 v5 v6 : Value} {L : List ByteArray} (h : Row1 w b L) (hg : b ≠ g) :
    Row1 (((((((w.setCell ⟨g, 0, none⟩ v0).setCell ⟨g, 1, none⟩ v1).setCell ⟨g, 2, none⟩ v2).setCell ⟨g, 3, none⟩ v3).setCell ⟨g, 4, none⟩ v4).setCell ⟨g, 5, none⟩ v5).setCell ⟨g, 6, none⟩ v6) b L :=
  ((((((h.set hg).set hg).set hg).set hg).set hg).set hg).set hg
theorem row1_own {w : World} {base b n c : Nat} {T : TypeId} {L : List ByteArray} (h : w.ownsRow base T 1 (.slice (some ⟨b, 0, none⟩) n c) n (L.map Value.string)) : Row1 w b L ∧ base ≤ b := by
  have hl := h.lt b rfl
  refine ⟨⟨hl.2, fun j x hj => ?_⟩, hl.1⟩
  have := h.cells (g := b) rfl j (.string x) (by simp [hj])
  rwa [add_plain] at this
theorem own_first (W : World) (T : TypeId) (x : ByteArray) : (W.alloc (.cells #[.string x] T)).ownsRow W.heap.size T 1 (.slice (some ⟨W.heap.size, 0, none⟩) 1 1) 1 ([x].map Value.string) :=
  World.ownsRow_lit W #[.string x] 1 (Nat.le_refl _) (by decide) rfl
theorem runs_cons {L : List ByteArray} {h z : HS} {x : ByteArray} {i : Nat} (r : Runs h (L.drop i) z) (hx : L[i]? = some x) : h.Ok ∧ h.tr = 0 ∧ Runs (takeH h false false x) (L.drop (i + 1)) z := by
  have hi : i < L.length := by
    rcases Nat.lt_or_ge i L.length with h | h
    · exact h
    · rw [List.getElem?_eq_none h] at hx; cases hx
  rw [List.drop_eq_getElem_cons hi] at r
  rw [List.getElem?_eq_getElem hi] at hx
  obtain rfl : L[i] = x := Option.some.inj hx
  exact r
theorem fin_may {im : ByteArray} (h0 : 1 ≤ im.size) (h1 : im.size ≤ 288) : hostMay 7 im 0 0 ⟨#[]⟩ 1 = true := by
  have h4 := not_empty h0
  have h5 : rngB 0 0 (manyI im) = true := by simp [rngB]; unfold manyI; omega
  simp only [hostMay, h4, h5]
  simp
  exact ⟨by decide, by decide, by omega, by decide, by decide⟩
theorem piece_a {im : ByteArray} {j : Nat} (h : 32 * j + 32 ≤ im.size) : pieceB im j = im.extract (32 * j) (32 * j + 32) := by
  unfold pieceB
  congr 1 <;> omega
theorem piece_b {im : ByteArray} {j m : Nat} (hz : im.size = m + 1) (h : 32 * j ≤ m + 1) (h2 : m + 1 ≤ 32 * j + 32) : pieceB im j = im.extract (32 * j) (1 + m) := by
  unfold pieceB
  congr 1 <;> omega
theorem piece_c {im : ByteArray} {j m : Nat} (hz : im.size = m + 1) (h : 32 * j = m + 1) : pieceB im j = ByteArray.empty := by
  apply ext_data
  have e1 : min (32 * j) im.size = m + 1 := by omega
  have e2 : min (32 * j + 32) im.size = m + 1 := by omega
  simp [pieceB, e1, e2]
theorem way_new {wr W wq : World} {cs : Array Value} {t : TypeId} (h : Below wr.heap.size wr W) (hb : Below W.heap.size W wq) : ∃ g : Nat, Value.pointer (some ⟨wq.heap.size, 0, none⟩) = .pointer (some ⟨g, 0, none⟩) ∧ Value.int .i64 0 = .int .i64 0 ∧ wr.heap.size ≤ g ∧
    Aside (Blk (wq.alloc (.cells cs t)) g cs t) ∧ Aside (Below wr.heap.size wr (wq.alloc (.cells cs t))) :=
  ⟨_, rfl, rfl, Nat.le_trans h.size hb.size, Blk.new _ _ _, bl_alloc (bl_step h hb) _⟩
theorem way_old {wr W wq : World} {z0 z1 z2 z3 z4 z5 z6 v0 v1 v2 v3 v4 v5 v6 : Value} {t : TypeId} (h : Below wr.heap.size wr W) (hb : Below (W.alloc (.cells #[z0, z1, z2, z3, z4, z5, z6] t)).drew.heap.size (W.alloc (.cells #[z0, z1, z2, z3, z4, z5, z6] t)).drew wq) :
    ∃ g : Nat, Value.pointer (some ⟨W.heap.size, 0, none⟩) = .pointer (some ⟨g, 0, none⟩) ∧ Value.int .i64 0 = .int .i64 0 ∧ wr.heap.size ≤ g ∧
    Aside (Blk (((((((wq.setCell ⟨W.heap.size, 0, none⟩ v0).setCell ⟨W.heap.size, 1, none⟩ v1).setCell ⟨W.heap.size, 2, none⟩ v2).setCell ⟨W.heap.size, 3, none⟩ v3).setCell ⟨W.heap.size, 4, none⟩ v4).setCell ⟨W.heap.size, 5, none⟩ v5).setCell ⟨W.heap.size, 6, none⟩ v6) g #[v0, v1, v2, v3, v4, v5, v6] t) ∧
    Aside (Below wr.heap.size wr (((((((wq.setCell ⟨W.heap.size, 0, none⟩ v0).setCell ⟨W.heap.size, 1, none⟩ v1).setCell ⟨W.heap.size, 2, none⟩ v2).setCell ⟨W.heap.size, 3, none⟩ v3).setCell ⟨W.heap.size, 4, none⟩ v4).setCell ⟨W.heap.size, 5, none⟩ v5).setCell ⟨W.heap.size, 6, none⟩ v6)) :=
  ⟨_, rfl, rfl, h.size, Blk.set7_6 (Blk.set7_5 (Blk.set7_4 (Blk.set7_3 (Blk.set7_2 (Blk.set7_1 (Blk.set7_0 (Blk.below (Blk.new W _ t).drew hb) _) _) _) _) _) _) _,
    bl_set (bl_set (bl_set (bl_set (bl_set (bl_set (bl_set (bl_step (bl_drew (bl_alloc h _)) hb) h.size) h.size) h.size) h.size) h.size) h.size) h.size⟩
theorem run_small {idl bsy rdy im : ByteArray} {N : Nat} (hz : idl.size = 6 ∧ bsy.size = 6 ∧ rdy.size = 6) : ∀ x ∈ runL idl bsy rdy im N, x.size ≤ 288 := by
  intro x hx
  simp only [runL, List.mem_append, List.mem_flatten, List.mem_replicate, List.mem_map, List.mem_cons, List.not_mem_nil, or_false] at hx
  rcases hx with ((rfl | ⟨l, ⟨_, rfl⟩, hx⟩) | rfl | rfl) | ⟨j, _, rfl⟩
  · omega
  · simp at hx
    rcases hx with rfl | rfl | rfl
    · decide
    · omega
    · omega
  · decide
  · omega
  · rw [piece_size]
    omega
theorem info9 : (Try.prog.info? 9).map (fun i => (i.zero, i.size, i.bytes)) = some (some (.string ByteArray.empty), 1, 16) := by kernel_rfl
set_option maxRecDepth 100000 in
set_option maxHeartbeats 25600000 in
theorem run_0 (x0 : Int) (m N : Nat) (im idl bsy rdy : ByteArray) (w : World) (hk : wrap64 (Int.tmod (IntKind.u64.wrap x0) 288) = (m : Int)) (hm : m < 288) (hz : im.size = m + 1) (hN : manyI im = (N : Int)) (hT : Texts idl bsy rdy)
    (hz3 : idl.size = 6 ∧ bsy.size = 6 ∧ rdy.size = 6)
    (hc : Hid (∀ W : World, Calls Try.prog 14 #[.int .i64 (1 + (m : Int))] W fun e w' => e = .returned (hostV 1 im 0 false 0 ⟨#[]⟩ 0) ∧ Below W.heap.size W w'))
    (p1 : Hid (∀ W : World, Calls Try.prog 16 #[.agg #[.int .i64 0, .int .i64 0, .int .i64 0]] W fun e w' => e = .returned (.tuple #[.string idl, .int .i64 0]) ∧ Below W.heap.size W w'))
    (p2 : Hid (∀ W : World, Calls Try.prog 16 #[.agg #[.int .i64 0, .int .i64 0, .int .i64 3]] W fun e w' => e = .returned (.tuple #[.string rdy, .int .i64 0]) ∧ Below W.heap.size W w'))
    (p3 : Hid (∀ W : World, Calls Try.prog 16 #[.agg #[.int .i64 0, .int .i64 9, .int .i64 2]] W fun e w' => e = .returned (.tuple #[.string bsy, .int .i64 0]) ∧ Below W.heap.size W w')) :
    Calls Try.prog 8 #[.int .i64 x0] w fun e w' => e = .returned (.bool true) ∧ Below w.heap.size w w' := by
  obtain ⟨i0, hi, hz0, hz1, hz2⟩ := info_parts info9
  have HB := Below.refl w.heap.size w
  have i1 : 1 ≤ im.size := by omega
  have i2 : im.size ≤ 288 := by omega
  have RA := Lib.hid (runs_all hT i1 i2 N hN)
  have HZ := Lib.hid hz
  have HN := Lib.hid (show (N : Int) = ((m : Int) + 32) / 32 by rw [← hN]; unfold manyI; omega)
  have HZ3 := Lib.hid hz3
  have hn9 : (N : Int) ≤ 9 := by rw [HN.out]; omega
  clear hz hN hz3 hT
  go_enter Try.func8, Try.ntmps8
  go_upto_region 5 with (first | (go_at_call 13; with_reducible refine (awake_c _).mono ?_; rintro e w' ⟨rfl, hb⟩; have HB := bl_step (w := w) (by repeat (with_reducible first | exact HB | (refine bl_set ?_ (by omega)) | apply bl_alloc | apply bl_drew | apply bl_drewN | fail)) hb; have hzB := HB.size) | (go_at_call 14; with_reducible refine (hc.out _).mono ?_; rintro e w' ⟨rfl, hb⟩; have HB := bl_step (w := w) (by repeat (with_reducible first | exact HB | (refine bl_set ?_ (by omega)) | apply bl_alloc | apply bl_drew | apply bl_drewN | fail)) hb; have hzB := HB.size; have K0 := fun cs => Blk.new w' cs 23) | fail)
  have B1 : Below w.heap.size w (w'.alloc (.cells #[.int .i64 1, .string im, .int .i64 0, .bool false, .int .i64 0, .string ⟨#[]⟩, .int .i64 0] 23)) := bl_alloc HB _
  have K1 := K0 #[.int .i64 1, .string im, .int .i64 0, .bool false, .int .i64 0, .string ⟨#[]⟩, .int .i64 0]
  have hg0 : w.heap.size ≤ w'.heap.size := HB.size
  clear K0 HB hb hzB hc
  generalize w'.alloc (.cells #[.int .i64 1, .string im, .int .i64 0, .bool false, .int .i64 0, .string ⟨#[]⟩, .int .i64 0] 23) = w1 at *
  generalize w'.heap.size = g at *
  have K0 := K1
  have HB := B1
  clear K1 B1
  go_upto_region 8 with (first | (go_at_call 16; with_reducible refine (p1.out _).mono ?_; rintro e w' ⟨rfl, hb⟩; have HB := bl_step (w := w) (by repeat (with_reducible first | exact HB | (refine bl_set ?_ (by omega)) | apply bl_alloc | apply bl_drew | apply bl_drewN | fail)) hb; have hzB := HB.size; have K0 := Blk.on (by first | exact K0 | exact K0 #[] | exact K0 (.cells #[] 0) #[]) (by repeat (with_reducible first | exact K0 | exact K0 _ | exact K0 _ _ | apply Blk.alloc | apply Blk.drew | apply Blk.drewN | apply Blk.set7_0 | apply Blk.set7_1 | apply Blk.set7_2 | apply Blk.set7_3 | apply Blk.set7_4 | apply Blk.set7_5 | apply Blk.set7_6 | (apply Blk.off; (first | assumption | omega | (simp; omega))) | fail)) hb; (try clear cK0_0 cK0_1 cK0_2 cK0_3 cK0_4 cK0_5 cK0_6 fK0 lK0 nK0 mK0); obtain ⟨cK0_0, cK0_1, cK0_2, cK0_3, cK0_4, cK0_5, cK0_6, fK0, lK0, nK0, mK0⟩ := Blk.all7 K0) | (go_at_call 16; with_reducible refine (p2.out _).mono ?_; rintro e w' ⟨rfl, hb⟩; have HB := bl_step (w := w) (by repeat (with_reducible first | exact HB | (refine bl_set ?_ (by omega)) | apply bl_alloc | apply bl_drew | apply bl_drewN | fail)) hb; have hzB := HB.size; have K0 := Blk.on (by first | exact K0 | exact K0 #[] | exact K0 (.cells #[] 0) #[]) (by repeat (with_reducible first | exact K0 | exact K0 _ | exact K0 _ _ | apply Blk.alloc | apply Blk.drew | apply Blk.drewN | apply Blk.set7_0 | apply Blk.set7_1 | apply Blk.set7_2 | apply Blk.set7_3 | apply Blk.set7_4 | apply Blk.set7_5 | apply Blk.set7_6 | (apply Blk.off; (first | assumption | omega | (simp; omega))) | fail)) hb; (try clear cK0_0 cK0_1 cK0_2 cK0_3 cK0_4 cK0_5 cK0_6 fK0 lK0 nK0 mK0); obtain ⟨cK0_0, cK0_1, cK0_2, cK0_3, cK0_4, cK0_5, cK0_6, fK0, lK0, nK0, mK0⟩ := Blk.all7 K0) | (go_at_call 16; with_reducible refine (p3.out _).mono ?_; rintro e w' ⟨rfl, hb⟩; have HB := bl_step (w := w) (by repeat (with_reducible first | exact HB | (refine bl_set ?_ (by omega)) | apply bl_alloc | apply bl_drew | apply bl_drewN | fail)) hb; have hzB := HB.size; have K0 := Blk.on (by first | exact K0 | exact K0 #[] | exact K0 (.cells #[] 0) #[]) (by repeat (with_reducible first | exact K0 | exact K0 _ | exact K0 _ _ | apply Blk.alloc | apply Blk.drew | apply Blk.drewN | apply Blk.set7_0 | apply Blk.set7_1 | apply Blk.set7_2 | apply Blk.set7_3 | apply Blk.set7_4 | apply Blk.set7_5 | apply Blk.set7_6 | (apply Blk.off; (first | assumption | omega | (simp; omega))) | fail)) hb; (try clear cK0_0 cK0_1 cK0_2 cK0_3 cK0_4 cK0_5 cK0_6 fK0 lK0 nK0 mK0); obtain ⟨cK0_0, cK0_1, cK0_2, cK0_3, cK0_4, cK0_5, cK0_6, fK0, lK0, nK0, mK0⟩ := Blk.all7 K0) | fail)
  have hgl : g < w'.heap.size := lK0
  clear cK0_0 cK0_1 cK0_2 cK0_3 cK0_4 cK0_5 cK0_6 fK0 lK0 nK0 mK0 p1 p2 p3 hb hzB
  have O1 := own_first w' 9 idl
  have B2 := bl_alloc (Below.refl w'.heap.size w') (.cells #[.string idl] 9)
  generalize w' = w5 at *
  go_wp2_with fail
  generalize w5.alloc (.cells #[.string idl] 9) = w6 at *
  go_loopg [11, 13] N (fun gg s11 s13 wr => ∃ (k b cv : Nat), k ≤ N ∧ N - k ≤ gg ∧ s13 = .int .i64 k ∧ s11 = .slice (some ⟨b, 0, none⟩) (1 + 3 * k) cv ∧ Aside (wr.ownsRow w5.heap.size 9 1 (.slice (some ⟨b, 0, none⟩) (1 + 3 * k) cv) (1 + 3 * k) ((lay0 idl bsy rdy k).map Value.string)) ∧ Aside (Below w5.heap.size w5 wr))
  case atStart => exact ⟨0, _, _, by omega, by omega, rfl, rfl, O1, B2⟩
  case round =>
    clear O1 B2 w6
    obtain ⟨k, b, cv, hk1, hg1, rfl, rfl, BO, BW⟩ := hrel
    have hown := BO.out
    have HB6 := BW.out
    have hsize := HB6.size
    clear BO BW
    have hk9 : k ≤ 9 := by omega
    by_cases hlt : k < N
    · have hlt1 : (k : Int) < (1 + (m : Int) + 31) / 32 := by have := HN.out; omega
      go_wp2_with (first | (at_builtin; refine wpList_append_own _ rfl _ _ 44 rfl w5.heap.size 9 i0 (.string ByteArray.empty) 1 16 Try.underlying44 hi hz0 hz1 hz2 rfl (by decide) _ _ _ rfl (hown.alloc _) ⟨wr.heap.size, 0, none⟩ 3 3 [.string ⟨#[]⟩, .string bsy, .string rdy] rfl rfl (cells_new _ _ _) (fun x hx => by simp at hx; rcases hx with rfl | rfl | rfl <;> rfl) (by unfold maxLen; omega) (by omega) (by simp; omega) ?_; intro v' w3 hown' hgrow3 hnil3) | fail)
      obtain ⟨⟨g3, cv', rfl, hcv⟩, hb3⟩ := row_stepm (by decide) hown hown' hgrow3 HB6
      go_roundg (N - (k + 1))
      case measure => omega
      case rel => exact ⟨k + 1, g3, cv', by omega, by omega, by go_num, rfl, by rw [lay0_succ, List.map_append]; exact hown', hb3⟩
    · obtain rfl : N = k := by omega
      have hge1 : (1 + (m : Int) + 31) / 32 ≤ (N : Int) := by have := HN.out; omega
      go_wp2_with (first | (at_builtin; refine wpList_append_own _ rfl _ _ 44 rfl w5.heap.size 9 i0 (.string ByteArray.empty) 1 16 Try.underlying44 hi hz0 hz1 hz2 rfl (by decide) _ _ _ rfl (hown.alloc _) ⟨wr.heap.size, 0, none⟩ 2 2 [.string ⟨#[]⟩, .string idl] rfl rfl (cells_new _ _ _) (fun x hx => by simp at hx; rcases hx with rfl | rfl <;> rfl) (by unfold maxLen; omega) (by omega) (by simp; omega) ?_; intro v' w3 hown' hgrow3 hnil3) | fail)
      obtain ⟨⟨g3, cv', rfl, hcv⟩, hb3⟩ := row_stepm (by decide) hown hown' hgrow3 HB6
      clear hown hgrow3 HB6 hsize hnil3 hcv hlt hge1 hk1 hg1
      have O2 : w3.ownsRow w5.heap.size 9 1 (.slice (some ⟨g3, 0, none⟩) (1 + 3 * N + 2) cv') (1 + 3 * N + 2) ((lay1 idl bsy rdy im N 0).map Value.string) := by
        have e : lay1 idl bsy rdy im N 0 = lay0 idl bsy rdy N ++ [⟨#[]⟩, idl] := by simp [lay1]
        rw [e, List.map_append]
        exact hown'
      clear hown'
      go_loopg [11, 14] ((m + 1) / 32 + 1) (fun gg s11 s14 wr => ∃ (j b cv : Nat), j ≤ (m + 1) / 32 + 1 ∧ (m + 1) / 32 + 1 - j ≤ gg ∧ s14 = .int .i64 j ∧ s11 = .slice (some ⟨b, 0, none⟩) (1 + 3 * N + 2 + j) cv ∧ Aside (wr.ownsRow w5.heap.size 9 1 (.slice (some ⟨b, 0, none⟩) (1 + 3 * N + 2 + j) cv) (1 + 3 * N + 2 + j) ((lay1 idl bsy rdy im N j).map Value.string)) ∧ Aside (Below w5.heap.size w5 wr))
      case atStart => exact ⟨0, _, _, by omega, by omega, rfl, rfl, O2, hb3⟩
      case round =>
        clear O2 hb3
        obtain ⟨j, b, cv, hk1, hg1, rfl, rfl, BO, BW⟩ := hrel
        have hown := BO.out
        have HB6 := BW.out
        have hsize := HB6.size
        obtain ⟨cK0_0, cK0_1, cK0_2, cK0_3, cK0_4, cK0_5, cK0_6, fK0, lK0, nK0, mK0⟩ := Blk.all7 (K0.below HB6)
        clear BO BW
        by_cases hlt : 32 * j ≤ m + 1
        · have hlt1 : (j : Int) * 32 ≤ 1 + (m : Int) := by omega
          have hsz : 1 + (m : Int) ≤ (im.size : Int) := by have := HZ.out; omega
          have hs0 : 32 * j ≤ im.size := by have := HZ.out; omega
          rcases (by omega : 32 * j + 32 < m + 1 ∨ (32 * j < m + 1 ∧ m + 1 ≤ 32 * j + 32) ∨ 32 * j = m + 1) with hf | ⟨hf, hf2⟩ | hf
          · have hf0 : 32 * (j : Int) < 1 + (m : Int) := by omega
            have hf1 : 32 * (j : Int) + 32 < 1 + (m : Int) := by omega
            have hs1 : 32 * j + 32 ≤ im.size := by have := HZ.out; omega
            have hp := Lib.hid (piece_a (im := im) hs1)
            go_wp2_with (first | (at_builtin; refine wpList_append_own _ rfl _ _ 44 rfl w5.heap.size 9 i0 (.string ByteArray.empty) 1 16 Try.underlying44 hi hz0 hz1 hz2 rfl (by decide) _ _ _ rfl (hown.alloc _) ⟨wr.heap.size, 0, none⟩ 1 1 [.string (im.extract (32 * j) (32 * j + 32))] rfl rfl (cells_new _ _ _) (fun x hx => by simp at hx; subst hx; rfl) (by unfold maxLen; omega) (by omega) (by simp; omega) ?_; intro v' w3 hown' hgrow3 hnil3) | fail)
            obtain ⟨⟨g3, cv', rfl, hcv⟩, hb3⟩ := row_stepm (by decide) hown hown' hgrow3 HB6
            have e : (lay1 idl bsy rdy im N (j + 1)).map Value.string = (lay1 idl bsy rdy im N j).map Value.string ++ [Value.string (im.extract (32 * j) (32 * j + 32))] := by
              rw [lay1_succ, hp.out, List.map_append, List.map_cons, List.map_nil]
            rw [← e] at hown'
            go_roundg ((m + 1) / 32 + 1 - (j + 1))
            case measure => omega
            case rel => exact ⟨j + 1, g3, cv', by omega, by omega, by go_num, rfl, hown', hb3⟩
          · have hf0 : 32 * (j : Int) < 1 + (m : Int) := by omega
            have hf1 : 1 + (m : Int) ≤ 32 * (j : Int) + 32 := by omega
            have hp := Lib.hid (piece_b (im := im) HZ.out (by omega) hf2)
            have hn1 : 1 + m ≤ im.size := by have := HZ.out; omega
            go_wp2_with (first | (at_builtin; refine wpList_append_own _ rfl _ _ 44 rfl w5.heap.size 9 i0 (.string ByteArray.empty) 1 16 Try.underlying44 hi hz0 hz1 hz2 rfl (by decide) _ _ _ rfl (hown.alloc _) ⟨wr.heap.size, 0, none⟩ 1 1 [.string (im.extract (32 * j) (1 + m))] rfl rfl (cells_new _ _ _) (fun x hx => by simp at hx; subst hx; rfl) (by unfold maxLen; omega) (by omega) (by simp; omega) ?_; intro v' w3 hown' hgrow3 hnil3) | fail)
            obtain ⟨⟨g3, cv', rfl, hcv⟩, hb3⟩ := row_stepm (by decide) hown hown' hgrow3 HB6
            have e : (lay1 idl bsy rdy im N (j + 1)).map Value.string = (lay1 idl bsy rdy im N j).map Value.string ++ [Value.string (im.extract (32 * j) (1 + m))] := by
              rw [lay1_succ, hp.out, List.map_append, List.map_cons, List.map_nil]
            rw [← e] at hown'
            go_roundg ((m + 1) / 32 + 1 - (j + 1))
            case measure => omega
            case rel => exact ⟨j + 1, g3, cv', by omega, by omega, by go_num, rfl, hown', hb3⟩
          · have hf0 : 1 + (m : Int) ≤ 32 * (j : Int) := by omega
            have hf1 : 1 + (m : Int) ≤ 32 * (j : Int) + 32 := by omega
            have hp := Lib.hid (piece_c (im := im) HZ.out hf)
            clear hf
            have hn1 : 1 + m ≤ im.size := by have := HZ.out; omega
            go_wp2_with (first | (at_builtin; refine wpList_append_own _ rfl _ _ 44 rfl w5.heap.size 9 i0 (.string ByteArray.empty) 1 16 Try.underlying44 hi hz0 hz1 hz2 rfl (by decide) _ _ _ rfl (hown.alloc _) ⟨wr.heap.size, 0, none⟩ 1 1 [.string (ByteArray.empty)] rfl rfl (cells_new _ _ _) (fun x hx => by simp at hx; subst hx; rfl) (by unfold maxLen; omega) (by omega) (by simp; omega) ?_; intro v' w3 hown' hgrow3 hnil3) | fail)
            obtain ⟨⟨g3, cv', rfl, hcv⟩, hb3⟩ := row_stepm (by decide) hown hown' hgrow3 HB6
            have e : (lay1 idl bsy rdy im N (j + 1)).map Value.string = (lay1 idl bsy rdy im N j).map Value.string ++ [Value.string (ByteArray.empty)] := by
              rw [lay1_succ, hp.out, List.map_append, List.map_cons, List.map_nil]
            rw [← e] at hown'
            go_roundg ((m + 1) / 32 + 1 - (j + 1))
            case measure => omega
            case rel => exact ⟨j + 1, g3, cv', by omega, by omega, by go_num, rfl, hown', hb3⟩
        · obtain rfl : j = (m + 1) / 32 + 1 := by omega
          have hge1 : 1 + (m : Int) < (((m + 1) / 32 + 1 : Nat) : Int) * 32 := by omega
          have hb7 : Below w.heap.size w wr := bl_step HB HB6
          have KK := K0.below HB6
          obtain ⟨RR, hbb⟩ := row1_own hown
          have hLz : lay1 idl bsy rdy im N ((m + 1) / 32 + 1) = runL idl bsy rdy im N := by
            rw [← lay1_all, HZ.out]
          rw [hLz] at RR
          have hlen : (runL idl bsy rdy im N).length = 1 + 3 * N + 2 + ((m + 1) / 32 + 1) := by
            rw [← hLz, lay1_len]
            omega
          have hsm : ∀ x ∈ runL idl bsy rdy im N, x.size ≤ 288 := run_small HZ3.out
          have hra := RA.out
          clear hLz hown
          generalize runL idl bsy rdy im N = L at *
          have HL := Lib.hid hlen
          have HSm := Lib.hid hsm
          have hgb : b ≠ g := by omega
          have hgw : w.heap.size ≤ g := hg0
          generalize hn : 1 + 3 * N + 2 + ((m + 1) / 32 + 1) = n at *
          have hn9 : n ≤ 1000 := by omega
          clear hlen hsm RA hn hge1 hlt hk1 hg1 hsize HB6 cK0_0 cK0_1 cK0_2 cK0_3 cK0_4 cK0_5 cK0_6 fK0 lK0 nK0 mK0
          go_wp2_with fail
          go_loopg [15] n (fun gg s15 wq => ∃ (i : Nat) (h : HS), Runs h (L.drop i) ⟨7, im, 0, false, 0, ⟨#[]⟩, 1⟩ ∧ i ≤ n ∧ n - i ≤ gg ∧ s15 = .int .i64 i ∧ Aside (Below w.heap.size w wq) ∧ Aside (Blk wq g h.cs 23) ∧ Aside (Row1 wq b L))
          case atStart => exact ⟨0, stH 1 im 0 ⟨#[]⟩, by simpa using hra, by omega, by omega, rfl, hb7, KK, RR⟩
          case round =>
            clear KK RR hb7 hra K0 HB
            obtain ⟨i, h, hrun, hin, hgi, rfl, BW, BK, BR⟩ := hrel
            have HB := BW.out
            have K0 : Blk wr g #[.int .i64 h.ph, .string h.im, .int .i64 h.bl, .bool h.ag, .int .i64 h.tr, .string h.rd, .int .i64 h.rp] 23 := BK.out
            have hzB := HB.size
            obtain ⟨cK0_0, cK0_1, cK0_2, cK0_3, cK0_4, cK0_5, cK0_6, fK0, lK0, nK0, mK0⟩ := Blk.all7 K0
            by_cases hlt : i < n
            · obtain ⟨x, hxk⟩ : ∃ x, L[i]? = some x := ⟨_, List.getElem?_eq_getElem (by have := HL.out; omega)⟩
              obtain ⟨ok, htr, hnext⟩ := runs_cons hrun hxk
              have hxs := HSm.out x (List.mem_of_getElem? hxk)
              have hcx : wr.cell? ⟨b, i, none⟩ = some (.string x) := BR.out.2 i x hxk
              have hbl := BR.out.1
              have hii : (i : Int) < (n : Int) := by omega
              have hi0 : (0 : Int) ≤ (i : Int) := by omega
              have NX := Lib.hid hnext
              have tk := Lib.hid (fun W : World => take_c h false false x W (by have := ok.im1; omega) (by have := ok.rd1; omega) (by omega))
              rw [take_on ok] at tk
              have q1 : (h.ph == 7) = false := beq_eq_false_iff_ne.2 (by have := ok.ph1; omega)
              have q2 : (h.tr != 0) = false := by rw [htr]; rfl
              clear hrun hxk htr hnext BW BK
              go_upto_region 24 with fail
              have HC : wr.cell? ⟨g, 0, none⟩ = some (.int .i64 h.ph) ∧ wr.cell? ⟨g, 1, none⟩ = some (.string h.im) ∧ wr.cell? ⟨g, 2, none⟩ = some (.int .i64 h.bl) ∧ wr.cell? ⟨g, 3, none⟩ = some (.bool h.ag) ∧ wr.cell? ⟨g, 4, none⟩ = some (.int .i64 h.tr) ∧ wr.cell? ⟨g, 5, none⟩ = some (.string h.rd) ∧ wr.cell? ⟨g, 6, none⟩ = some (.int .i64 h.rp) ∧ wr.cell? ⟨b, i, none⟩ = some (.string x) := ⟨cK0_0, cK0_1, cK0_2, cK0_3, cK0_4, cK0_5, cK0_6, hcx⟩
              go_cut [16, 17] (fun v16 v17 wc => ∃ g1 : Nat, v16 = .pointer (some ⟨g1, 0, none⟩) ∧ v17 = .int .i64 0 ∧ wr.heap.size ≤ g1 ∧ Aside (Blk wc g1 #[.int .i64 (takeH h false false x).ph, .string (takeH h false false x).im, .int .i64 (takeH h false false x).bl, .bool (takeH h false false x).ag, .int .i64 (takeH h false false x).tr, .string (takeH h false false x).rd, .int .i64 (takeH h false false x).rp] 23) ∧ Aside (Below wr.heap.size wr wc))
              case first =>
                go_region_held3 (fun W => W.cell? ⟨g, 0, none⟩ = some (.int .i64 h.ph) ∧ W.cell? ⟨g, 1, none⟩ = some (.string h.im) ∧ W.cell? ⟨g, 2, none⟩ = some (.int .i64 h.bl) ∧ W.cell? ⟨g, 3, none⟩ = some (.bool h.ag) ∧ W.cell? ⟨g, 4, none⟩ = some (.int .i64 h.tr) ∧ W.cell? ⟨g, 5, none⟩ = some (.string h.rd) ∧ W.cell? ⟨g, 6, none⟩ = some (.int .i64 h.rp) ∧ W.cell? ⟨b, i, none⟩ = some (.string x) ∧ Below wr.heap.size wr W) (first | (refine k8 HC ?_; (repeat (with_reducible first | exact Below.refl _ _ | (apply kz8; assumption) | apply bl_alloc | apply bl_drew | apply bl_drewN | (refine bl_set ?_ (by omega)) | (refine bl_step ?_ (by assumption)) | fail)); done) | fail) (first | (go_at_call 10; with_reducible refine (tk.out _).mono ?_; rintro e wq ⟨rfl, hb⟩; obtain ⟨hcc, hff, hll, hnn, hnm⟩ := keep hb; have hzq : wr.heap.size ≤ wq.heap.size := Nat.le_trans (by simp) hb.size) | fail)
                all_goals (go_wp2_with fail; go_meet)
                · with_reducible refine way_new ?_ hb
                  exact bl_drew (Below.refl _ _)
                · with_reducible refine way_old ?_ hb
                  exact Below.refl _ _
              case rest =>
                obtain ⟨g1, rfl, rfl, hgr, BK1, BB⟩ := hcut
                have hb := BB.out
                have RR := BR.out.below hb
                clear BB tk HC hcx BR q1 q2
                have HB := bl_step (w := w) (by repeat (with_reducible first | exact HB | (refine bl_set ?_ (by omega)) | apply bl_alloc | apply bl_drew | apply bl_drewN | fail)) hb; have hzB := HB.size; have K0 := Blk.on (by first | exact K0 | exact K0 #[] | exact K0 (.cells #[] 0) #[]) (by repeat (with_reducible first | exact K0 | exact K0 _ | exact K0 _ _ | apply Blk.alloc | apply Blk.drew | apply Blk.drewN | apply Blk.set7_0 | apply Blk.set7_1 | apply Blk.set7_2 | apply Blk.set7_3 | apply Blk.set7_4 | apply Blk.set7_5 | apply Blk.set7_6 | (apply Blk.off; (first | assumption | omega | (simp; omega))) | fail)) hb; (try clear cK0_0 cK0_1 cK0_2 cK0_3 cK0_4 cK0_5 cK0_6 fK0 lK0 nK0 mK0); obtain ⟨cK0_0, cK0_1, cK0_2, cK0_3, cK0_4, cK0_5, cK0_6, fK0, lK0, nK0, mK0⟩ := Blk.all7 K0
                have K1 : Blk wc g1 #[.int .i64 (takeH h false false x).ph, .string (takeH h false false x).im, .int .i64 (takeH h false false x).bl, .bool (takeH h false false x).ag, .int .i64 (takeH h false false x).tr, .string (takeH h false false x).rd, .int .i64 (takeH h false false x).rp] 23 := BK1.out
                clear BK1
                generalize takeH h false false x = X at *
                obtain ⟨cK1_0, cK1_1, cK1_2, cK1_3, cK1_4, cK1_5, cK1_6, fK1, lK1, nK1, mK1⟩ := Blk.all7 K1
                go_wp2_with (first | (go_at_call 12; with_reducible refine (enum_c _ _).mono ?_; rintro e w' ⟨rfl, rfl⟩) | fail)
                go_roundg (n - (i + 1))
                case measure => omega
                case rel => exact ⟨i + 1, X, NX.out, by omega, by omega, by go_num, (by show Below _ _ _; exact (by repeat (with_reducible first | exact Below.refl _ _ | assumption | (refine bl_set ?_ (by omega)) | apply bl_alloc | apply bl_drewN | apply bl_drew | (refine bl_step ?_ (by assumption)) | fail))), (by show Blk _ _ _ _; exact (by repeat (with_reducible first | exact K0 | apply Blk.alloc | apply Blk.set7_0 | apply Blk.set7_1 | apply Blk.set7_2 | apply Blk.set7_3 | apply Blk.set7_4 | apply Blk.set7_5 | apply Blk.set7_6 | fail))), (by show Row1 _ _ _; exact RR.set7 hgb)⟩
            · obtain rfl : i = n := by omega
              have hge : (i : Int) ≤ (i : Int) := by omega
              have he : L.drop i = [] := List.drop_eq_nil_of_le (by have := HL.out; omega)
              rw [he] at hrun
              obtain rfl : h = ⟨7, im, 0, false, 0, ⟨#[]⟩, 1⟩ := hrun
              have hm1 := Lib.hid (fun W : World => rhmay_c 7 im 0 false 0 ⟨#[]⟩ 1 W (by omega) (by decide))
              rw [fin_may i1 i2] at hm1
              clear he
              go_wp2_with (first | (go_at_call 15; with_reducible refine (hm1.out _).mono ?_; rintro e w' ⟨rfl, hb⟩; have HB := bl_step (w := w) (by repeat (with_reducible first | exact HB | (refine bl_set ?_ (by omega)) | apply bl_alloc | apply bl_drew | apply bl_drewN | fail)) hb; have hzB := HB.size; have K0 := Blk.on (by first | exact K0 | exact K0 #[] | exact K0 (.cells #[] 0) #[]) (by repeat (with_reducible first | exact K0 | exact K0 _ | exact K0 _ _ | apply Blk.alloc | apply Blk.drew | apply Blk.drewN | apply Blk.set7_0 | apply Blk.set7_1 | apply Blk.set7_2 | apply Blk.set7_3 | apply Blk.set7_4 | apply Blk.set7_5 | apply Blk.set7_6 | (apply Blk.off; (first | assumption | omega | (simp; omega))) | fail)) hb; (try clear cK0_0 cK0_1 cK0_2 cK0_3 cK0_4 cK0_5 cK0_6 fK0 lK0 nK0 mK0); obtain ⟨cK0_0, cK0_1, cK0_2, cK0_3, cK0_4, cK0_5, cK0_6, fK0, lK0, nK0, mK0⟩ := Blk.all7 K0) | fail)
              go_ret
              exact ⟨rfl, (by repeat (with_reducible first | exact Below.refl _ _ | assumption | (refine bl_set ?_ (by omega)) | apply bl_alloc | apply bl_drewN | apply bl_drew | (refine bl_step ?_ (by assumption)) | fail))⟩
theorem carry1_c (m : Nat) (w : World) (hn : m < 288) : Calls Try.prog 14 #[.int .i64 (1 + (m : Int))] w fun e w' => e = .returned (hostV 1 (cntB (m + 1)) 0 false 0 ⟨#[]⟩ 0) ∧ Below w.heap.size w w' := by
  have h := carry_c (m + 1) w (by omega) (by omega)
  rwa [show ((m + 1 : Nat) : Int) = 1 + (m : Int) by omega] at h
theorem run_w (x0 : Int) (w : World) : Calls Try.prog 8 #[.int .i64 x0] w fun e w' => e = .returned (.bool true) ∧ Below w.heap.size w w' := by
  have h0 := Su.umod64 x0 288 (by decide) (by decide)
  obtain ⟨m, hm⟩ := Int.eq_ofNat_of_zero_le h0.1
  obtain ⟨N, hN⟩ : ∃ N : Nat, manyI (cntB (m + 1)) = (N : Int) := Int.eq_ofNat_of_zero_le (by unfold manyI; omega)
  have p1 := Lib.hid (fun W : World => rput_c 0 0 0 W)
  rw [idle_put.1, idle_put.2] at p1
  have p2 := Lib.hid (fun W : World => rput_c 0 0 3 W)
  rw [rdy_put.1, rdy_put.2] at p2
  have p3 := Lib.hid (fun W : World => rput_c 0 9 2 W)
  rw [bsy_put.1, bsy_put.2] at p3
  exact run_0 x0 m N (cntB (m + 1)) idleB bsyB rdyB w hm (by omega) (cnt_size _) hN texts3 small3 (Lib.hid fun W => carry1_c m W (by omega)) p1 p2 p3
end Go.Proofs.Ythoonffbadhplaa.Rp

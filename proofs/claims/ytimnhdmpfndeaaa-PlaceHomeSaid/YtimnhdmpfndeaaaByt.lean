/- Bytes of a string, one of them turned, and back. -/
import Derived.Test.YtimnhdmpfndeaaaStr
import Derived.Test.YtimnhdmpfndeaaaBits
namespace Go.Proofs.Ytimnhdmpfndeaaa.By
open Go.RowKit Go.Proofs.Ytimnhdmpfndeaaa.Kt Go.Proofs.Ytimnhdmpfndeaaa.Lw Go.Proofs.Ytimnhdmpfndeaaa.St
set_option linter.unusedVariables false
set_option linter.unusedSimpArgs false

/-- a string, one byte of it another. -/
def setS (s : ByteArray) (p : Nat) (x : Int) : ByteArray := ⟨(s.data.toList.set p (UInt8.ofNat x.toNat)).toArray⟩
theorem setS_size (s : ByteArray) (p : Nat) (x : Int) : (setS s p x).size = s.size := by
  show (s.data.toList.set p (UInt8.ofNat x.toNat)).toArray.size = s.data.size
  rw [List.size_toArray, List.length_set, Array.length_toList]
theorem setS_ne (s : ByteArray) (p : Nat) (x : Int) (hp : p < s.size) (h0 : 0 ≤ x) (h1 : x < 256) (hx : byt s p ≠ x) : setS s p x ≠ s := by
  intro e
  apply hx
  have hl : p < s.data.toList.length := by simpa using hp
  have h : (setS s p x).data.toList[p]? = s.data.toList[p]? := by rw [e]
  simp only [setS, List.getElem?_set_self hl] at h
  unfold byt
  rw [List.getD_eq_getElem?_getD, ← h]
  exact byte_back x h0 h1
/-- bytes of a string: what stands where, and back. -/
theorem run_bytes (w : World) (s : ByteArray) :
    (convert 9 93 (.string s)).run Try.prog w = .ok (.slice (some ⟨w.heap.size, 0, none⟩) s.size (grownCap w s.size 0 5))
      (w.drew.alloc (.cells (bytesRow s (grownCap w s.size 0 5)) 5 ((bytesRow s (grownCap w s.size 0 5)).size, (bytesRow s (grownCap w s.size 0 5)).size + 1))) :=
  run_bytes_of_string w _ _ 5 s Try.underlying9 Try.underlying93 Try.underlying5
theorem bytes_cell (w : World) (s : ByteArray) (cap j : Nat) (fr : Nat × Nat) (hj : j < s.size) :
    (w.alloc (.cells (bytesRow s cap) 5 fr)).cell? ⟨w.heap.size, j, none⟩ = some (.int .u8 (byt s j)) := by
  rw [World.cell?_alloc_mark, bytesRow_at s cap j (by simpa using hj)]
  congr 2
  rw [← byt_at s j hj]; rfl
theorem bytesRow_size (s : ByteArray) (cap : Nat) : s.size ≤ (bytesRow s cap).size := by
  simp [bytesRow]
theorem bytes_frozen (w : World) (s : ByteArray) (cap j : Nat) (hj : j < s.size) :
    (w.alloc (.cells (bytesRow s cap) 5 ((bytesRow s cap).size, (bytesRow s cap).size + 1))).frozen? ⟨w.heap.size, j, none⟩ = false := by
  rw [World.frozen?_alloc_mark]
  have := bytesRow_size s cap
  simp; omega
theorem run_back (w : World) (g cap : Nat) (s : ByteArray) (n : Nat) (hn : n = s.size) (hc : ∀ j, j < s.size → w.cell? ⟨g, j, none⟩ = some (.int .u8 (byt s j))) :
    (convert 93 9 (.slice (some ⟨g, 0, none⟩) n cap)).run Try.prog w = .ok (.string s) w := by
  subst hn
  have h := run_convert_bytes_back (P := Try.prog) w 93 9 5 ⟨g, 0, none⟩ cap s.data.toList Try.underlying93 Try.underlying5 Try.underlying9 (by
    intro j hj
    have hj' : j < s.size := by simpa using hj
    have := hc j hj'
    rw [add_plain, this, ← byt_at s j hj']
    rfl)
  simpa using h
theorem xor8 (x y : Int) : Go.bits .xor .u8 x y = IntKind.u8.wrap (((BitVec.ofInt 8 x).toNat ^^^ (BitVec.ofInt 8 y).toNat : Nat) : Int) := by
  rw [← BitVec.toNat_xor]; rfl
theorem turn8 (x y : Int) (h0 : 0 ≤ x) (h1 : x < 256) (h2 : 0 < y) (h3 : y < 256) : 0 ≤ Go.bits .xor .u8 x y ∧ Go.bits .xor .u8 x y < 256 ∧ x ≠ Go.bits .xor .u8 x y := by
  rw [xor8]
  obtain ⟨a, rfl⟩ := Int.eq_ofNat_of_zero_le h0
  obtain ⟨b, rfl⟩ := Int.eq_ofNat_of_zero_le (Int.le_of_lt h2)
  have ea : (BitVec.ofInt 8 (a : Int)).toNat = a := by simp; omega
  have eb : (BitVec.ofInt 8 (b : Int)).toNat = b := by simp; omega
  rw [ea, eb]
  have hx : a ^^^ b < 2 ^ 8 := Nat.xor_lt_two_pow (by omega) (by omega)
  have hw : IntKind.u8.wrap ((a ^^^ b : Nat) : Int) = ((a ^^^ b : Nat) : Int) := by
    simp only [IntKind.wrap_u8]; omega
  rw [hw]
  refine ⟨by omega, by omega, ?_⟩
  intro e
  have e' : a = a ^^^ b := by omega
  have : b = 0 := by
    have := congrArg (fun n => a ^^^ n) e'
    simpa [← Nat.xor_assoc] using this.symm
  omega
/-- back, one byte turned. -/
theorem back_set (W : World) (s : ByteArray) (n cap p : Nat) (X : Int) (hn : n = s.size) (hp : p < s.size) (h0 : 0 ≤ X) (h1 : X < 256) :
    (convert 93 9 (.slice (some ⟨W.heap.size, 0, none⟩) n cap)).run Try.prog (((W.alloc (.cells (bytesRow s cap) 5 ((bytesRow s cap).size, (bytesRow s cap).size + 1))).setCell ⟨W.heap.size, p, none⟩ (.int .u8 X)).drew) =
      .ok (.string (setS s p X)) (((W.alloc (.cells (bytesRow s cap) 5 ((bytesRow s cap).size, (bytesRow s cap).size + 1))).setCell ⟨W.heap.size, p, none⟩ (.int .u8 X)).drew) := by
  refine run_back _ _ _ (setS s p X) n (by rw [setS_size]; exact hn) ?_
  intro j hj
  rw [setS_size] at hj
  have hd : ∀ (V : World) (q : Addr), V.drew.cell? q = V.cell? q := fun V q => rfl
  rw [hd]
  have hl : j < s.data.toList.length := by simpa using hj
  by_cases h : j = p
  · subst h
    rw [World.cell?_setCell_same (h := bytes_cell W s cap j _ hj)]
    congr 2
    unfold byt setS
    simp only [List.getD_eq_getElem?_getD, List.getElem?_set_self hl]
    exact (byte_back X h0 h1).symm
  · rw [World.cell?_setCell_other (h := by intro e; injection e with _ e _; omega), bytes_cell W s cap j _ hj]
    congr 2
    unfold byt setS
    simp only [List.getD_eq_getElem?_getD]
    rw [List.getElem?_set_ne (by omega)]
theorem keep_row {w W w2 : World} {g p : Nat} {cs C : Array Value} {T t : TypeId} {fr : Nat × Nat} {v : Value} (hB : Below w.heap.size w W) (K : Blk W g cs T)
    (hb : Below (((W.alloc (.cells C t fr)).setCell ⟨W.heap.size, p, none⟩ v).drew).heap.size (((W.alloc (.cells C t fr)).setCell ⟨W.heap.size, p, none⟩ v).drew) w2) : Below w.heap.size w w2 ∧ Blk w2 g cs T :=
  ⟨bl_step (bl_drew (bl_set (bl_alloc hB _) hB.size)) hb, Blk.below (Blk.drew ((K.alloc _).far (by show g ≠ W.heap.size; have := K.lt; omega) _)) hb⟩
end Go.Proofs.Ytimnhdmpfndeaaa.By

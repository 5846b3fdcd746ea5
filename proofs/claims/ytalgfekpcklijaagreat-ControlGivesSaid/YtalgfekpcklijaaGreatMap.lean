/- A map that the call makes out of a literal: its entries may come in any order; a look-up finds the same. -/
import Derived.Test.YtalgfekpcklijaaGreatEach
import Derived.Test.YtalgfekpcklijaaGreatGb
import Derived.MapKept
import Derived.Maps.OwnSet
namespace Go.Proofs.YtalgfekpcklijaaGreat.Mp
open Go.RowKit Go.Proofs.YtalgfekpcklijaaGreat.Kt Go.Proofs.YtalgfekpcklijaaGreat.Eh Go.Proofs.YtalgfekpcklijaaGreat.Es
set_option linter.unusedVariables false
set_option linter.unusedSimpArgs false

def MapAt (w : World) (b : Nat) (l : List (Value × Value)) : Prop := ∃ es clk, w.heap[b]? = some (.map es clk) ∧ es.toList.map (fun e => (e.key, e.val)) = l
theorem MapAt.new (w : World) : MapAt (w.alloc (.map #[] 0)) w.heap.size [] := ⟨#[], 0, by show (w.heap.push _)[w.heap.size]? = _; simp, rfl⟩
theorem MapAt.lt {w : World} {b : Nat} {l : List (Value × Value)} (h : MapAt w b l) : b < w.heap.size := by
  obtain ⟨es, clk, hb, _⟩ := h
  exact (Array.getElem?_eq_some_iff.1 hb).1
theorem MapAt.drew {w : World} {b : Nat} {l : List (Value × Value)} (h : MapAt w b l) : MapAt w.drew b l := h
theorem MapAt.below {w w1 : World} {b : Nat} {l : List (Value × Value)} (h : MapAt w b l) (hb : Below w.heap.size w w1) : MapAt w1 b l := by
  have := h.lt
  obtain ⟨es, clk, h1, h2⟩ := h
  exact ⟨es, clk, (hb.block b this).trans h1, h2⟩

/-- the first entry whose key is the one that is looked for. -/
def ff (E : Value → Bool) : List MapEntry → Nat → Option (Nat × Value)
  | [], _ => none
  | e :: es, i => if E e.key then some (i, e.val) else ff E es (i + 1)
/-- how the key k is looked for among keys of a kind. -/
def Finds (P : Program) (kt : TypeId) (k : Value) (E : Value → Bool) (ok : Value → Prop) : Prop :=
  ∀ (w : World) (es : List MapEntry), (∀ e ∈ es, ok e.key) → (Instr.findKey kt k es).run P w = .ok (ff E es 0) w
theorem findAsking_run {P : Program} {kt : TypeId} {k : Value} {E : Value → Bool} (w : World) : ∀ (es : List MapEntry) (i : Nat), (∀ e ∈ es, (Op.equal kt k e.key).run P w = .ok (E e.key) w) → (Instr.findAsking kt k es i).run P w = .ok (ff E es i) w
  | [], i, _ => by simp [Instr.findAsking, ff]
  | e :: es, i, h => by
    have h0 := h e (by simp)
    have ih := findAsking_run (E := E) w es (i + 1) (fun x hx => h x (by simp [hx]))
    simp only [Instr.findAsking, Sem.run_bind, h0, Result.andThen_ok, ff]
    cases E e.key
    · simpa using ih
    · simp
def intE (a : Int) : Value → Bool
  | .int _ b => a == b
  | _ => false
def pairE (a b : Int) : Value → Bool
  | .agg xs => intE a (xs.getD 0 undef) && intE b (xs.getD 1 undef)
  | _ => false
theorem getMap_run {P : Program} {w : World} {r : Nat} {es : Array MapEntry} {clock : Nat} (hb : w.heap[r]? = some (.map es clock)) : (getObj r).run P w = .ok (.map es clock) w := by
  simp [getObj, Sem.run, hb]
theorem setMap_run {P : Program} {w : World} {r : Nat} {es : Array MapEntry} {clock : Nat} (o : Obj) (hb : w.heap[r]? = some (.map es clock)) : (setObj r o).run P w = .ok () { w with heap := w.heap.setIfInBounds r o } := by
  simp [setObj, Sem.run, hb]
theorem finds_struct2 {P : Program} {kt : TypeId} {fs : Array Field} (ht : P.underlying kt = some (.struct fs)) (a b : Int)
    (heq : ∀ (d : Nat) (w : World) (c e : Int), (Op.equalIn (d + 2) kt (.agg #[.int .i64 a, .int .i64 b]) (.agg #[.int .i64 c, .int .i64 e])).run P w = .ok (a == c && b == e) w) :
    Finds P kt (.agg #[.int .i64 a, .int .i64 b]) (pairE a b) (fun v => ∃ c e, v = .agg #[.int .i64 c, .int .i64 e]) := by
  intro w es h
  cases es with
  | nil => simp [Instr.findKey, run_underlying ht, Instr.findNow, ff]
  | cons x es =>
    have hn : Instr.findNow (.struct fs) (.agg #[.int .i64 a, .int .i64 b]) (x :: es) 0 = none := by
      obtain ⟨c, e, hx⟩ := h x (by simp)
      simp [Instr.findNow, hx, Instr.sameNow]
    simp only [Instr.findKey, Sem.run_bind, run_underlying ht, Result.andThen_ok, hn]
    refine findAsking_run w _ 0 fun y hy => ?_
    obtain ⟨c, e, hy'⟩ := h y hy
    rw [hy']
    have := heq 9998 w c e
    simpa [Op.equal, Op.maxDepth, pairE, intE] using this

theorem ff_none {E : Value → Bool} : ∀ (es : List MapEntry) (i : Nat), (∀ e ∈ es, E e.key = false) → ff E es i = none
  | [], _, _ => rfl
  | e :: es, i, h => by simp [ff, h e (by simp), ff_none es (i + 1) (fun x hx => h x (by simp [hx]))]

theorem insert_run {P : Program} {t kt et : TypeId} (ht : P.underlying t = some (.map kt et)) {w : World} {b : Nat} {l : List (Value × Value)} (hm : MapAt w b l) {key val : Value} {E : Value → Bool} {ok : Value → Prop}
    (hf : Finds P kt key E ok) (hok : ∀ p ∈ l, ok p.1) (hne : ∀ p ∈ l, E p.1 = false) (hck : (Instr.checkKey false 10000 kt key).run P w = .ok () w) :
    ∃ w', (Instr.mapUpdate t (.map (some b)) key val).run P w = .ok () w' ∧ MapAt w' b (l ++ [(key, val)]) ∧ w.grownBy w' (some b) := by
  obtain ⟨es, clk, hb, rfl⟩ := hm
  have h1 : (Instr.findKey kt key es.toList).run P w = .ok none w := by
    rw [hf w es.toList (fun e he => hok (e.key, e.val) (List.mem_map.2 ⟨e, he, rfl⟩)), ff_none es.toList 0 (fun e he => hne (e.key, e.val) (List.mem_map.2 ⟨e, he, rfl⟩))]
  refine ⟨{ w with heap := w.heap.setIfInBounds b (.map (es.push { key, val := val, born := clk }) (clk + 1)) }, ?_, ⟨es.push { key, val := val, born := clk }, clk + 1, ?_, by simp⟩, ⟨rfl, rfl, rfl, by simp, fun k hk hkb => ?_⟩⟩
  · simp only [Instr.mapUpdate, Sem.run_bind, run_underlying ht, Result.andThen_ok, getMap_run hb, hck, h1, setMap_run _ hb]
  · have hlt := (Array.getElem?_eq_some_iff.1 hb).1
    simp [Array.getElem?_setIfInBounds, hlt]
  · have : b ≠ k := fun e => hkb (by rw [e])
    simp [Array.getElem?_setIfInBounds, this]

theorem lookup_run {P : Program} {t kt et : TypeId} (ht : P.underlying t = some (.map kt et)) {w : World} {b : Nat} {l : List (Value × Value)} (hm : MapAt w b l) {key : Value} {E : Value → Bool} {ok : Value → Prop}
    (hf : Finds P kt key E ok) (hok : ∀ p ∈ l, ok p.1) {z : Value} (hz : (zeroValue et).run P w = .ok z w) (hck : ∀ em, (Instr.checkKey em 10000 kt key).run P w = .ok () w)
    {v : Value} (hv : (∃ p ∈ l, E p.1 = true) → ∀ p ∈ l, E p.1 = true → p.2 = v) (hn : (∀ p ∈ l, E p.1 = false) → v = z) :
    (Instr.lookup t (.map (some b)) key false).run P w = .ok v w := by
  obtain ⟨es, clk, hb, rfl⟩ := hm
  have h1 := hf w es.toList (fun e he => hok (e.key, e.val) (List.mem_map.2 ⟨e, he, rfl⟩))
  have gen : ∀ (xs : List MapEntry) (i : Nat), (∃ e ∈ xs, E e.key = true) → ∃ j u, ff E xs i = some (j, u) ∧ ∃ e ∈ xs, E e.key = true ∧ e.val = u := by
    intro xs
    induction xs with
    | nil => rintro i ⟨e, he, _⟩; cases he
    | cons e xs ih =>
      rintro i ⟨e', he', hE⟩
      simp only [ff]
      cases hc : E e.key
      · rcases List.mem_cons.1 he' with rfl | he'
        · rw [hc] at hE; cases hE
        · obtain ⟨j, u, h2, e2, h3, h4⟩ := ih (i + 1) ⟨e', he', hE⟩
          exact ⟨j, u, by simpa using h2, e2, by simp [h3], h4⟩
      · exact ⟨i, e.val, by simp, e, by simp, hc, rfl⟩
  by_cases hex : ∃ e ∈ es.toList, E e.key = true
  · obtain ⟨j, u, h2, e, he, hE, hu⟩ := gen es.toList 0 hex
    have huv : u = v := by
      rw [← hu]
      exact hv ⟨(e.key, e.val), List.mem_map.2 ⟨e, he, rfl⟩, hE⟩ (e.key, e.val) (List.mem_map.2 ⟨e, he, rfl⟩) hE
    rw [h2] at h1
    simp only [Instr.lookup, Sem.run_bind, run_underlying ht, Result.andThen_ok, getMap_run hb]
    simp [hck es.isEmpty, h1, huv]
  · have hall : ∀ e ∈ es.toList, E e.key = false := by
      intro e he
      cases h : E e.key
      · rfl
      · exact absurd ⟨e, he, h⟩ hex
    have hz' := hn (fun p hp => by obtain ⟨e, he, rfl⟩ := List.mem_map.1 hp; exact hall e he)
    rw [ff_none es.toList 0 hall] at h1
    simp only [Instr.lookup, Sem.run_bind, run_underlying ht, Result.andThen_ok, getMap_run hb]
    simp [hck es.isEmpty, h1, hz, hz']

section
variable {P : Program} {ops : Array Oper} {Q : Exit → Act → World → Prop} {md : Region.Mode}
/-- an operation that touches no memory is done first. -/
theorem take1 (i : Nat) {N : Option Tmp} {oi : Oper} (v : Value) {fuel : Nat} {l : Array Bool} (l' : Array Bool) {a a' : Act} {w : World} (hi : ops[i]? = some oi) (hN : oi.dst = N)
    (hc : (Region.noSelect ops && Region.free md ops l i && (Region.ready md ops l).contains i && (l.setIfInBounds i true == l')) = true)
    (hQ : ∀ c a w, Q (.panic c) (a.put oi.dst v) w → Q (.panic c) a w) (hy : Yields P ops oi v a) (ha : a.put N v = a')
    (h : wpAny P md ops Q fuel l' a' w) : wpAny P md ops Q (fuel + 1) l a w := by
  subst ha
  subst hN
  simp only [Bool.and_eq_true, beq_iff_eq] at hc
  obtain ⟨⟨⟨h1, h2⟩, h3⟩, h6⟩ := hc
  subst h6
  exact wpAny_take hi h1 h2 h3 hQ hy h
/-- a move, an assignment. -/
theorem take_mv (i : Nat) (N : Tmp) (x : Operand) (v : Value) {fuel : Nat} {l : Array Bool} (l' : Array Bool) {a : Act} {w : World}
    (hi : (ops[i]?).map (fun o => (o.dst, o.guard)) = some (some N, none)) (hop : (ops[i]?).map (·.op) = some (Op.move x) ∨ (ops[i]?).map (·.op) = some (Op.assign x)) (hx : a.eval x = v)
    (hc : (Region.noSelect ops && Region.free md ops l i && (Region.ready md ops l).contains i && (l.setIfInBounds i true == l')) = true)
    (hQ : ∀ c a w, Q (.panic c) (a.put (some N) v) w → Q (.panic c) a w)
    (h : wpAny P md ops Q fuel l' (a.put (some N) v) w) : wpAny P md ops Q (fuel + 1) l a w := by
  cases ho : ops[i]? with
  | none => rw [ho] at hi; cases hi
  | some o =>
    rw [ho] at hi hop
    simp only [Option.map_some, Option.some.injEq, Prod.mk.injEq] at hi hop
    obtain ⟨h1, h3⟩ := hi
    refine take1 i v l' ho h1 hc (by rw [h1]; exact hQ) (Or.inl ⟨by simp [Region.wanted, h3], fun w' => ?_⟩) rfl h
    rcases hop with h2 | h2
    all_goals
      unfold execOp
      rw [h2, ← hx]
      rfl
/-- only one may come: it comes. -/
theorem evt1 (i : Nat) {fuel : Nat} {l : Array Bool} {a : Act} {w : World} (hr : Region.ready md ops l = [i])
    (h : wpOp P ops Q i (wpAny P md ops Q fuel (l.setIfInBounds i true)) a w) : wpAny P md ops Q (fuel + 1) l a w :=
  wpAny_all hr (by simp) (fun j hj => by obtain rfl := List.mem_singleton.1 hj; exact h)
theorem op_val {i : Nat} {oi : Oper} {a : Act} {w w' : World} {K : Act → World → Prop} {N : Option Tmp} (v : Value) (hi : ops[i]? = some oi) (hN : oi.dst = N) (hw : Region.wanted oi (yielded ops a.tmps) = true)
    (hr : (execOp a.eval oi).run P w = .ok (.value v) w') (h : K (a.put N v) w') : wpOp P ops Q i K a w := by
  subst hN
  unfold wpOp
  rw [hi]
  simp only [hw, if_true]
  refine Or.inl ?_
  unfold Oper.wp
  rw [hr]
  exact h
theorem op_skip {i : Nat} {oi : Oper} {a : Act} {w w' : World} {K : Act → World → Prop} (hi : ops[i]? = some oi) (hN : oi.dst = none) (hw : Region.wanted oi (yielded ops a.tmps) = true)
    (hr : (execOp a.eval oi).run P w = .ok .skip w') (h : K a w') : wpOp P ops Q i K a w := by
  unfold wpOp
  rw [hi]
  simp only [hw, if_true]
  refine Or.inl ?_
  unfold Oper.wp
  rw [hr]
  show K (a.put oi.dst undef) w'
  rw [hN]
  exact h
/-- an entry of a map's literal. -/
theorem op_insert {i : Nat} {a : Act} {w w' : World} {K : Act → World → Prop} (t : TypeId) (m k v : Operand) {vm vk vv : Value} (hi : (ops[i]?).map (fun o => (o.dst, o.op, o.guard)) = some (none, Op.insert t m k v, none))
    (hm : a.eval m = vm) (hk : a.eval k = vk) (hv : a.eval v = vv) (hr : (Instr.mapUpdate t vm vk vv).run P w = .ok () w') (h : K a w') : wpOp P ops Q i K a w := by
  cases ho : ops[i]? with
  | none => rw [ho] at hi; cases hi
  | some o =>
    rw [ho] at hi
    simp only [Option.map_some, Option.some.injEq, Prod.mk.injEq] at hi
    obtain ⟨h1, h2, h3⟩ := hi
    refine op_skip ho h1 (by simp [Region.wanted, h3]) ?_ h
    have : execOp a.eval o = (do Instr.mapUpdate t (a.eval m) (a.eval k) (a.eval v); pure Next.skip : Sem Next) := by
      unfold execOp; rw [h2]
    rw [this, hm, hk, hv, Sem.run_bind, hr]
    rfl
end
end Go.Proofs.YtalgfekpcklijaaGreat.Mp

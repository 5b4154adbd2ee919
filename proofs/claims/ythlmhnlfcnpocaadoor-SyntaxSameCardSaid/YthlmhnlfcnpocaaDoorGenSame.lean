/- What the comparisons answer, of any values and filters, and the laws that their walks want. -/
import Derived.Test.YthlmhnlfcnpocaaDoorGen
import Derived.Test.YthlmhnlfcnpocaaDoorRowAll
namespace Go.Proofs.YthlmhnlfcnpocaaDoor.U
open Go.RowKit Go.Proofs.YthlmhnlfcnpocaaDoorW.PrintWords
set_option linter.unusedSimpArgs false
set_option linter.unusedVariables false

mutual
/-- are two values alike, field by field? -/
def sameV : GV → GV → Bool
  | .mk k n t is ks, .mk k' n' t' is' ks' => decide (k = k') && decide (n = n') && decide (t = t') && decide (is.length = is'.length) && decide (ks = ks') && sameVL is is'
def sameVL : List GV → List GV → Bool
  | x :: l, y :: m => sameV x y && sameVL l m
  | [], [] => true
  | [], _ :: _ => false
  | _ :: _, [] => false
end
mutual
/-- are two filters alike, but for places? -/
def sameN : GN → GN → Bool
  | .mk op _ t v ns l, .mk op' _ t' v' ns' l' => decide (op = op') && decide (t = t') && decide (l.length = l'.length) && sameV v v' && decide (ns = ns') && sameNL l l'
def sameNL : List GN → List GN → Bool
  | x :: l, y :: m => sameN x y && sameNL l m
  | [], [] => true
  | [], _ :: _ => false
  | _ :: _, [] => false
end
theorem sameVL_all : ∀ (l m : List GV), l.length = m.length → (sameVL l m = true ↔ ∀ (j : Nat) (h : j < l.length) (h2 : j < m.length), sameV l[j] m[j] = true)
  | [], [], _ => ⟨fun _ j h => absurd h (Nat.not_lt_zero _), fun _ => by simp [sameVL]⟩
  | x :: l, y :: m, h => by
    have ih := sameVL_all l m (by simpa using h)
    rw [sameVL, Bool.and_eq_true, ih]
    constructor
    · rintro ⟨h1, h2⟩ j hj hj2
      match j with
      | 0 => exact h1
      | j + 1 => exact h2 j (Nat.lt_of_succ_lt_succ hj) (Nat.lt_of_succ_lt_succ hj2)
    · intro h
      exact ⟨h 0 (Nat.zero_lt_succ _) (Nat.zero_lt_succ _), fun j hj hj2 => h (j + 1) (Nat.succ_lt_succ hj) (Nat.succ_lt_succ hj2)⟩
theorem sameNL_all : ∀ (l m : List GN), l.length = m.length → (sameNL l m = true ↔ ∀ (j : Nat) (h : j < l.length) (h2 : j < m.length), sameN l[j] m[j] = true)
  | [], [], _ => ⟨fun _ j h => absurd h (Nat.not_lt_zero _), fun _ => by simp [sameNL]⟩
  | x :: l, y :: m, h => by
    have ih := sameNL_all l m (by simpa using h)
    rw [sameNL, Bool.and_eq_true, ih]
    constructor
    · rintro ⟨h1, h2⟩ j hj hj2
      match j with
      | 0 => exact h1
      | j + 1 => exact h2 j (Nat.lt_of_succ_lt_succ hj) (Nat.lt_of_succ_lt_succ hj2)
    · intro h
      exact ⟨h 0 (Nat.zero_lt_succ _) (Nat.zero_lt_succ _), fun j hj hj2 => h (j + 1) (Nat.succ_lt_succ hj) (Nat.succ_lt_succ hj2)⟩
theorem cell_aft {w w' : World} {q : Addr} {v : Value} (h : w.cell? q = some v) (hb : Below w.heap.size w w') : w'.cell? q = some v := (hb.cell (World.block_lt_of_cell? w q h)).trans h
theorem two_box {W w1 : World} {A B : Obj} (hb : Below ((W.alloc A).alloc B).heap.size ((W.alloc A).alloc B) w1) : Below W.heap.size W w1 ∧ w1.heap[W.heap.size]? = some A ∧ w1.heap[W.heap.size + 1]? = some B := by
  have z1 : (W.alloc A).heap.size = W.heap.size + 1 := by simp
  have z2 : ((W.alloc A).alloc B).heap.size = W.heap.size + 2 := by simp
  refine ⟨(Below.alloc (Below.alloc (Below.refl _ W) (Nat.le_refl _) _) (by omega) _).trans (hb.mono (by omega)), ?_, ?_⟩
  · rw [hb.block _ (by omega), Below.heap_alloc _ _ _ (by omega)]
    exact heap_alloc_new _ _
  · rw [hb.block _ (by omega), ← z1]
    exact heap_alloc_new _ _
theorem run_loadVar_any {P : Program} (w : World) (a : Addr) (ty : TypeId) (cs : List Value) (d : TypeDesc) (hc : ∀ j v, cs[j]? = some v → w.cell? (a.add j) = some v)
    (hu : P.underlying ty = some d) (hd : d.isRow = true) (hi : (P.info? ty).map (·.size) = some cs.length) : (loadVar ty a).run P w = .ok (.agg cs.toArray) w := by
  have hl : (loadCells a cs.length).run P w = .ok cs.toArray w := run_loadCells_list (P := P) w a cs hc
  cases hq : P.info? ty with
  | none => simp [hq] at hi
  | some i =>
    have hs : i.size = cs.length := by simpa [hq] using hi
    have hagg : (isAgg ty).run P w = .ok true w := by
      unfold isAgg
      rw [Sem.run_bind, run_underlying hu w]
      cases d <;> simp_all
    simp [loadVar, Sem.run_bind, hagg, sizeOf, typeInfo, hq, hs, hl]
/-- a struct is read, as one that may be taken first -/
theorem yl_any {ops : Array Oper} {o : Oper} {a : Act} {S : World → Prop} (ty : TypeId) (x : Operand) (ho : o.op = .load ty x) (hw : Region.wanted o (yielded ops a.tmps) = true) (hT : ∃ l, Tryd.prog.underlying ty = some (.struct l)) (p : Addr) (hx : a.eval x = .pointer (some p)) (cs : List Value) (hi : (Tryd.prog.info? ty).map (·.size) = some cs.length) (hg : ∀ w, S w → ∀ j v, cs[j]? = some v → w.cell? (p.add j) = some v) : YieldsIf Tryd.prog ops S o (.agg cs.toArray) a := by
  obtain ⟨l, hu⟩ := hT
  refine Or.inl ⟨hw, fun w hS => ?_⟩
  unfold execOp
  simp only [ho, hx, Instr.loadAt, Instr.sureAddr, Sem.run_bind, Sem.run_pure, Result.andThen_ok, run_loadVar_any w p ty cs _ (hg w hS) hu rfl hi]
theorem valU : ∃ l, Tryd.prog.underlying 25 = some (.struct l) := isStruct_some (by kernel_rfl)
theorem valZ : (Tryd.prog.info? 25).map (·.size) = some 5 := by kernel_rfl
theorem bytes_ne {x y : ByteArray} (h : x ≠ y) : (x.toList == y.toList) = false := by rw [bytes_beq]; exact decide_eq_false h
/-- the elements of a list, wherever it lies -/
theorem RSl.elem {W : World} {A : Option Addr} {n cap size : Nat} {xs : List Value} (h : RSl W (.slice A n cap) size n xs) (i : Nat) (hi : i < n) : ∃ x, A = some x ∧ ∀ m, m < size → W.cell? (x.add (i * size + m)) = xs[i * size + m]? := by
  obtain ⟨A', cap', e, _, _, h0 | ⟨x, h1, h2, h3⟩⟩ := h
  · omega
  · injection e with e _ _
    subst e
    refine ⟨x, h1, fun m hm => h3 _ ?_⟩
    have : (i + 1) * size ≤ n * size := Nat.mul_le_mul_right _ hi
    rw [Nat.succ_mul] at this
    omega
theorem RVL.get {W : World} : ∀ {cs : List (List Value)} {l : List GV}, RVL W cs l → ∀ (j : Nat) (hj : j < l.length), ∃ (hc : j < cs.length), RV W cs[j] l[j]
  | _, _, .cons h1 h2, 0, _ => ⟨Nat.zero_lt_succ _, h1⟩
  | _, _, .cons h1 h2, j + 1, hj => by
    obtain ⟨hc, h⟩ := RVL.get h2 j (Nat.lt_of_succ_lt_succ hj)
    exact ⟨Nat.succ_lt_succ hc, h⟩
theorem RVL.lens {W : World} : ∀ {cs : List (List Value)} {l : List GV}, RVL W cs l → ∀ c ∈ cs, c.length = 5
  | _, _, .nil, c, hc => absurd hc List.not_mem_nil
  | _, _, .cons h1 h2, c, hc => by
    rcases List.mem_cons.1 hc with rfl | hc
    · exact h1.len
    · exact RVL.lens h2 c hc
theorem RNL.get {W : World} : ∀ {cs : List (List Value)} {l : List GN}, RNL W cs l → ∀ (j : Nat) (hj : j < l.length), ∃ (hc : j < cs.length), RN W cs[j] l[j]
  | _, _, .cons h1 h2, 0, _ => ⟨Nat.zero_lt_succ _, h1⟩
  | _, _, .cons h1 h2, j + 1, hj => by
    obtain ⟨hc, h⟩ := RNL.get h2 j (Nat.lt_of_succ_lt_succ hj)
    exact ⟨Nat.succ_lt_succ hc, h⟩
theorem RNL.lens {W : World} : ∀ {cs : List (List Value)} {l : List GN}, RNL W cs l → ∀ c ∈ cs, c.length = 10
  | _, _, .nil, c, hc => absurd hc List.not_mem_nil
  | _, _, .cons h1 h2, c, hc => by
    rcases List.mem_cons.1 hc with rfl | hc
    · exact h1.len
    · exact RNL.lens h2 c hc
/-! what was read stays behind a call -/
theorem RSl.move {W W' : World} {v : Value} {size n : Nat} {xs : List Value} (h : RSl W v size n xs) (hb : Below W.heap.size W W') : RSl W' v size n xs := by
  obtain ⟨A, cap, e, h1, h2, h3⟩ := h
  refine ⟨A, cap, e, h1, h2, ?_⟩
  rcases h3 with h3 | ⟨x, e2, hx, h3⟩
  · exact Or.inl h3
  · refine Or.inr ⟨x, e2, Nat.lt_of_lt_of_le hx hb.size, fun i hi => ?_⟩
    rw [← h3 i hi]
    exact hb.cell (by unfold Addr.add; split <;> exact hx)
mutual
theorem RV.move {W W' : World} {c : List Value} {v : GV} (h : RV W c v) (hb : Below W.heap.size W W') : RV W' c v := by
  match h with
  | .mk h1 h2 h3 => exact .mk (h1.move hb) (RVL.move h2 hb) (h3.move hb)
theorem RVL.move {W W' : World} {c : List (List Value)} {v : List GV} (h : RVL W c v) (hb : Below W.heap.size W W') : RVL W' c v := by
  match h with
  | .nil => exact .nil
  | .cons h1 h2 => exact .cons (RV.move h1 hb) (RVL.move h2 hb)
end
mutual
theorem RN.move {W W' : World} {c : List Value} {v : GN} (h : RN W c v) (hb : Below W.heap.size W W') : RN W' c v := by
  match h with
  | .mk h0 h1 h2 h3 => exact .mk (h0.move hb) (h1.move hb) (h2.move hb) (RNL.move h3 hb)
theorem RNL.move {W W' : World} {c : List (List Value)} {v : List GN} (h : RNL W c v) (hb : Below W.heap.size W W') : RNL W' c v := by
  match h with
  | .nil => exact .nil
  | .cons h1 h2 => exact .cons (RN.move h1 hb) (RNL.move h2 hb)
end
end Go.Proofs.YthlmhnlfcnpocaaDoor.U

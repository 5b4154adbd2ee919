/- Any value and any filter, as they lie in memory that was handed in: off a row's data. -/
import Derived.Test.YthlmhnlfcnpocaaDoorRowAll
import Derived.ChangeArms
import Derived.DataReads
import Derived.DataElems
namespace Go.Proofs.YthlmhnlfcnpocaaDoor.U
open Go.RowKit Go.Proofs.YthlmhnlfcnpocaaDoorW.PrintWords
set_option linter.unusedSimpArgs false
set_option linter.unusedVariables false

/-- any value -/
inductive GV where
  | mk (kind : Int) (num text : ByteArray) (items : List GV) (keys : List ByteArray)
/-- any filter -/
inductive GN where
  | mk (op at_ : Int) (text : ByteArray) (val : GV) (names : List ByteArray) (kids : List GN)

/-- a list that lies in memory: so many elements of so many cells -/
def RSl (W : World) (v : Value) (size n : Nat) (xs : List Value) : Prop :=
  ∃ A cap, v = .slice A n cap ∧ n ≤ 9223372036854775807 ∧ xs.length = n * size ∧ (n = 0 ∨ ∃ x, A = some x ∧ x.block < W.heap.size ∧ ∀ i, i < n * size → W.cell? (x.add i) = xs[i]?)
mutual
/-- cells that say a value -/
inductive RV (W : World) : List Value → GV → Prop
  | mk {k : Int} {num text : ByteArray} {vi vk : Value} {items : List GV} {keys : List ByteArray} {css : List (List Value)} : RSl W vi 5 items.length css.flatten → RVL W css items → RSl W vk 1 keys.length (strs keys) →
      RV W [.int .i64 k, .string num, .string text, vi, vk] (.mk k num text items keys)
inductive RVL (W : World) : List (List Value) → List GV → Prop
  | nil : RVL W [] []
  | cons {c : List Value} {v : GV} {cs : List (List Value)} {l : List GV} : RV W c v → RVL W cs l → RVL W (c :: cs) (v :: l)
end
mutual
/-- cells that say a filter -/
inductive RN (W : World) : List Value → GN → Prop
  | mk {op a : Int} {t : ByteArray} {cv : List Value} {val : GV} {vn vk : Value} {names : List ByteArray} {kids : List GN} {css : List (List Value)} : RV W cv val → RSl W vn 1 names.length (strs names) → RSl W vk 10 kids.length css.flatten → RNL W css kids →
      RN W ([.int .i64 op, .int .i64 a, .string t] ++ (cv ++ [vn, vk])) (.mk op a t val names kids)
inductive RNL (W : World) : List (List Value) → List GN → Prop
  | nil : RNL W [] []
  | cons {c : List Value} {v : GN} {cs : List (List Value)} {l : List GN} : RN W c v → RNL W cs l → RNL W (c :: cs) (v :: l)
end
theorem RV.len {W : World} {c : List Value} {v : GV} (h : RV W c v) : c.length = 5 := by
  cases h
  rfl
theorem RN.len {W : World} {c : List Value} {v : GN} (h : RN W c v) : c.length = 10 := by
  cases h with
  | mk h1 _ _ _ =>
    have := h1.len
    simp
    omega
theorem RVL.of_list {W : World} : ∀ (l : List (List Value × GV)), (∀ x ∈ l, RV W x.1 x.2) → RVL W (l.map (·.1)) (l.map (·.2))
  | [], _ => .nil
  | x :: l, h => .cons (h x (List.mem_cons_self ..)) (RVL.of_list l fun y hy => h y (List.mem_cons_of_mem _ hy))
theorem RNL.of_list {W : World} : ∀ (l : List (List Value × GN)), (∀ x ∈ l, RN W x.1 x.2) → RNL W (l.map (·.1)) (l.map (·.2))
  | [], _ => .nil
  | x :: l, h => .cons (h x (List.mem_cons_self ..)) (RNL.of_list l fun y hy => h y (List.mem_cons_of_mem _ hy))

theorem choose_list {α : Type} {P : Nat → α → Prop} : ∀ n, (∀ i, i < n → ∃ a, P i a) → ∃ l : List α, l.length = n ∧ ∀ i (h : i < l.length), P i l[i]
  | 0, _ => ⟨[], rfl, fun i h => absurd h (Nat.not_lt_zero _)⟩
  | n + 1, h => by
    obtain ⟨l, hl, hp⟩ := choose_list n fun i hi => h i (Nat.lt_succ_of_lt hi)
    obtain ⟨a, ha⟩ := h n (Nat.lt_succ_self n)
    refine ⟨l ++ [a], by simp [hl], fun i hi => ?_⟩
    by_cases c : i < l.length
    · rw [List.getElem_append_left c]
      exact hp i c
    · have e : i = l.length := by simp at hi; omega
      subst e
      simpa [hl] using ha
theorem flatten_get : ∀ (css : List (List Value)) (size : Nat), (∀ c ∈ css, c.length = size) → ∀ (j : Nat) (hj : j < css.length) (m : Nat), m < size → css.flatten[j * size + m]? = css[j][m]?
  | [], _, _, j, hj, _, _ => absurd hj (Nat.not_lt_zero _)
  | c :: css, size, h, 0, _, m, hm => by
    have hc := h c (List.mem_cons_self ..)
    rw [Nat.zero_mul, Nat.zero_add, List.flatten_cons, List.getElem?_append_left (by omega)]
    rfl
  | c :: css, size, h, j + 1, hj, m, hm => by
    have hc := h c (List.mem_cons_self ..)
    have e : (j + 1) * size + m = c.length + (j * size + m) := by rw [hc, Nat.succ_mul]; omega
    rw [e, List.flatten_cons, List.getElem?_append_right (by omega), Nat.add_sub_cancel_left]
    exact flatten_get css size (fun c hc => h c (List.mem_cons_of_mem _ hc)) j (Nat.lt_of_succ_lt_succ hj) m hm
theorem flatten_len : ∀ (css : List (List Value)) (size : Nat), (∀ c ∈ css, c.length = size) → css.flatten.length = css.length * size
  | [], _, _ => by simp
  | c :: css, size, h => by
    rw [List.flatten_cons, List.length_append, h c (List.mem_cons_self ..), flatten_len css size (fun c hc => h c (List.mem_cons_of_mem _ hc)), List.length_cons, Nat.succ_mul]
    omega

section
variable {H : Type} {enc : TypeId × Value → H} {W : World} {sp : Nat → Bool} {held : Bool}
/-- a list read as data, whose elements read so -/
theorem sl_of_trod {α : Type} {base fuel : Nat} {t e : TypeId} {cs : List Value} {x : DataW H × List MemPlace} {size : Nat} (ht : Tryd.prog.underlying t = some (.slice e)) (hce : Tryd.prog.cellsOf e = size) (hs : 0 < size) {R : List Value → α → Prop}
    (hR : ∀ n, n < fuel → ∀ (cs : List Value) (y : DataW H × List MemPlace), DataW.trod enc Tryd.prog W base sp held n e cs = some y → ∃ a, R cs a)
    (h : DataW.trod enc Tryd.prog W base sp held fuel t cs = some x) : ∃ (v : Value) (l : List (List Value × α)), cs = [v] ∧ (∀ y ∈ l, R y.1 y.2 ∧ y.1.length = size) ∧ RSl W v size l.length (l.map (·.1)).flatten := by
  rcases DataW.trod_slice ht h with ⟨rfl, _⟩ | ⟨a, len, cap, elems, rest, n, rfl, rfl, _, _, hlc, hcm, hel, hget, _, _⟩
  · exact ⟨_, [], rfl, fun y hy => absurd hy List.not_mem_nil, none, 0, rfl, Nat.zero_le _, by simp, Or.inl rfl⟩
  · obtain ⟨l, hl, hp⟩ := choose_list (P := fun i (y : List Value × α) => W.cells? base (a.add (i * size)) size = some y.1 ∧ R y.1 y.2) len (fun i hi => by
      have h1 := hget i hi
      rw [hce, List.getElem?_eq_getElem (by omega), Option.bind_eq_some_iff] at h1
      obtain ⟨c, hc, ht⟩ := h1
      obtain ⟨r, hr⟩ := hR n (Nat.lt_succ_self n) c _ ht
      exact ⟨(c, r), hc, hr⟩)
    have hlen : ∀ y ∈ l, R y.1 y.2 ∧ y.1.length = size := fun y hy => by
      obtain ⟨i, hi, rfl⟩ := List.getElem_of_mem hy
      exact ⟨(hp i hi).2, (World.cells?_some (hp i hi).1).2.1⟩
    refine ⟨_, l, rfl, hlen, some a, cap, by rw [hl], ?_, ?_, ?_⟩
    · rw [hl]
      unfold maxLen at hcm
      omega
    · rw [flatten_len _ size (fun c hc => by obtain ⟨y, hy, rfl⟩ := List.mem_map.1 hc; exact (hlen y hy).2), List.length_map]
    · by_cases h0 : len = 0
      · exact Or.inl (by omega)
      · right
        refine ⟨a, rfl, ?_, fun i hi => ?_⟩
        · have := World.cells?_block (hp 0 (by omega)).1 hs
          have e : (a.add (0 * size)).block = a.block := by unfold Addr.add; split <;> rfl
          rwa [e] at this
        · obtain ⟨j, m, hm, rfl⟩ : ∃ j m, m < size ∧ i = j * size + m := ⟨i / size, i % size, Nat.mod_lt _ hs, by rw [Nat.mul_comm]; exact (Nat.div_add_mod i size).symm⟩
          have hj : j < l.length := by
            apply Classical.byContradiction
            intro hn
            have : l.length * size ≤ j * size := Nat.mul_le_mul_right _ (by omega)
            omega
          have h1 := hp j hj
          have h2 := (World.cells?_some h1.1)
          rw [flatten_get _ size (fun c hc => by obtain ⟨y, hy, rfl⟩ := List.mem_map.1 hc; exact (hlen y hy).2) j (by simpa using hj) m hm, List.getElem_map, ← Addr.add_add]
          exact h2.2.2 m hm
theorem strs_of_trod {base fuel : Nat} {cs : List Value} {x : DataW H × List MemPlace} (h : DataW.trod enc Tryd.prog W base sp held fuel 23 cs = some x) : ∃ (v : Value) (l : List ByteArray), cs = [v] ∧ RSl W v 1 l.length (strs l) := by
  obtain ⟨v, l, rfl, hl, hs⟩ := sl_of_trod (size := 1) (e := 9) (R := fun cs (s : ByteArray) => cs = [.string s]) (by kernel_rfl) (by kernel_rfl) (by decide) (fun n _ cs y hy => by
    obtain ⟨s, hs, _⟩ := DataW.trod_string (by kernel_rfl) hy
    exact ⟨s, hs⟩) h
  refine ⟨v, l.map (·.2), rfl, ?_⟩
  have e : (l.map (·.1)).flatten = strs (l.map (·.2)) := by
    clear hs h
    induction l with
    | nil => rfl
    | cons y l ih =>
      have := (hl y (List.mem_cons_self ..)).1
      simp only [List.map_cons, List.flatten_cons, strs] at ih ⊢
      rw [this, ih fun z hz => hl z (List.mem_cons_of_mem _ hz)]
      rfl
  rwa [e, ← List.length_map (f := (·.2))] at hs
/-- the fields of a struct, each by its type and its place -/
theorem fields_of {base fuel : Nat} {t : TypeId} {cs : List Value} {x : DataW H × List MemPlace} {fs : Array Field} (ht : Tryd.prog.underlying t = some (.struct fs)) (h : DataW.trod enc Tryd.prog W base sp held fuel t cs = some x) :
    ∃ n, n < fuel ∧ cs.length = Tryd.prog.cellsOf t ∧ ∀ (i u o : Nat), fs[i]?.map (fun f => (f.type, f.offset)) = some (u, o) → ∃ y, DataW.trod enc Tryd.prog W base sp held n u ((cs.drop o).take (Tryd.prog.cellsOf u)) = some y := by
  obtain ⟨xs, n, rfl, hx, hl, hxl, hall⟩ := DataW.trod_struct ht h
  refine ⟨n, Nat.lt_succ_self n, hl, fun i u o hi => ?_⟩
  obtain ⟨f, hf, he⟩ := Option.map_eq_some_iff.1 hi
  injection he with e1 e2
  subst e1 e2
  have hi2 : i < xs.length := by
    have := (Array.getElem?_eq_some_iff.1 hf).1
    omega
  exact ⟨xs[i], (hall i f hf).trans (List.getElem?_eq_getElem hi2)⟩
theorem take_drop_one {cs : List Value} {i : Nat} {v : Value} (h : (cs.drop i).take 1 = [v]) : cs[i]? = some v := by
  have := congrArg (·[0]?) h
  simpa [List.getElem?_take, List.getElem?_drop] using this
noncomputable def fieldsOf (t : TypeId) : Array Field := match Tryd.prog.underlying t with | some (.struct fs) => fs | _ => #[]
theorem value_fields : Tryd.prog.underlying 25 = some (.struct (fieldsOf 25)) ∧ ((fieldsOf 25).toList.map fun f => (f.type, f.offset)) = [(3, 0), (9, 1), (9, 2), (22, 3), (23, 4)] := ⟨by kernel_rfl, by kernel_rfl⟩
theorem node_fields : Tryd.prog.underlying 28 = some (.struct (fieldsOf 28)) ∧ ((fieldsOf 28).toList.map fun f => (f.type, f.offset)) = [(3, 0), (3, 1), (9, 2), (25, 3), (23, 8), (26, 9)] := ⟨by kernel_rfl, by kernel_rfl⟩
theorem field_at {t : TypeId} {l : List (TypeId × Nat)} (h : ((fieldsOf t).toList.map fun f => (f.type, f.offset)) = l) (i u o : Nat) (hi : l[i]? = some (u, o)) : (fieldsOf t)[i]?.map (fun f => (f.type, f.offset)) = some (u, o) := by
  rw [← h, List.getElem?_map, Array.getElem?_toList] at hi
  exact hi
theorem rv_of_trod {base : Nat} : ∀ (fuel : Nat) (cs : List Value) (x : DataW H × List MemPlace), DataW.trod enc Tryd.prog W base sp held fuel 25 cs = some x → ∃ g, RV W cs g := by
  intro fuel
  induction fuel using Nat.strongRecOn with
  | ind fuel ih =>
    intro cs x h
    obtain ⟨n, hn, hl, hf⟩ := fields_of value_fields.1 h
    have g := fun i u o hi => hf i u o (field_at value_fields.2 i u o hi)
    have ci : Tryd.prog.cellsOf 3 = 1 := by kernel_rfl
    have cs1 : Tryd.prog.cellsOf 9 = 1 := by kernel_rfl
    have cv : Tryd.prog.cellsOf 22 = 1 := by kernel_rfl
    have ck : Tryd.prog.cellsOf 23 = 1 := by kernel_rfl
    have c5 : Tryd.prog.cellsOf 25 = 5 := by kernel_rfl
    obtain ⟨y0, g0⟩ := g 0 _ _ rfl
    obtain ⟨y1, g1⟩ := g 1 _ _ rfl
    obtain ⟨y2, g2⟩ := g 2 _ _ rfl
    obtain ⟨y3, g3⟩ := g 3 _ _ rfl
    obtain ⟨y4, g4⟩ := g 4 _ _ rfl
    rw [ci] at g0
    rw [cs1] at g1 g2
    rw [cv] at g3
    rw [ck] at g4
    obtain ⟨k, e0, _, _⟩ := DataW.trod_int (k := .i64) (by kernel_rfl) g0
    obtain ⟨s1, e1, _⟩ := DataW.trod_string (by kernel_rfl) g1
    obtain ⟨s2, e2, _⟩ := DataW.trod_string (by kernel_rfl) g2
    obtain ⟨v3, l3, e3, hl3, hs3⟩ := sl_of_trod (size := 5) (e := 25) (R := fun cs g => RV W cs g) (by kernel_rfl) c5 (by decide) (fun m hm cs y hy => ih m (by omega) cs y hy) g3
    obtain ⟨v4, l4, e4, hs4⟩ := strs_of_trod g4
    have d0 := take_drop_one e0
    have d1 := take_drop_one e1
    have d2 := take_drop_one e2
    have d3 := take_drop_one e3
    have d4 := take_drop_one e4
    rw [c5] at hl
    refine ⟨.mk k s1 s2 (l3.map (·.2)) l4, ?_⟩
    have hcs : cs = [.int .i64 k, .string s1, .string s2, v3, v4] := by
      apply List.ext_getElem?
      intro i
      match i with
      | 0 => exact d0
      | 1 => exact d1
      | 2 => exact d2
      | 3 => exact d3
      | 4 => exact d4
      | i + 5 => rw [List.getElem?_eq_none (by omega), List.getElem?_eq_none (by simp)]
    rw [hcs]
    exact .mk (by rw [List.length_map]; exact hs3) (RVL.of_list l3 fun y hy => (hl3 y hy).1) hs4
theorem rn_of_trod {base : Nat} : ∀ (fuel : Nat) (cs : List Value) (x : DataW H × List MemPlace), DataW.trod enc Tryd.prog W base sp held fuel 28 cs = some x → ∃ g, RN W cs g := by
  intro fuel
  induction fuel using Nat.strongRecOn with
  | ind fuel ih =>
    intro cs x h
    obtain ⟨n, hn, hl, hf⟩ := fields_of node_fields.1 h
    have g := fun i u o hi => hf i u o (field_at node_fields.2 i u o hi)
    have ci : Tryd.prog.cellsOf 3 = 1 := by kernel_rfl
    have cs1 : Tryd.prog.cellsOf 9 = 1 := by kernel_rfl
    have cv : Tryd.prog.cellsOf 26 = 1 := by kernel_rfl
    have ck : Tryd.prog.cellsOf 23 = 1 := by kernel_rfl
    have c5 : Tryd.prog.cellsOf 25 = 5 := by kernel_rfl
    have c10 : Tryd.prog.cellsOf 28 = 10 := by kernel_rfl
    obtain ⟨y0, g0⟩ := g 0 _ _ rfl
    obtain ⟨y1, g1⟩ := g 1 _ _ rfl
    obtain ⟨y2, g2⟩ := g 2 _ _ rfl
    obtain ⟨y3, g3⟩ := g 3 _ _ rfl
    obtain ⟨y4, g4⟩ := g 4 _ _ rfl
    obtain ⟨y5, g5⟩ := g 5 _ _ rfl
    rw [ci] at g0 g1
    rw [cs1] at g2
    rw [c5] at g3
    rw [ck] at g4
    rw [cv] at g5
    obtain ⟨k, e0, _, _⟩ := DataW.trod_int (k := .i64) (by kernel_rfl) g0
    obtain ⟨a, e1, _, _⟩ := DataW.trod_int (k := .i64) (by kernel_rfl) g1
    obtain ⟨s2, e2, _⟩ := DataW.trod_string (by kernel_rfl) g2
    obtain ⟨val, e3⟩ := rv_of_trod _ _ _ g3
    obtain ⟨v4, l4, e4, hs4⟩ := strs_of_trod g4
    obtain ⟨v5, l5, e5, hl5, hs5⟩ := sl_of_trod (size := 10) (e := 28) (R := fun cs g => RN W cs g) (by kernel_rfl) c10 (by decide) (fun m hm cs y hy => ih m (by omega) cs y hy) g5
    have d0 := take_drop_one e0
    have d1 := take_drop_one e1
    have d2 := take_drop_one e2
    have d4 := take_drop_one e4
    have d5 := take_drop_one e5
    rw [c10] at hl
    refine ⟨.mk k a s2 val l4 (l5.map (·.2)), ?_⟩
    have hcs : cs = [.int .i64 k, .int .i64 a, .string s2] ++ ((cs.drop 3).take 5 ++ [v4, v5]) := by
      apply List.ext_getElem?
      intro i
      match i with
      | 0 => exact d0
      | 1 => exact d1
      | 2 => exact d2
      | 3 => simp [List.getElem?_append, List.getElem?_take, List.getElem?_drop, hl]
      | 4 => simp [List.getElem?_append, List.getElem?_take, List.getElem?_drop, hl]
      | 5 => simp [List.getElem?_append, List.getElem?_take, List.getElem?_drop, hl]
      | 6 => simp [List.getElem?_append, List.getElem?_take, List.getElem?_drop, hl]
      | 7 => simp [List.getElem?_append, List.getElem?_take, List.getElem?_drop, hl]
      | 8 => rw [d4]; simp [List.getElem?_append, hl]
      | 9 => rw [d5]; simp [List.getElem?_append, hl]
      | i + 10 => rw [List.getElem?_eq_none (by omega), List.getElem?_eq_none (by simp; omega)]
    rw [hcs]
    exact .mk e3 hs4 (by rw [List.length_map]; exact hs5) (RNL.of_list l5 fun y hy => (hl5 y hy).1)
end
end Go.Proofs.YthlmhnlfcnpocaaDoor.U

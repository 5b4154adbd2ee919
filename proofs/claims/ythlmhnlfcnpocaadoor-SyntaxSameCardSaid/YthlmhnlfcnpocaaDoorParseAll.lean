/- The statements' own 'works': two calls of Parse whose answers are known. -/
import Derived.Test.YthlmhnlfcnpocaaDoorScanC
import Derived.Test.YthlmhnlfcnpocaaDoorSynAll
import Derived.Test.YthlmhnlfcnpocaaDoorRowAll
import Derived.Test.YthlmhnlfcnpocaaDoorW4
import Derived.Deep.MidRow
namespace Go.Proofs.YthlmhnlfcnpocaaDoor.U

def parseZ (s : ByteArray) : SN × Int × Int := if (scanR s).2.1 = 0 then restZ (scanR s).1 (s.size : Int) else (.zero, (scanR s).2.1, (scanR s).2.2)

end Go.Proofs.YthlmhnlfcnpocaaDoor.U

namespace Go.Proofs.YthlmhnlfcnpocaaDoor.U
open Go.RowKit Go.Proofs.YthlmhnlfcnpocaaDoorW.PrintWords
set_option linter.unusedSimpArgs false
set_option linter.unusedVariables false

theorem rest_err {ws : List Tok} {en : Int} {e : Int × Int} (h : goZ ws en (4 * ws.length + 8) .pipe 0 0 = some (.error e)) : restZ ws en = (.zero, e.1, e.2) := by
  unfold restZ; rw [h]
theorem rest_ok {ws : List Tok} {en : Int} {n : SN} {j : Nat} {o : Int} (h : goZ ws en (4 * ws.length + 8) .pipe 0 0 = some (.ok (n, j, o))) : restZ ws en = if kindZ ws j = 0 then (n, 0, 0) else (.zero, if j < ws.length then 171 else 170, placeZ ws en j) := by
  unfold restZ; rw [h]
theorem nd_zero (F : Nat → Prop) (w : World) : Nd F w zeroN .zero :=
  .mk ⟨rfl, Or.inl ⟨rfl, rfl⟩⟩ (fun k hk => by simp [Value.ownBlock] at hk) (vs := []) ⟨rfl, Or.inl ⟨rfl, rfl⟩⟩ (fun k hk => by simp [Value.ownBlock] at hk) .nil
theorem own_base0 {w : World} {b : Nat} {e : TypeId} {s m : Nat} {v : Value} {xs : List Value} (h : w.ownsRow b e s v m xs) : w.ownsRow 0 e s v m xs := by
  refine ⟨h.1, ?_⟩
  rcases h.2 with h1 | ⟨g, cap, cur, h1, h2, h3⟩
  · exact Or.inl h1
  · exact Or.inr ⟨g, cap, cur, h1, Nat.zero_le _, h3⟩
/-- how Parse ends: a filter that lies in new memory, the error and its place -/
def ParseEnd (s : ByteArray) (W : World) (e : Ending) (w' : World) : Prop :=
  ∃ c, e = .returned (.tuple #[.agg c, .int .i64 (parseZ s).2.1, .int .i64 (parseZ s).2.2]) ∧ Nd (W.heap.size ≤ ·) w' c (parseZ s).1 ∧ Below W.heap.size W w'
/-- the three named results, as they are read at the end -/
theorem results_parse (tmps : Array Value) (w : World) (bn be ba : Nat) (cs : Array Value) (x y : Int) (h2 : tmps.getD 2 undef = .pointer (some ⟨bn, 0, none⟩)) (h3 : tmps.getD 3 undef = .pointer (some ⟨be, 0, none⟩)) (h4 : tmps.getD 4 undef = .pointer (some ⟨ba, 0, none⟩))
    (hn : w.heap[bn]? = some (.cells cs 28 (0, 0))) (hs : cs.size = 10) (he : w.cell? ⟨be, 0, none⟩ = some (.int .i64 x)) (ha : w.cell? ⟨ba, 0, none⟩ = some (.int .i64 y)) :
    (results Tryd.f6 tmps).run Tryd.prog w = .ok (.tuple #[.agg cs, .int .i64 x, .int .i64 y]) w := by
  have hr : Tryd.f6.results = #[.cell 2 28, .cell 3 29, .cell 4 3] := rfl
  obtain ⟨l, hu⟩ := nodeU
  have r1 := run_loadVar_row (P := Tryd.prog) w bn 28 28 cs (0, 0) _ hn hu rfl (by rw [nodeZ, hs])
  have r2 := run_loadVar_cell (P := Tryd.prog) 29 (by kernel_rfl) ⟨be, 0, none⟩ _ w he
  have r3 := run_loadVar_cell (P := Tryd.prog) 3 (by kernel_rfl) ⟨ba, 0, none⟩ _ w ha
  have h2' : tmps[2]?.getD undef = .pointer (some ⟨bn, 0, none⟩) := by simpa using h2
  have h3' : tmps[3]?.getD undef = .pointer (some ⟨be, 0, none⟩) := by simpa using h3
  have h4' : tmps[4]?.getD undef = .pointer (some ⟨ba, 0, none⟩) := by simpa using h4
  simp [results, hr, h2', h3', h4', asAddr, r1, r2, r3]
theorem three {W w1 : World} {A B C : Obj} (hb : Below (((W.alloc A).alloc B).alloc C).heap.size (((W.alloc A).alloc B).alloc C) w1) :
    Below W.heap.size W w1 ∧ w1.heap[W.heap.size]? = some A ∧ w1.heap[W.heap.size + 1]? = some B ∧ w1.heap[W.heap.size + 1 + 1]? = some C ∧ W.heap.size + 3 ≤ w1.heap.size ∧ (((W.alloc A).alloc B).alloc C).heap.size = W.heap.size + 3 := by
  have z1 : (W.alloc A).heap.size = W.heap.size + 1 := by simp
  have z2 : ((W.alloc A).alloc B).heap.size = W.heap.size + 1 + 1 := by simp
  have z3 : (((W.alloc A).alloc B).alloc C).heap.size = W.heap.size + 3 := by simp
  have hA : Below W.heap.size W (((W.alloc A).alloc B).alloc C) := (((Below.refl _ W).alloc (Nat.le_refl _) _).alloc (by omega) _).alloc (by omega) _
  refine ⟨hA.trans (hb.mono (by omega)), ?_, ?_, ?_, ?_, z3⟩
  · rw [hb.block _ (by omega), Below.heap_alloc _ _ _ (by omega), Below.heap_alloc _ _ _ (by omega)]
    exact heap_alloc_new _ _
  · rw [hb.block _ (by omega), Below.heap_alloc _ _ _ (by omega), ← z1]
    exact heap_alloc_new _ _
  · rw [hb.block _ (by omega), ← z2]
    exact heap_alloc_new _ _
  · have := hb.size
    omega
/-- what Parse has when it begins to read: the parser, and its three results -/
theorem parse_st {W w1 w3 : World} {v0 : Value} {ws : List Tok} {en er pl : Int} (hW1 : Below W.heap.size W w1) (H0 : w1.heap[W.heap.size]? = some (.cells zeroN 28 (0, 0))) (H1 : w1.heap[W.heap.size + 1]? = some (.cells #[.int .i64 0] 29 (0, 0))) (H2 : w1.heap[W.heap.size + 1 + 1]? = some (.cells #[.int .i64 0] 3 (0, 0)))
    (hz1 : W.heap.size + 3 ≤ w1.heap.size) (HO : w1.ownsRow (W.heap.size + 3) 60 4 v0 ws.length (toksCells ws)) (HB : BinAt W) (hlen : ws.length ≤ 1073741824) (hsiz : ∀ j, (saidZ ws j).size ≤ 1152921504606846976)
    (hw3 : w3 = (w1.setCell ⟨W.heap.size + 1, 0, none⟩ (.int .i64 er)).setCell ⟨W.heap.size + 1 + 1, 0, none⟩ (.int .i64 pl)) :
    St w1.heap.size v0 ws en (w3.alloc (.cells (rwCells v0 0 en 0) 44 (0, 0))) (fun k => k = w1.heap.size ∨ k = W.heap.size ∨ k = W.heap.size + 1 ∨ k = W.heap.size + 1 + 1) ((w3.alloc (.cells (rwCells v0 0 en 0) 44 (0, 0))).heap.size ≤ ·)
      [(W.heap.size, 28, zeroN), (W.heap.size + 1, 29, #[.int .i64 er]), (W.heap.size + 1 + 1, 3, #[.int .i64 pl])] [] 0 0 (w3.alloc (.cells (rwCells v0 0 en 0) 44 (0, 0))) := by
  have hs3 : w3.heap.size = w1.heap.size := by rw [hw3]; simp [World.setCell]
  have hother : ∀ k, k ≠ W.heap.size + 1 → k ≠ W.heap.size + 1 + 1 → w3.heap[k]? = w1.heap[k]? := fun k h1 h2 => by rw [hw3, Below.heap_setCell _ _ _ _ h2, Below.heap_setCell _ _ _ _ h1]
  have b0 : w3.heap[W.heap.size]? = some (.cells zeroN 28 (0, 0)) := (hother _ (by omega) (by omega)).trans H0
  have b1 : w3.heap[W.heap.size + 1]? = some (.cells #[.int .i64 er] 29 (0, 0)) := by
    rw [hw3, Below.heap_setCell _ _ _ _ (by simp)]
    exact heap_setCell_same w1 _ 0 _ _ _ H1
  have b2 : w3.heap[W.heap.size + 1 + 1]? = some (.cells #[.int .i64 pl] 3 (0, 0)) := by
    rw [hw3]
    exact heap_setCell_same _ _ 0 _ _ _ ((Below.heap_setCell _ _ _ _ (by simp)).trans H2)
  have hown : ∀ k, v0.ownBlock = some k → W.heap.size + 3 ≤ k ∧ k < w1.heap.size := fun k hk => HO.lt k hk
  have hown3 : w3.ownsRow 0 60 4 v0 ws.length (toksCells ws) := own_base0 (own_move HO fun k hk => hother k (by have := hown k hk; omega) (by have := hown k hk; omega))
  have hbl := HB.lt
  have hbin : BinAt w3 := HB.move ((hother _ (by omega) (by omega)).trans (hW1.block _ hbl))
  have e4 : ∀ k, k < w1.heap.size → (w3.alloc (.cells (rwCells v0 0 en 0) 44 (0, 0))).heap[k]? = w3.heap[k]? := fun k hk => Below.heap_alloc _ _ _ (by omega)
  have hz4 : (w3.alloc (.cells (rwCells v0 0 en 0) 44 (0, 0))).heap.size = w1.heap.size + 1 := by simp [hs3]
  have hrw : Rw w1.heap.size v0 ws en 0 0 (w3.alloc (.cells (rwCells v0 0 en 0) 44 (0, 0))) := by
    refine ⟨?_, own_move hown3 fun k hk => e4 k (hown k hk).2, Nat.zero_le _, hlen, Int.le_refl _, by decide, hsiz, hbin.move (e4 _ (by omega)), by omega⟩
    rw [← hs3]
    exact heap_alloc_new _ _
  refine ⟨hrw, Kq.refl _ _, ?_, ?_, fun x hx => (by cases hx), ?_, fun k hk => hk, Or.inl rfl, ?_, ?_⟩
  · intro x hx
    simp only [List.mem_cons, List.not_mem_nil, or_false] at hx
    rcases hx with rfl | rfl | rfl
    · exact ⟨(e4 _ (by omega)).trans b0, Or.inr (Or.inr (Or.inl rfl)), by simp only; omega⟩
    · exact ⟨(e4 _ (by omega)).trans b1, Or.inr (Or.inr (Or.inr (Or.inl rfl))), by simp only; omega⟩
    · exact ⟨(e4 _ (by omega)).trans b2, Or.inr (Or.inr (Or.inr (Or.inr rfl))), by simp only; omega⟩
  · refine List.pairwise_cons.2 ⟨fun x hx => ?_, List.pairwise_cons.2 ⟨fun x hx => ?_, List.pairwise_singleton _ _⟩⟩
    · simp only [List.mem_cons, List.not_mem_nil, or_false] at hx
      rcases hx with rfl | rfl <;> simp only <;> omega
    · rw [List.mem_singleton.1 hx]
      simp only
      omega
  · intro k hk
    omega
  · intro k hk
    have := hown k hk
    omega
  · omega
theorem below_more {B : Nat} {W a b : World} (h : Below B W a) (hos : b.os = a.os) (htp : b.tape = a.tape) (hou : b.output = a.output) (hz : a.heap.size ≤ b.heap.size) (ho : ∀ k, k < B → b.heap[k]? = a.heap[k]?) : Below B W b :=
  h.trans ⟨hos, htp, hou, hz, ho⟩
theorem St.low {p : Nat} {vw : Value} {ws : List Tok} {en : Int} {W0 : World} {M G : Nat → Prop} {L : List (Nat × TypeId × Array Value)} {V : List (Array Value × SN)} {i : Nat} {o : Int} {w W : World} (h : St p vw ws en W0 M G L V i o w) (hb : Below W.heap.size W W0) (hM : ∀ k, M k → W.heap.size ≤ k) : Below W.heap.size W w :=
  hb.trans ⟨h.kep.os, h.kep.tape, h.kep.output, h.kep.size, fun k hk => h.kep.block k (Nat.lt_of_lt_of_le hk hb.size) (fun hm => by have := hM k hm; omega)⟩
/-- a fault is caught: the end of Parse -/
theorem caught_end {s : ByteArray} {x y : Int} {w W : World} {cn : Array Value} {ce ca : Value} {tmps : Array Value} (g0 : w.heap[W.heap.size]? = some (.cells cn 28 (0, 0))) (g1 : w.heap[W.heap.size + 1]? = some (.cells #[ce] 29 (0, 0))) (g2 : w.heap[W.heap.size + 1 + 1]? = some (.cells #[ca] 3 (0, 0)))
    (hs : cn.size = 10) (hZ : parseZ s = (.zero, x, y)) (hb5 : Below W.heap.size W w)
    (h2 : tmps.getD 2 undef = .pointer (some ⟨W.heap.size, 0, none⟩)) (h3 : tmps.getD 3 undef = .pointer (some ⟨W.heap.size + 1, 0, none⟩)) (h4 : tmps.getD 4 undef = .pointer (some ⟨W.heap.size + 1 + 1, 0, none⟩)) :
    CallsD Tryd.prog 12 #[.pointer (some ⟨W.heap.size, 0, none⟩), .pointer (some ⟨W.heap.size + 1, 0, none⟩), .pointer (some ⟨W.heap.size + 1 + 1, 0, none⟩)] (.panicking (flt x y)) w fun
      | .returned _, u', w' => Leaves Tryd.prog Tryd.f6 tmps (ParseEnd s W) [] (settle u') w'
      | .panicked chain, u', w' => Leaves Tryd.prog Tryd.f6 tmps (ParseEnd s W) [] (raised u' chain) w'
      | .outgrown, _, w' => ParseEnd s W .outgrown w' := by
  refine (catch_caught W.heap.size (W.heap.size + 1) (W.heap.size + 1 + 1) x y w _ _ _ g0 hs g1 g2 (by omega) (by omega) (by omega)).mono ?_
  rintro e1 u' w'' ⟨rfl, rfl, rfl⟩
  have hlt2 := (Array.getElem?_eq_some_iff.1 g2).1
  have q0 : ((w.alloc (.cells #[.int .i64 x, .int .i64 y] 46 (0, 0))).drewN 1).heap[W.heap.size]? = some (.cells cn 28 (0, 0)) := (Below.heap_alloc w _ _ (by omega)).trans g0
  have q1 : ((w.alloc (.cells #[.int .i64 x, .int .i64 y] 46 (0, 0))).drewN 1).heap[W.heap.size + 1]? = some (.cells #[ce] 29 (0, 0)) := (Below.heap_alloc w _ _ (by omega)).trans g1
  have q2 : ((w.alloc (.cells #[.int .i64 x, .int .i64 y] 46 (0, 0))).drewN 1).heap[W.heap.size + 1 + 1]? = some (.cells #[ca] 3 (0, 0)) := (Below.heap_alloc w _ _ hlt2).trans g2
  have hz : w.heap.size ≤ ((w.alloc (.cells #[.int .i64 x, .int .i64 y] 46 (0, 0))).drewN 1).heap.size := by
    show w.heap.size ≤ (w.heap.push _).size
    simp
  have hk : ∀ k, k < w.heap.size → ((w.alloc (.cells #[.int .i64 x, .int .i64 y] 46 (0, 0))).drewN 1).heap[k]? = w.heap[k]? := fun k hk => Below.heap_alloc w _ _ hk
  have ho : ((w.alloc (.cells #[.int .i64 x, .int .i64 y] 46 (0, 0))).drewN 1).os = w.os ∧ ((w.alloc (.cells #[.int .i64 x, .int .i64 y] 46 (0, 0))).drewN 1).tape = w.tape ∧ ((w.alloc (.cells #[.int .i64 x, .int .i64 y] 46 (0, 0))).drewN 1).output = w.output := ⟨rfl, rfl, rfl⟩
  generalize (w.alloc (.cells #[.int .i64 x, .int .i64 y] 46 (0, 0))).drewN 1 = w2 at *
  have r0 : (((w2.setRow W.heap.size zeroN).setCell ⟨W.heap.size + 1, 0, none⟩ (.int .i64 x)).setCell ⟨W.heap.size + 1 + 1, 0, none⟩ (.int .i64 y)).heap[W.heap.size]? = some (.cells zeroN 28 (0, 0)) := by
    rw [Below.heap_setCell _ _ _ _ (by show _ ≠ W.heap.size + 1 + 1; omega), Below.heap_setCell _ _ _ _ (by show _ ≠ W.heap.size + 1; omega)]
    exact setRow_heap _ _ _ _ _ _ q0
  have r1 : (((w2.setRow W.heap.size zeroN).setCell ⟨W.heap.size + 1, 0, none⟩ (.int .i64 x)).setCell ⟨W.heap.size + 1 + 1, 0, none⟩ (.int .i64 y)).heap[W.heap.size + 1]? = some (.cells #[.int .i64 x] 29 (0, 0)) := by
    rw [Below.heap_setCell _ _ _ _ (by show _ ≠ W.heap.size + 1 + 1; omega)]
    exact heap_setCell_same _ _ 0 _ _ _ ((setRow_other _ _ _ _ (by omega)).trans q1)
  have r2 : (((w2.setRow W.heap.size zeroN).setCell ⟨W.heap.size + 1, 0, none⟩ (.int .i64 x)).setCell ⟨W.heap.size + 1 + 1, 0, none⟩ (.int .i64 y)).heap[W.heap.size + 1 + 1]? = some (.cells #[.int .i64 y] 3 (0, 0)) :=
    heap_setCell_same _ _ 0 _ _ _ ((Below.heap_setCell _ _ _ _ (by show _ ≠ W.heap.size + 1; omega)).trans ((setRow_other _ _ _ _ (by omega)).trans q2))
  show Leaves _ _ _ _ [] .returning _
  refine ⟨_, results_parse _ _ W.heap.size (W.heap.size + 1) (W.heap.size + 1 + 1) zeroN x y h2 h3 h4 r0 rfl (cell_of_row _ _ 0 _ _ _ r1) (cell_of_row _ _ 0 _ _ _ r2), zeroN, by rw [hZ], by rw [hZ]; exact nd_zero _ _, below_more hb5 ho.1 ho.2.1 ho.2.2 ?_ (fun k hk1 => ?_)⟩
  · simpa [World.setCell, World.setRow] using hz
  · have hw := hb5.size
    rw [Below.heap_setCell _ _ _ _ (by show k ≠ W.heap.size + 1 + 1; omega), Below.heap_setCell _ _ _ _ (by show k ≠ W.heap.size + 1; omega), setRow_other _ _ _ _ (by omega), hk k (by omega)]
set_option maxHeartbeats 8000000 in
set_option maxRecDepth 100000 in
theorem parse_good (GR : ∀ (p : Nat) (vw : Value) (ws : List Tok) (en : Int) (f : Nat), f ≤ 8589934592 → RcOk p vw ws en (goZ ws en f)) (s : ByteArray) (hs : s.size ≤ 1073741824) (ws : List Tok) (pl : Int) (hR : scanR s = (ws, 0, pl)) (W : World) (hT : Tabs W) (hB : BinAt W) :
    Calls Tryd.prog 6 #[.string s] W (ParseEnd s W) := by
  have hfine := scanR_fine s hs
  rw [hR] at hfine
  have hsc : word_Scan.f s = some (ws, 0, pl) := by unfold word_Scan.f; rw [if_pos hs, hR]
  have hP : parseZ s = restZ ws (s.size : Int) := by unfold parseZ; rw [hR]; rfl
  have hlen : ws.length ≤ 1073741824 := Nat.le_trans hfine.1 hs
  have hsiz : ∀ j, (saidZ ws j).size ≤ 1152921504606846976 := fun j => by
    unfold saidZ
    split
    · rename_i h1
      have := hfine.2 (ws[j]'h1) (List.getElem_mem h1)
      omega
    · decide
  clear hR
  have HT := Lib.hid hT
  have HB := Lib.hid hB
  have HP := Lib.hid hP
  have HL := Lib.hid hlen
  have HS := Lib.hid hsiz
  clear hT hB hP hfine hs hlen hsiz
  have hmf : ∀ (fn : Fn) (first cap : Array Value) (w : World), (Instr.makeFunc fn first cap).run Tryd.prog w = .ok (.func fn first cap) w := fun _ _ _ _ => rfl
  have hbA : ∀ A B C : Obj, Below W.heap.size W (((W.alloc A).alloc B).alloc C) := fun A B C => by
    refine (((Below.refl _ W).alloc (Nat.le_refl _) _).alloc ?_ _).alloc ?_ _ <;> simp <;> omega
  go_enter_defers Tryd.func6, Tryd.ntmps6
  go_wp2_with (go_at_call 11; refine (word_Scan.calls s ws 0 pl _ (HT.out.below (hbA _ _ _)) hsc).mono ?_; rintro e0 w1 ⟨v0, rfl, hR0, hb1⟩; obtain ⟨hW1, e0, e1, e2, hz1, hz0⟩ := three hb1; have ho := toks_of_R hR0; rw [hz0] at ho; have HO := Lib.hid ho; obtain ⟨A, cp, rfl⟩ := own_slice ho; clear hR0 hb1 hz0 ho; have c1 := cell_of_row w1 _ 0 _ _ _ e1; have c2 := cell_of_row w1 _ 0 _ _ _ e2; have f1 := frozen_of_row w1 _ 0 _ _ e1; have f2 := frozen_of_row w1 _ 0 _ _ e2; change w1.cell? ⟨W.heap.size + 1, 0, none⟩ = some (.int .i64 0) at c1; change w1.cell? ⟨W.heap.size + 1 + 1, 0, none⟩ = some (.int .i64 0) at c2; have H0 := Lib.hid e0; have H1 := Lib.hid e1; have H2 := Lib.hid e2; clear e0 e1 e2)
  have S0 := parse_st (en := (s.size : Int)) (er := 0) (pl := pl) hW1 H0.out H1.out H2.out hz1 HO.out HB.out HL.out HS.out rfl
  have hb3 : Below W.heap.size W (((w1.setCell ⟨W.heap.size + 1, 0, none⟩ (.int .i64 0)).setCell ⟨W.heap.size + 1 + 1, 0, none⟩ (.int .i64 pl)).alloc (.cells (rwCells (.slice A ws.length cp) 0 (s.size : Int) 0) 44 (0, 0))) :=
    Below.alloc ((hW1.setCell (by show _ ≤ W.heap.size + 1; omega) _).setCell (by show _ ≤ W.heap.size + 1 + 1; omega) _) (by simp [World.setCell]; omega) _
  have hM : ∀ k, (k = w1.heap.size ∨ k = W.heap.size ∨ k = W.heap.size + 1 ∨ k = W.heap.size + 1 + 1) → W.heap.size ≤ k := fun k hk => by omega
  have hs4 := S0.base
  rcases go_end ws (s.size : Int) with ⟨e, hgo, -⟩ | ⟨n, j, o, hgo, -, hj⟩
  · have hZ := HP.out.trans (rest_err hgo)
    refine ((GR _ _ _ _ _ (by have := HL.out; omega)).pipe 0 0 _ _ hgo S0.row).mono ?_
    rintro _ w5 ⟨rfl, hk⟩
    have g0 := (hk.block W.heap.size (S0.lt (.head _)) (by omega)).trans (S0.blk _ _ _ (.head _))
    have g1 := (hk.block (W.heap.size + 1) (S0.lt (.tail _ (.head _))) (by omega)).trans (S0.blk _ _ _ (.tail _ (.head _)))
    have g2 := (hk.block (W.heap.size + 1 + 1) (S0.lt (.tail _ (.tail _ (.head _)))) (by omega)).trans (S0.blk _ _ _ (.tail _ (.tail _ (.head _))))
    have hb4 := S0.low hb3 hM
    have hb5 := hb4.trans ⟨hk.os, hk.tape, hk.output, hk.size, fun k hk1 => hk.block k (Nat.lt_of_lt_of_le hk1 hb4.size) (by omega)⟩
    refine leaves_cons (f := 12) (args := #[.pointer (some ⟨W.heap.size, 0, none⟩), .pointer (some ⟨W.heap.size + 1, 0, none⟩), .pointer (some ⟨W.heap.size + 1 + 1, 0, none⟩)]) (by simp) (by simp [go_sem]) ?_
    exact caught_end g0 g1 g2 rfl hZ hb5 rfl rfl rfl
  · have hZ := HP.out.trans (rest_ok hgo)
    refine ((GR _ _ _ _ _ (by have := HL.out; omega)).pipe 0 0 _ _ hgo S0.row).mono ?_
    rintro _ w5 ⟨⟨_, rfl, hn⟩, hrw, hk⟩
    obtain ⟨c, rfl, S1⟩ := S0.made hrw hk hn
    replace S1 := Lib.hid S1
    have hsz := S1.out.fst.size
    have hone := S1.out.fst.one
    clear S0 hn hrw hk
    by_cases hk0 : kindZ ws j = 0
    · rw [if_pos hk0] at hZ
      go_wp2_with (first
        | (refine st_nodeO rfl _ _ rfl _ _ rfl rfl _ (S1.out.blk _ _ _ (.head _)) hsz rfl hone ?_; intro w6 hw6; have S2 := Lib.hid (S1.out.setRowO 0 _ _ _ c rfl hw6); clear hw6)
        | (go_at_call 14; refine (kind_calls _ S2.out.row).mono ?_; rintro _ w7 ⟨rfl, hd⟩; have S3 := Lib.hid (S2.out.drawn hd); clear hd; rw [hk0])
        | (refine ld_node rfl _ rfl _ rfl _ (S3.out.blk _ _ _ (.head _)) hsz ?_)
        | (refine st_nodeO rfl _ _ rfl _ _ rfl rfl _ (S3.out.blk _ _ _ (.head _)) hsz hsz hone ?_; intro w8 hw8; have S4 := Lib.hid (S3.out.setRowO 0 _ _ _ c rfl hw8); clear hw8)
        | (refine st_cellO rfl 29 _ _ rfl (by kernel_rfl) (W.heap.size + 1) 0 (.int .i64 0) rfl rfl rfl _ #[.int .i64 0] (S4.out.blk _ _ _ (.tail _ (.head _))) Nat.zero_lt_one ?_; intro w9 hw9; have S5 := Lib.hid (S4.out.setCellO 1 _ _ _ rfl 0 (.int .i64 0) #[.int .i64 0] rfl hw9); clear hw9)
        | (refine st_cellO rfl 3 _ _ rfl (by kernel_rfl) (W.heap.size + 1 + 1) 0 (.int .i64 0) rfl rfl rfl _ #[.int .i64 pl] (S5.out.blk _ _ _ (.tail _ (.tail _ (.head _)))) Nat.zero_lt_one ?_; intro w10 hw10; have S6 := Lib.hid (S5.out.setCellO 2 _ _ _ rfl 0 (.int .i64 0) #[.int .i64 0] rfl hw10); clear hw10))
      refine leaves_cons (f := 12) (args := #[.pointer (some ⟨W.heap.size, 0, none⟩), .pointer (some ⟨W.heap.size + 1, 0, none⟩), .pointer (some ⟨W.heap.size + 1 + 1, 0, none⟩)]) (by simp) (by simp [go_sem]) ?_
      refine (catch_idle _ _ _ _).mono ?_
      rintro e1 u' w'' ⟨rfl, rfl, rfl⟩
      show Leaves _ _ _ _ [] .returning _
      refine ⟨_, results_parse _ _ W.heap.size (W.heap.size + 1) (W.heap.size + 1 + 1) c 0 0 rfl rfl rfl (S6.out.blk _ _ _ (.head _)) hsz (S6.out.cell _ _ _ (.tail _ (.head _)) 0 _ rfl) (S6.out.cell _ _ _ (.tail _ (.tail _ (.head _))) 0 _ rfl), ?_⟩
      refine ⟨c, by rw [hZ], ?_, S6.out.low hb3 hM⟩
      rw [hZ]
      exact S6.out.fst.carry fun k hk _ => ⟨Nat.le_trans (hb3.size) hk.1, rfl⟩
    · rw [if_neg hk0] at hZ
      have hj2 : j < ws.length := kindZ_lt rfl hk0
      have hne : (kindZ ws j != 0) = true := bne_iff_ne.2 hk0
      rw [if_pos hj2] at hZ
      go_wp2_with (first
        | (refine st_nodeO rfl _ _ rfl _ _ rfl rfl _ (S1.out.blk _ _ _ (.head _)) hsz rfl hone ?_; intro w6 hw6; have S2 := Lib.hid (S1.out.setRowO 0 _ _ _ c rfl hw6); clear hw6)
        | (go_at_call 14; refine (kind_calls _ S2.out.row).mono ?_; rintro _ w7 ⟨rfl, hd⟩; have S3 := Lib.hid (S2.out.drawn hd); clear hd)
        | (go_at_call 15; refine (fail_row _ S3.out.row).mono ?_; rintro _ w8 ⟨rfl, hd⟩; rw [if_pos hj2]; have S4 := Lib.hid (S3.out.drawn hd); clear hd))
      refine leaves_cons (f := 12) (args := #[.pointer (some ⟨W.heap.size, 0, none⟩), .pointer (some ⟨W.heap.size + 1, 0, none⟩), .pointer (some ⟨W.heap.size + 1 + 1, 0, none⟩)]) (by simp) (by simp [go_sem]) ?_
      exact caught_end (S4.out.blk _ _ _ (.head _)) (S4.out.blk _ _ _ (.tail _ (.head _))) (S4.out.blk _ _ _ (.tail _ (.tail _ (.head _)))) hsz hZ (S4.out.low hb3 hM) rfl rfl rfl

set_option maxHeartbeats 8000000 in
set_option maxRecDepth 100000 in
theorem parse_bad (s : ByteArray) (hs : s.size ≤ 1073741824) (ws : List Tok) (er pl : Int) (her : er ≠ 0) (hR : scanR s = (ws, er, pl)) (W : World) (hT : Tabs W) :
    Calls Tryd.prog 6 #[.string s] W (ParseEnd s W) := by
  have hsc : word_Scan.f s = some (ws, er, pl) := by unfold word_Scan.f; rw [if_pos hs, hR]
  have hP : parseZ s = (.zero, er, pl) := by unfold parseZ; rw [hR]; exact if_neg her
  clear hR
  have hne : (er != 0) = true := bne_iff_ne.2 her
  have HT := Lib.hid hT
  have HP := Lib.hid hP
  clear hT hP hs her
  have hbA : ∀ A B C : Obj, Below W.heap.size W (((W.alloc A).alloc B).alloc C) := fun A B C => by
    refine (((Below.refl _ W).alloc (Nat.le_refl _) _).alloc ?_ _).alloc ?_ _ <;> simp <;> omega
  go_enter_defers Tryd.func6, Tryd.ntmps6
  go_wp2_with (go_at_call 11; refine (word_Scan.calls s ws er pl _ (HT.out.below (hbA _ _ _)) hsc).mono ?_; rintro e0 w1 ⟨v0, rfl, hR0, hb1⟩; obtain ⟨hW1, e0, e1, e2, hz1, hz0⟩ := three hb1; clear hR0 hb1 hz0; have c1 := cell_of_row w1 _ 0 _ _ _ e1; have c2 := cell_of_row w1 _ 0 _ _ _ e2; have f1 := frozen_of_row w1 _ 0 _ _ e1; have f2 := frozen_of_row w1 _ 0 _ _ e2; change w1.cell? ⟨W.heap.size + 1, 0, none⟩ = some (.int .i64 0) at c1; change w1.cell? ⟨W.heap.size + 1 + 1, 0, none⟩ = some (.int .i64 0) at c2; have H0 := Lib.hid e0; have H1 := Lib.hid e1; have H2 := Lib.hid e2; clear e0 e1 e2)
  have b0 : ((w1.setCell ⟨W.heap.size + 1, 0, none⟩ (.int .i64 er)).setCell ⟨W.heap.size + 1 + 1, 0, none⟩ (.int .i64 pl)).heap[W.heap.size]? = some (.cells zeroN 28 (0, 0)) := by
    rw [Below.heap_setCell _ _ _ _ (by show _ ≠ W.heap.size + 1 + 1; omega), Below.heap_setCell _ _ _ _ (by show _ ≠ W.heap.size + 1; omega)]
    exact H0.out
  have b1 : ((w1.setCell ⟨W.heap.size + 1, 0, none⟩ (.int .i64 er)).setCell ⟨W.heap.size + 1 + 1, 0, none⟩ (.int .i64 pl)).heap[W.heap.size + 1]? = some (.cells #[.int .i64 er] 29 (0, 0)) := by
    rw [Below.heap_setCell _ _ _ _ (by simp)]
    exact heap_setCell_same w1 _ 0 _ _ _ H1.out
  have b2 : ((w1.setCell ⟨W.heap.size + 1, 0, none⟩ (.int .i64 er)).setCell ⟨W.heap.size + 1 + 1, 0, none⟩ (.int .i64 pl)).heap[W.heap.size + 1 + 1]? = some (.cells #[.int .i64 pl] 3 (0, 0)) :=
    heap_setCell_same _ _ 0 _ _ _ ((Below.heap_setCell _ _ _ _ (by simp)).trans H2.out)
  have hb3 : Below W.heap.size W ((w1.setCell ⟨W.heap.size + 1, 0, none⟩ (.int .i64 er)).setCell ⟨W.heap.size + 1 + 1, 0, none⟩ (.int .i64 pl)) :=
    (hW1.setCell (by show _ ≤ W.heap.size + 1; omega) _).setCell (by show _ ≤ W.heap.size + 1 + 1; omega) _
  clear H0 H1 H2 c1 c2 f1 f2
  generalize ((w1.setCell ⟨W.heap.size + 1, 0, none⟩ (.int .i64 er)).setCell ⟨W.heap.size + 1 + 1, 0, none⟩ (.int .i64 pl)) = w3 at *
  refine Code.wp_mono NoPanic.imp ?_
  refine region_T (fun w' => w'.heap[W.heap.size]? = some (.cells zeroN 28 (0, 0)) ∧ w'.heap[W.heap.size + 1]? = some (.cells #[.int .i64 er] 29 (0, 0)) ∧ w'.heap[W.heap.size + 1 + 1]? = some (.cells #[.int .i64 pl] 3 (0, 0))) (fun _ => false) 6 rfl (by kernel_rfl) ?_
  have hS : w3.drew.heap[W.heap.size]? = some (.cells zeroN 28 (0, 0)) ∧ w3.drew.heap[W.heap.size + 1]? = some (.cells #[.int .i64 er] 29 (0, 0)) ∧ w3.drew.heap[W.heap.size + 1 + 1]? = some (.cells #[.int .i64 pl] 3 (0, 0)) := ⟨b0, b1, b2⟩
  have hb4 : Below W.heap.size W w3.drew := hb3.drew
  clear b0 b1 b2 hb3
  generalize w3.drew = w4 at *
  refine anyT_take (i := 0) (oi := _) (v := (.agg zeroN)) (d := (some 15)) rfl rfl (by kernel_rfl) (by kernel_rfl) rfl (by kernel_rfl) (by kernel_rfl) (fun _ _ _ h => h) (Or.inl ⟨by rfl, fun w hS => by go_simp; rfl⟩) hS ?_
  try simp only [Act.put, List.setIfInBounds_toArray, List.set_cons_zero, List.set_cons_succ]
  refine anyT_take (i := 1) (oi := _) (v := (.int .i64 er)) (d := (some 16)) rfl rfl (by kernel_rfl) (by kernel_rfl) rfl (by kernel_rfl) (by kernel_rfl) (fun _ _ _ h => h) (yl_cell 29 _ rfl (by rfl) (by kernel_rfl) _ _ rfl _ (fun _ h => cell_of_row _ _ 0 _ _ _ h.2.1)) hS ?_
  try simp only [Act.put, List.setIfInBounds_toArray, List.set_cons_zero, List.set_cons_succ]
  refine anyT_take (i := 2) (oi := _) (v := (.int .i64 pl)) (d := (some 17)) rfl rfl (by kernel_rfl) (by kernel_rfl) rfl (by kernel_rfl) (by kernel_rfl) (fun _ _ _ h => h) (yl_cell 3 _ rfl (by rfl) (by kernel_rfl) _ _ rfl _ (fun _ h => cell_of_row _ _ 0 _ _ _ h.2.2)) hS ?_
  try simp only [Act.put, List.setIfInBounds_toArray, List.set_cons_zero, List.set_cons_succ]
  have hS1 : (w4.setRow W.heap.size zeroN).heap[W.heap.size]? = some (.cells zeroN 28 (0, 0)) ∧ (w4.setRow W.heap.size zeroN).heap[W.heap.size + 1]? = some (.cells #[.int .i64 er] 29 (0, 0)) ∧ (w4.setRow W.heap.size zeroN).heap[W.heap.size + 1 + 1]? = some (.cells #[.int .i64 pl] 3 (0, 0)) :=
    ⟨setRow_heap _ _ _ _ _ _ hS.1, (setRow_other _ _ _ _ (by omega)).trans hS.2.1, (setRow_other _ _ _ _ (by omega)).trans hS.2.2⟩
  have hb5 : Below W.heap.size W (w4.setRow W.heap.size zeroN) := below_more hb4 rfl rfl rfl (by simp [World.setRow]) (fun k hk => setRow_other _ _ _ _ (by omega))
  refine anyT_step (i := 3) (oi := _) rfl (by kernel_rfl) (by rfl) (fun K hK => ?_)
  refine wp_st_node0 rfl _ _ rfl W.heap.size zeroN rfl rfl zeroN hS.1 rfl rfl (by simp [zeroN, ndCells, Value.oneCell']) (hK _ _ (fun _ => hS1) ?_)
  clear hK K hS hb4
  generalize w4.setRow W.heap.size zeroN = w5 at *
  have hS2 : (w5.setCell ⟨W.heap.size + 1, 0, none⟩ (.int .i64 er)).heap[W.heap.size]? = some (.cells zeroN 28 (0, 0)) ∧ (w5.setCell ⟨W.heap.size + 1, 0, none⟩ (.int .i64 er)).heap[W.heap.size + 1]? = some (.cells #[.int .i64 er] 29 (0, 0)) ∧ (w5.setCell ⟨W.heap.size + 1, 0, none⟩ (.int .i64 er)).heap[W.heap.size + 1 + 1]? = some (.cells #[.int .i64 pl] 3 (0, 0)) :=
    ⟨(Below.heap_setCell _ _ _ _ (by show _ ≠ W.heap.size + 1; omega)).trans hS1.1, heap_setCell_same _ _ 0 _ _ _ hS1.2.1, (Below.heap_setCell _ _ _ _ (by show _ ≠ W.heap.size + 1; omega)).trans hS1.2.2⟩
  have hb6 := hb5.setCell (p := ⟨W.heap.size + 1, 0, none⟩) (by show _ ≤ W.heap.size + 1; omega) (.int .i64 er)
  refine anyT_step (i := 4) (oi := _) rfl (by kernel_rfl) (by rfl) (fun K hK => ?_)
  refine wp_st_cell0 rfl 29 _ _ rfl (by kernel_rfl) (W.heap.size + 1) 0 (.int .i64 er) rfl rfl rfl _ #[.int .i64 er] hS1.2.1 Nat.zero_lt_one (hK _ _ (fun _ => hS2) ?_)
  clear hK K hS1 hb5
  generalize w5.setCell ⟨W.heap.size + 1, 0, none⟩ (.int .i64 er) = w6 at *
  have hS3 : (w6.setCell ⟨W.heap.size + 1 + 1, 0, none⟩ (.int .i64 pl)).heap[W.heap.size]? = some (.cells zeroN 28 (0, 0)) ∧ (w6.setCell ⟨W.heap.size + 1 + 1, 0, none⟩ (.int .i64 pl)).heap[W.heap.size + 1]? = some (.cells #[.int .i64 er] 29 (0, 0)) ∧ (w6.setCell ⟨W.heap.size + 1 + 1, 0, none⟩ (.int .i64 pl)).heap[W.heap.size + 1 + 1]? = some (.cells #[.int .i64 pl] 3 (0, 0)) :=
    ⟨(Below.heap_setCell _ _ _ _ (by show _ ≠ W.heap.size + 1 + 1; omega)).trans hS2.1, (Below.heap_setCell _ _ _ _ (by show _ ≠ W.heap.size + 1 + 1; omega)).trans hS2.2.1, heap_setCell_same _ _ 0 _ _ _ hS2.2.2⟩
  have hb7 := hb6.setCell (p := ⟨W.heap.size + 1 + 1, 0, none⟩) (by show _ ≤ W.heap.size + 1 + 1; omega) (.int .i64 pl)
  refine anyT_step (i := 5) (oi := _) rfl (by kernel_rfl) (by rfl) (fun K hK => ?_)
  refine wp_st_cell0 rfl 3 _ _ rfl (by kernel_rfl) (W.heap.size + 1 + 1) 0 (.int .i64 pl) rfl rfl rfl _ #[.int .i64 pl] hS2.2.2 Nat.zero_lt_one (hK _ _ (fun _ => hS3) ?_)
  clear hK K hS2 hb6
  refine anyT_done (by kernel_rfl) ?_ _
  refine NoPanic.normal ?_
  go_wp2_with fail
  show Leaves _ _ _ _ [] .returning _
  exact ⟨_, results_parse _ _ W.heap.size (W.heap.size + 1) (W.heap.size + 1 + 1) zeroN er pl rfl rfl rfl hS3.1 rfl (cell_of_row _ _ 0 _ _ _ hS3.2.1) (cell_of_row _ _ 0 _ _ _ hS3.2.2), zeroN, by rw [HP.out], by rw [HP.out]; exact nd_zero _ _, hb7⟩
theorem parse_calls0 (GR : ∀ (p : Nat) (vw : Value) (ws : List Tok) (en : Int) (f : Nat), f ≤ 8589934592 → RcOk p vw ws en (goZ ws en f)) (s : ByteArray) (hs : s.size ≤ 1073741824) (W : World) (hT : Tabs W) (hB : BinAt W) :
    Calls Tryd.prog 6 #[.string s] W (ParseEnd s W) := by
  obtain ⟨ws, er, pl, hR⟩ : ∃ ws er pl, scanR s = (ws, er, pl) := ⟨_, _, _, rfl⟩
  by_cases he : er = 0
  · subst he
    exact parse_good GR s hs ws pl hR W hT hB
  · exact parse_bad s hs ws er pl he hR W hT
end Go.Proofs.YthlmhnlfcnpocaaDoor.U

namespace Go.Proofs.YthlmhnlfcnpocaaDoor.U
open Go.RowKit
theorem parse_calls (s : ByteArray) (hs : s.size ≤ 1073741824) (W : World) (hT : Tabs W) (hB : BinAt W) : Calls Tryd.prog 6 #[.string s] W (ParseEnd s W) := parse_calls0 go_rc s hs W hT hB
end Go.Proofs.YthlmhnlfcnpocaaDoor.U

namespace Go.Proofs.YthlmhnlfcnpocaaDoor.U
open Go.RowKit Go.Proofs.YthlmhnlfcnpocaaDoorW.PrintWords
set_option linter.unusedSimpArgs false
set_option linter.unusedVariables false

theorem NdL.get {F : Nat → Prop} {W : World} : ∀ {vs : List (Array Value)} {l : List SN}, NdL F W vs l → ∀ (j : Nat) (hj : j < l.length), ∃ c, vs[j]? = some c ∧ Nd F W c l[j]
  | _, _, .nil, j, hj => absurd hj (Nat.not_lt_zero _)
  | _, _, .cons h1 h2, 0, _ => ⟨_, rfl, h1⟩
  | _, _, .cons h1 h2, j + 1, hj => by
    obtain ⟨c, e, h⟩ := NdL.get h2 j (Nat.lt_of_succ_lt_succ hj)
    exact ⟨c, by simpa using e, by simpa using h⟩
theorem NdL.sizes {F : Nat → Prop} {W : World} : ∀ {vs : List (Array Value)} {l : List SN}, NdL F W vs l → ∀ c ∈ vs, c.size = 10
  | _, _, .nil, c, hc => (by cases hc)
  | _, _, .cons h1 h2, c, hc => by
    rcases List.mem_cons.1 hc with rfl | hc
    · exact h1.size
    · exact NdL.sizes h2 c hc
theorem flat_get : ∀ (vs : List (Array Value)), (∀ c ∈ vs, c.size = 10) → ∀ (j : Nat) (c : Array Value), vs[j]? = some c → ∀ m, m < 10 → (flat vs)[j * 10 + m]? = c[m]?
  | [], _, _, _, h, _, _ => by simp at h
  | x :: vs, hs, 0, c, h, m, hm => by
    have e : x = c := by simpa using h
    subst e
    have := hs x (List.mem_cons_self ..)
    simp only [flat, List.flatMap_cons]
    rw [List.getElem?_append_left (by rw [Array.length_toList]; omega)]
    simp
  | x :: vs, hs, j + 1, c, h, m, hm => by
    have hx := hs x (List.mem_cons_self ..)
    have := flat_get vs (fun c hc => hs c (List.mem_cons_of_mem _ hc)) j c (by simpa using h) m hm
    simp only [flat, List.flatMap_cons] at this ⊢
    rw [List.getElem?_append_right (by rw [Array.length_toList]; omega), ← this, Array.length_toList]
    congr 1
    omega
/-- what a filter's cells are, and where its lists lie -/
theorem Nd.inv {F : Nat → Prop} {W : World} {c : Array Value} {op a : Int} {t : ByteArray} {k : Int} {num vt : ByteArray} {names : List ByteArray} {kids : List SN} (h : Nd F W c (.mk op a t k num vt names kids)) :
    ∃ An capn Ak capk, c = ndCells op a t k num vt (.slice An names.length capn) (.slice Ak kids.length capk) ∧
      (∀ (j : Nat) (hj : j < names.length), ∃ g, An = some ⟨g, 0, none⟩ ∧ W.cell? ⟨g, j, none⟩ = some (.string names[j])) ∧
      (∀ (j : Nat) (hj : j < kids.length), ∃ g cj, Ak = some ⟨g, 0, none⟩ ∧ Nd F W cj kids[j] ∧ ∀ m, m < 10 → W.cell? ⟨g, j * 10 + m, none⟩ = cj[m]?) := by
  cases h with
  | mk h1 h2 h3 h4 h5 =>
    obtain ⟨An, capn, rfl⟩ := own_slice h1
    obtain ⟨Ak, capk, rfl⟩ := own_slice h3
    refine ⟨An, capn, Ak, capk, rfl, fun j hj => ?_, fun j hj => ?_⟩
    · rcases h1.2 with ⟨e, e2⟩ | ⟨g, cap, cur, e, _⟩
      · omega
      · injection e with e _ _
        subst e
        refine ⟨g, rfl, ?_⟩
        rw [h1.cellAt j (by omega)]
        simp [strs, hj]
    · rcases h3.2 with ⟨e, e2⟩ | ⟨g, cap, cur, e, _⟩
      · omega
      · injection e with e _ _
        subst e
        obtain ⟨cj, hc, hn⟩ := h5.get j hj
        refine ⟨g, cj, rfl, hn, fun m hm => ?_⟩
        rw [h3.cellAt (j * 10 + m) (by omega)]
        exact flat_get _ h5.sizes j cj hc m hm
theorem Nd.lens {F : Nat → Prop} {W : World} {c : Array Value} {op a : Int} {t : ByteArray} {k : Int} {num vt : ByteArray} {names : List ByteArray} {kids : List SN} (h : Nd F W c (.mk op a t k num vt names kids)) :
    names.length ≤ 9223372036854775807 ∧ kids.length ≤ 9223372036854775807 := by
  cases h with
  | mk h1 h2 h3 h4 h5 =>
    constructor
    · rcases h1.2 with ⟨_, e2⟩ | ⟨_, _, _, _, _, _, e1, e2, _⟩
      · omega
      · unfold maxLen at e2
        omega
    · rcases h3.2 with ⟨_, e2⟩ | ⟨_, _, _, _, _, _, e1, e2, _⟩
      · omega
      · unfold maxLen at e2
        omega
end Go.Proofs.YthlmhnlfcnpocaaDoor.U

namespace Go.Proofs.YthlmhnlfcnpocaaDoor.U
open Go.RowKit Go.Proofs.YthlmhnlfcnpocaaDoorW.PrintWords
set_option linter.unusedSimpArgs false
set_option linter.unusedVariables false

/-- a filter is laid into a new variable -/
theorem laid_node {w w2 : World} {z c : Array Value} (h : w2 = (w.alloc (.cells z 28 (0, 0))).setRow w.heap.size c) : Below w.heap.size w w2 ∧ w2.heap[w.heap.size]? = some (.cells c 28 (0, 0)) ∧ w2.heap.size = w.heap.size + 1 := by
  subst h
  refine ⟨(Below.alloc (Below.refl _ w) (Nat.le_refl _) _).trans ⟨rfl, rfl, rfl, by simp [World.setRow], fun k hk => setRow_other _ _ _ _ (by omega)⟩, setRow_heap _ _ _ _ _ _ (heap_alloc_new _ _), by simp [World.setRow]⟩
theorem BinAt.below {W W' : World} (h : BinAt W) (hb : Below W.heap.size W W') : BinAt W' := h.move (hb.block _ h.lt)
theorem below_join {A B C : World} (h : Below A.heap.size A B) (k : Below B.heap.size B C) : Below A.heap.size A C := h.trans (k.mono h.size)
theorem row_below {w w' : World} {g : Nat} {o : Obj} (h : w.heap[g]? = some o) (hb : Below w.heap.size w w') : w'.heap[g]? = some o := (hb.block g (Array.getElem?_eq_some_iff.1 h).1).trans h
theorem cell_below {w w' : World} {q : Addr} {v : Value} (h : w.cell? q = some v) (hb : Below w.heap.size w w') : w'.cell? q = some v := (hb.cell (World.block_lt_of_cell? w q h)).trans h

theorem works_a : parseZ ⟨#[46, 32, 124, 32, 46]⟩ = (nd 12 2 [nd 1 0 [], nd 1 4 []], 0, 0) := by kernel_rfl
theorem works_b : (parseZ ⟨#[49, 32, 50]⟩).2 = (171, 2) := by kernel_rfl

set_option maxHeartbeats 8000000 in
set_option maxRecDepth 100000 in
theorem works_calls (W : World) (hT : Tabs W) (hB : BinAt W) : Calls Tryd.prog 8 #[] W fun e w' => e = .returned (.bool true) ∧ Below W.heap.size W w' := by
  have HT := Lib.hid hT
  have HB := Lib.hid hB
  clear hT hB
  go_enter Tryd.func8, Tryd.ntmps8
  go_wp2_with (first
    | (go_at_call 6; (with_reducible refine (parse_calls ⟨#[46, 32, 124, 32, 46]⟩ (by decide) _ HT.out HB.out).mono ?_); rintro e0 w1 ⟨c, rfl, hn, hb1⟩; rw [works_a] at hn ⊢; have Hn := Lib.hid hn; have hsz := hn.size; have hone := hn.one; have Hb1 := Lib.hid hb1; clear hn hb1)
    | ((refine st_nodeO rfl _ _ rfl w1.heap.size c rfl rfl zeroN (heap_alloc_new w1 (.cells zeroN 28 (0, 0))) hsz rfl hone ?_); intro w2 hw2; obtain ⟨hb2, hr2, hz2⟩ := laid_node hw2; have Hb2 := Lib.hid (below_join Hb1.out hb2); have Hb2' := Lib.hid hb2; have Hr2 := Lib.hid hr2; clear hw2 hb2 hr2)
    | (go_at_call 6; (with_reducible refine (parse_calls ⟨#[49, 32, 50]⟩ (by decide) _ (HT.out.below Hb2.out) (HB.out.below Hb2.out)).mono ?_); rintro e0 w3 ⟨c3, rfl, hn, hb3⟩; rw [works_b]; have hsz3 := hn.size; have hone3 := hn.one; have Hb3 := Lib.hid hb3; clear hn hb3)
    | ((refine st_nodeO rfl _ _ rfl w3.heap.size c3 rfl rfl zeroN (heap_alloc_new w3 (.cells zeroN 28 (0, 0))) hsz3 rfl hone3 ?_); intro w4 hw4; obtain ⟨hb4, hr4, hz4⟩ := laid_node hw4; clear hw4 hr4; have hb5 := below_join Hb3.out hb4; have Hb5 := Lib.hid (below_join Hb2.out hb5); obtain ⟨An, capn, Ak, capk, rfl, -, hk⟩ := Nd.inv Hn.out; obtain ⟨g, cj, rfl, hcj, hm⟩ := hk 1 (by decide); obtain ⟨An2, capn2, Ak2, capk2, rfl, -, -⟩ := Nd.inv hcj; have q0 := cell_of_row _ _ 0 _ _ _ (row_below Hr2.out hb5); have q1 := cell_of_row _ _ 1 _ _ _ (row_below Hr2.out hb5); have q9 := cell_of_row _ _ 9 _ _ _ (row_below Hr2.out hb5); have qk := cell_below (cell_below ((hm 0 (by decide)).trans rfl) Hb2'.out) hb5; clear hb5 hb4 hm hk hcj; change w4.cell? ⟨w1.heap.size, 0, none⟩ = some (.int .i64 12) at q0; change w4.cell? ⟨w1.heap.size, 1, none⟩ = some (.int .i64 2) at q1; change w4.cell? ⟨w1.heap.size, 9, none⟩ = some (.slice (some ⟨g, 0, none⟩) 2 capk) at q9; change w4.cell? ⟨g, 10, none⟩ = some (.int .i64 1) at qk))
  go_ret
  exact ⟨rfl, Hb5.out⟩
end Go.Proofs.YthlmhnlfcnpocaaDoor.U

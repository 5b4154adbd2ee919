/- syntax.Parse's deferred closure: with nothing to recover it changes nothing; a fault is taken, and the results say it. -/
import Derived.Test.YthlmhnlfcnpocaaDoorScanner
import Derived.Test.YthlmhnlfcnpocaaDoorSynAll
import Derived.Laws.Strings
import Derived.OrdersHeld
import Derived.IntWalk
import Derived.Deep.RegionHeld
import Derived.Deep.AppendLies
import Derived.Defers
import Derived.Recover
namespace Go.Proofs.YthlmhnlfcnpocaaDoor.U
open Go.RowKit Go.Proofs.YthlmhnlfcnpocaaDoorW.PrintWords
set_option linter.unusedSimpArgs false
set_option linter.unusedVariables false

/-- ONLY BLOCK p MAY HAVE CHANGED: what was there, but for p, is as it was. -/
structure Kp (p : Nat) (w w' : World) : Prop where
  os : w'.os = w.os
  tape : w'.tape = w.tape
  output : w'.output = w.output
  size : w.heap.size ≤ w'.heap.size
  block : ∀ k, k < w.heap.size → k ≠ p → w'.heap[k]? = w.heap[k]?
theorem Kp.refl (p : Nat) (w : World) : Kp p w w := ⟨rfl, rfl, rfl, Nat.le_refl _, fun _ _ _ => rfl⟩
theorem Kp.trans {p : Nat} {a b c : World} (h : Kp p a b) (k : Kp p b c) : Kp p a c :=
  ⟨k.os.trans h.os, k.tape.trans h.tape, k.output.trans h.output, Nat.le_trans h.size k.size, fun i hi hp => (k.block i (Nat.lt_of_lt_of_le hi h.size) hp).trans (h.block i hi hp)⟩
theorem Kp.drewN {p : Nat} {a b : World} (h : Kp p a b) (n : Nat) : Kp p a (b.drewN n) := ⟨h.os, h.tape, h.output, h.size, h.block⟩
theorem Kp.set {p : Nat} {a b : World} (h : Kp p a b) (q : Addr) (hq : q.block = p) (u : Value) : Kp p a (b.setCell q u) :=
  h.trans ⟨rfl, rfl, rfl, by simp [World.setCell], fun k _ hp => Below.heap_setCell _ _ _ _ (by rw [hq]; exact hp)⟩

/-- the table of the marks between two filters, as it lies -/
def bindCells : List Value := bindsZ.flatMap fun b => [.string b.1, .int .i64 b.2.1, .int .i64 b.2.2.1, .int .i64 b.2.2.2]
def BinAt (W : World) : Prop := ∃ T fz, W.heap[0]? = some (.cells bindCells.toArray T fz)
theorem BinAt.move {W W' : World} (h : BinAt W) (he : W'.heap[0]? = W.heap[0]?) : BinAt W' := by
  obtain ⟨T, fz, e⟩ := h
  exact ⟨T, fz, he.trans e⟩
theorem BinAt.lt {W : World} (h : BinAt W) : 0 < W.heap.size := by
  obtain ⟨T, fz, e⟩ := h
  exact (Array.getElem?_eq_some_iff.1 e).1
/-- the row's (and the parser's) cells -/
def rwCells (vw : Value) (i : Nat) (en o : Int) : Array Value := #[vw, .int .i64 i, .int .i64 en, .int .i64 o]
/-- the parser: block p; its words; the next one is number i -/
structure Rw (p : Nat) (vw : Value) (ws : List Tok) (en : Int) (i : Nat) (o : Int) (W : World) : Prop where
  blk : W.heap[p]? = some (.cells (rwCells vw i en o) 44 (0, 0))
  wrd : W.ownsRow 0 60 4 vw ws.length (toksCells ws)
  le : i ≤ ws.length
  big : ws.length ≤ 1073741824
  olo : 0 ≤ o
  ohi : o ≤ 64
  siz : ∀ j, (saidZ ws j).size ≤ 1152921504606846976
  bin : BinAt W
  nep : 0 ≠ p

section
variable {p : Nat} {vw : Value} {ws : List Tok} {en : Int} {i : Nat} {o : Int} {W : World}
theorem Rw.lt (h : Rw p vw ws en i o W) : p < W.heap.size := (Array.getElem?_eq_some_iff.1 h.blk).1
theorem Rw.cells (h : Rw p vw ws en i o W) (j : Nat) : W.cell? ⟨p, j, none⟩ = (rwCells vw i en o)[j]? := by
  have := cell_of_row W p j (rwCells vw i en o) 44 (0, 0) h.blk
  simpa using this
theorem Rw.c0 (h : Rw p vw ws en i o W) : W.cell? ⟨p, 0, none⟩ = some vw := h.cells 0
theorem Rw.c1 (h : Rw p vw ws en i o W) : W.cell? ⟨p, 1, none⟩ = some (.int .i64 i) := h.cells 1
theorem Rw.c2 (h : Rw p vw ws en i o W) : W.cell? ⟨p, 2, none⟩ = some (.int .i64 en) := h.cells 2
theorem Rw.c3 (h : Rw p vw ws en i o W) : W.cell? ⟨p, 3, none⟩ = some (.int .i64 o) := h.cells 3
theorem Rw.fr (h : Rw p vw ws en i o W) (j : Nat) : W.frozen? ⟨p, j, none⟩ = false := frozen_of_row W p j _ _ h.blk
theorem Rw.neW (h : Rw p vw ws en i o W) : some p ≠ vw.ownBlock := own_ne h.wrd h.blk (by decide)
theorem Rw.neB (h : Rw p vw ws en i o W) : 0 ≠ p := h.nep
theorem Rw.ltB (h : Rw p vw ws en i o W) : 0 < W.heap.size := h.bin.lt
theorem Rw.of_heap {W1 : World} (he : W1.heap = W.heap) (h : Rw p vw ws en i o W) : Rw p vw ws en i o W1 where
  blk := by rw [he]; exact h.blk
  wrd := own_move h.wrd fun k hk => by rw [he]
  le := h.le
  big := h.big
  olo := h.olo
  ohi := h.ohi
  siz := h.siz
  bin := h.bin.move (by rw [he])
  nep := h.nep
/-- the words' list, wherever they lie -/
theorem Rw.slice (h : Rw p vw ws en i o W) : ∃ A cap, vw = .slice A ws.length cap := by
  rcases h.wrd.2 with ⟨h1, h2⟩ | ⟨g, cap, cur, h1, _⟩
  · exact ⟨none, 0, by rw [h1, h2]⟩
  · exact ⟨some ⟨g, 0, none⟩, cap, h1⟩
theorem toks_at (l : List Tok) (j : Nat) (k : Nat) (hj : j < l.length) (hk : k < 4) : (toksCells l)[j * 4 + k]? = (tokCells l[j])[k]? := by
  induction l generalizing j with
  | nil => simp at hj
  | cons t l ih =>
    have hc : toksCells (t :: l) = tokCells t ++ toksCells l := by simp [toksCells]
    rw [hc]
    cases j with
    | zero =>
      rw [List.getElem?_append_left (by simp [tokCells]; omega)]
      simp
    | succ j =>
      rw [List.getElem?_append_right (by simp [tokCells]; omega)]
      have := ih j (by simpa using hj)
      simpa [tokCells, show (j + 1) * 4 + k - 4 = j * 4 + k by omega] using this
/-- the next word's cells -/
theorem Rw.word (h : Rw p vw ws en i o W) (j : Nat) (hj : j < ws.length) : ∃ g cap, vw = .slice (some ⟨g, 0, none⟩) ws.length cap ∧ W.cell? ⟨g, j * 4, none⟩ = some (.int .i64 ws[j].f0) ∧ W.cell? ⟨g, j * 4 + 1, none⟩ = some (.int .i64 ws[j].f1) ∧ W.cell? ⟨g, j * 4 + 3, none⟩ = some (.string ws[j].f3) := by
  rcases h.wrd.2 with ⟨h1, h2⟩ | ⟨g, cap, cur, h1, _, hh, _, _, _, ht⟩
  · omega
  · refine ⟨g, cap, h1, ?_⟩
    have key : ∀ k, k < 4 → W.cell? ⟨g, j * 4 + k, none⟩ = (tokCells ws[j])[k]? := by
      intro k hk
      rw [cell_of_row W g _ cur _ _ hh, ← toks_at ws j k hj hk, ← ht, List.getElem?_take, if_pos (by omega)]
      simp
    exact ⟨key 0 (by decide), key 1 (by decide), key 3 (by decide)⟩
end

theorem bytes_beq (x y : ByteArray) : (x.toList == y.toList) = decide (x = y) := by
  rw [ByteArray.toList_eq, ByteArray.toList_eq, Bool.eq_iff_iff, beq_iff_eq, decide_eq_true_iff]
  exact ⟨fun h => ByteArray.ext (Array.toList_inj.mp h), fun h => by rw [h]⟩
/-- the panic with which the parser gives up -/
def flt (e a : Int) : List PanicEntry := [{ v := .iface 46 (.agg #[.int .i64 e, .int .i64 a]), recovered := false }]

set_option maxHeartbeats 2000000 in
set_option maxRecDepth 100000 in
theorem place_calls {p : Nat} {vw : Value} {ws : List Tok} {en : Int} {i : Nat} {o : Int} (W : World) (h : Rw p vw ws en i o W) :
    Calls Tryd.prog 20 #[.pointer (some ⟨p, 0, none⟩)] W fun r w' => r = .returned (.int .i64 (placeZ ws en i)) ∧ Drawn0 W w' := by
  have c0 := h.c0
  have c1 := h.c1
  have c2 := h.c2
  have hle := h.le
  by_cases hi : i < ws.length
  · obtain ⟨g, cp, hvg, k0, k1, k3⟩ := h.word i hi
    have hp : placeZ ws en i = ws[i].f1 := by simp [placeZ, hi]
    have hne : ¬ (i : Int) = (ws.length : Int) := by omega
    have hi0 : (0 : Int) ≤ (i : Int) := by omega
    have hi1 : (i : Int) < (ws.length : Int) := by omega
    rw [hvg] at c0
    rw [hp]
    clear h hvg hp hle
    go_enter Tryd.func20, Tryd.ntmps20
    go_wp2_with fail
    go_quiet (fail)
    all_goals
      go_wp2_with fail
      go_quiet (fail)
      go_wp2
      go_ret
      exact ⟨rfl, by repeat (first | exact Drawn0.refl _ | apply Drawn0.step)⟩
  · have hie : i = ws.length := by omega
    have hp : placeZ ws en i = en := by simp [placeZ, hi]
    obtain ⟨A, cap, hvw⟩ := h.slice
    rw [hvw] at c0
    rw [hp]
    rw [hie] at c1
    clear h hp hi hle hvw
    subst hie
    go_enter Tryd.func20, Tryd.ntmps20
    go_wp2_with fail
    go_quiet (fail)
    all_goals
      go_wp2
      go_ret
      exact ⟨rfl, by repeat (first | exact Drawn0.refl _ | apply Drawn0.step)⟩
set_option maxHeartbeats 2000000 in
set_option maxRecDepth 100000 in
theorem kind_calls {p : Nat} {vw : Value} {ws : List Tok} {en : Int} {i : Nat} {o : Int} (W : World) (h : Rw p vw ws en i o W) :
    Calls Tryd.prog 14 #[.pointer (some ⟨p, 0, none⟩)] W fun r w' => r = .returned (.int .i64 (kindZ ws i)) ∧ Drawn0 W w' := by
  have c0 := h.c0
  have c1 := h.c1
  have c2 := h.c2
  have hle := h.le
  by_cases hi : i < ws.length
  · obtain ⟨g, cp, hvg, k0, k1, k3⟩ := h.word i hi
    have hp : kindZ ws i = ws[i].f0 := by simp [kindZ, hi]
    have hne : ¬ (i : Int) = (ws.length : Int) := by omega
    have hi0 : (0 : Int) ≤ (i : Int) := by omega
    have hi1 : (i : Int) < (ws.length : Int) := by omega
    rw [hvg] at c0
    rw [hp]
    clear h hvg hp hle
    go_enter Tryd.func14, Tryd.ntmps14
    go_wp2_with fail
    go_quiet (fail)
    all_goals
      go_wp2_with fail
      go_quiet (fail)
      go_wp2
      go_ret
      exact ⟨rfl, by repeat (first | exact Drawn0.refl _ | apply Drawn0.step)⟩
  · have hie : i = ws.length := by omega
    have hp : kindZ ws i = 0 := by simp [kindZ, hi]
    obtain ⟨A, cap, hvw⟩ := h.slice
    rw [hvw] at c0
    rw [hp]
    rw [hie] at c1
    clear h hp hi hle hvw
    subst hie
    go_enter Tryd.func14, Tryd.ntmps14
    go_wp2_with fail
    go_quiet (fail)
    all_goals
      go_wp2
      go_ret
      exact ⟨rfl, by repeat (first | exact Drawn0.refl _ | apply Drawn0.step)⟩
set_option maxHeartbeats 2000000 in
set_option maxRecDepth 100000 in
theorem fail_row {p : Nat} {vw : Value} {ws : List Tok} {en : Int} {i : Nat} {o : Int} (W : World) (h : Rw p vw ws en i o W) :
    Calls Tryd.prog 15 #[.pointer (some ⟨p, 0, none⟩)] W fun r w' => r = .panicked (if i < ws.length then flt 171 (placeZ ws en i) else flt 170 en) ∧ Drawn0 W w' := by
  have c0 := h.c0
  have c1 := h.c1
  have c2 := h.c2
  have hle := h.le
  by_cases hi : i < ws.length
  · obtain ⟨g, cp, hvg, k0, k1, k3⟩ := h.word i hi
    have hpl := fun k => place_calls (W.drewN k) (Rw.of_heap (W := W) (W1 := W.drewN k) rfl h)
    have hne : ¬ (i : Int) = (ws.length : Int) := by omega
    rw [hvg] at c0
    rw [if_pos hi]
    clear h hle
    go_enter Tryd.func15, Tryd.ntmps15
    go_wp2_with fail
    go_quiet (fail)
    all_goals
      go_wp2_with (go_at_call 20; refine (hpl _).mono ?_; rintro e w' ⟨rfl, ⟨nd, rfl⟩⟩)
      exact ⟨rfl, rfl, by repeat (first | exact Drawn0.refl _ | apply Drawn0.step)⟩
  · have hie : i = ws.length := by omega
    obtain ⟨A, cap, hvw⟩ := h.slice
    rw [hvw] at c0
    rw [if_neg hi]
    rw [hie] at c1
    clear h hi hle hvw
    subst hie
    go_enter Tryd.func15, Tryd.ntmps15
    go_wp2_with fail
    go_quiet (fail)
    all_goals
      go_wp2
      exact ⟨rfl, rfl, by repeat (first | exact Drawn0.refl _ | apply Drawn0.step)⟩
set_option maxHeartbeats 2000000 in
set_option maxRecDepth 100000 in
theorem is_calls {p : Nat} {vw : Value} {ws : List Tok} {en : Int} {i : Nat} {o : Int} (W : World) (g0 : Nat) (t : ByteArray) (cp0 : Nat) (ht : W.cell? ⟨g0, 0, none⟩ = some (.string t)) (h : Rw p vw ws en i o W) :
    Calls Tryd.prog 21 #[.pointer (some ⟨p, 0, none⟩), .slice (some ⟨g0, 0, none⟩) 1 cp0] W fun r w' => r = .returned (.bool (isZ ws i t)) ∧ Drawn0 W w' := by
  have c0 := h.c0
  have c1 := h.c1
  have hki := kind_calls W h
  have hle := h.le
  by_cases hk : kindZ ws i = 10 ∨ kindZ ws i = 2
  · have hi : i < ws.length := by
      rcases Nat.lt_or_ge i ws.length with h1 | h1
      · exact h1
      · have : kindZ ws i = 0 := by simp [kindZ]; omega
        omega
    obtain ⟨g, cp, hvg, k0, k1, k3⟩ := h.word i hi
    have hi0 : (0 : Int) ≤ (i : Int) := by omega
    have hi1 : (i : Int) < (ws.length : Int) := by omega
    have hz : isZ ws i t = decide (ws[i].f3 = t) := by
      have : (decide (kindZ ws i = 10) || decide (kindZ ws i = 2)) = true := by simpa using hk
      simp [isZ, this, saidZ, hi]
    rw [hvg] at c0
    rw [hz]
    have HK : kindZ ws i = 10 ∨ (¬ kindZ ws i = 10 ∧ kindZ ws i = 2) := by omega
    clear hk
    generalize ws[i].f3 = x at *
    clear h hvg hz hle k0 k1
    generalize kindZ ws i = k at *
    go_enter Tryd.func21, Tryd.ntmps21
    obtain ⟨b, hb⟩ : ∃ b, decide (x = t) = b := ⟨_, rfl⟩
    rw [hb]
    have HB := Lib.hid hb
    clear hb
    rcases HK with rfl | ⟨hk1, rfl⟩
    all_goals
      go_wp2_with (go_at_call 14; refine hki.mono ?_; rintro e w' ⟨rfl, ⟨nd, rfl⟩⟩)
      go_loopg [18] 1 (fun g v wx => (g = 1 ∧ v = .int .i64 0 ∧ Drawn0 W wx) ∨ (g = 0 ∧ v = .int .i64 1 ∧ Hid (decide (x = t) = false) ∧ Drawn0 W wx))
      case atStart => exact Or.inl ⟨rfl, rfl, by repeat (first | exact Drawn0.refl _ | apply Drawn0.step)⟩
      case round =>
        rcases hrel with ⟨hg, rfl, ⟨n1, rfl⟩⟩ | ⟨hg, rfl, HE, ⟨n1, rfl⟩⟩
        · cases b with
          | true =>
            have hE := HB.out
            have hx : (x.toList == t.toList) = true := (bytes_beq x t).trans hE
            clear hE
            go_wp2_with fail
            go_quiet (fail)
            all_goals
              go_wp2
              go_ret
              exact ⟨rfl, by repeat (first | exact Drawn0.refl _ | apply Drawn0.step)⟩
          | false =>
            have hE := HB.out
            have hx : (x.toList == t.toList) = false := (bytes_beq x t).trans hE
            have HE := Lib.hid hE
            clear hE
            go_wp2_with fail
            go_quiet (fail)
            all_goals
              go_wp2
              go_roundg 0
              case rel => exact Or.inr ⟨rfl, rfl, HE, by repeat (first | exact Drawn0.refl _ | apply Drawn0.step)⟩
              case measure => omega
        · cases HB.out.symm.trans HE.out
          clear HE HB
          go_wp2
          go_ret
          exact ⟨rfl, by repeat (first | exact Drawn0.refl _ | apply Drawn0.step)⟩
  · have hz : isZ ws i t = false := by
      have : (decide (kindZ ws i = 10) || decide (kindZ ws i = 2)) = false := by simpa using hk
      simp [isZ, this]
    have h1 : (kindZ ws i != 10) = true := by simpa using fun e => hk (Or.inl e)
    have h2 : (kindZ ws i != 2) = true := by simpa using fun e => hk (Or.inr e)
    rw [hz]
    clear hz hk h hle
    generalize kindZ ws i = k at *
    go_enter Tryd.func21, Tryd.ntmps21
    go_wp2_with (go_at_call 14; refine hki.mono ?_; rintro e w' ⟨rfl, ⟨nd, rfl⟩⟩)
    go_ret
    exact ⟨rfl, by repeat (first | exact Drawn0.refl _ | apply Drawn0.step)⟩

/-- a call of the parser's that ends so: it gives up, or hands something back and the row has moved on -/
def Ends {α : Type} (p : Nat) (vw : Value) (ws : List Tok) (en : Int) (W : World) (Is : World → Value → α → Prop) (r : Except (Int × Int) (α × Nat × Int)) (e : Ending) (w' : World) : Prop :=
  match r with
  | .error x => e = .panicked (flt x.1 x.2) ∧ Kp p W w'
  | .ok x => (∃ v, e = .returned v ∧ Is w' v x.1) ∧ Rw p vw ws en x.2.1 x.2.2 w' ∧ Kp p W w'
theorem Kp.of_drawn {p : Nat} {w w' : World} (h : Drawn0 w w') : Kp p w w' := by
  obtain ⟨n, rfl⟩ := h.out
  exact (Kp.refl p w).drewN n
theorem Rw.of_drawn {p : Nat} {vw : Value} {ws : List Tok} {en : Int} {i : Nat} {o : Int} {w w' : World} (h : Rw p vw ws en i o w) (hd : Drawn0 w w') : Rw p vw ws en i o w' := by
  obtain ⟨n, rfl⟩ := hd.out
  exact Rw.of_heap (W := w) (W1 := w.drewN n) rfl h
/-- the place is set -/
theorem Rw.at {p : Nat} {vw : Value} {ws : List Tok} {en : Int} {i : Nat} {o : Int} {W : World} (h : Rw p vw ws en i o W) (j : Nat) (hj : j ≤ ws.length) (x : Int) (hx : x = (j : Int)) : Rw p vw ws en j o (W.setCell ⟨p, 1, none⟩ (.int .i64 x)) := by
  subst hx
  exact ⟨heap_setCell_same W p 1 _ _ _ h.blk, own_setCell h.wrd h.neW _, hj, h.big, h.olo, h.ohi, h.siz, h.bin.move (Below.heap_setCell W ⟨p, 1, none⟩ _ _ h.neB), h.nep⟩
/-- what is open is set -/
theorem Rw.opn {p : Nat} {vw : Value} {ws : List Tok} {en : Int} {i : Nat} {o : Int} {W : World} (h : Rw p vw ws en i o W) (x : Int) (h0 : 0 ≤ x) (h1 : x ≤ 64) : Rw p vw ws en i x (W.setCell ⟨p, 3, none⟩ (.int .i64 x)) :=
  ⟨heap_setCell_same W p 3 _ _ _ h.blk, own_setCell h.wrd h.neW _, h.le, h.big, h0, h1, h.siz, h.bin.move (Below.heap_setCell W ⟨p, 3, none⟩ _ _ h.neB), h.nep⟩
theorem isZ_lt {ws : List Tok} {i : Nat} {t : ByteArray} (h : isZ ws i t = true) : i < ws.length := by
  rcases Nat.lt_or_ge i ws.length with h1 | h1
  · exact h1
  · have : kindZ ws i = 0 := by simp [kindZ]; omega
    simp [isZ, this] at h
theorem kindZ_lt {ws : List Tok} {i : Nat} {k : Int} (h : kindZ ws i = k) (hk : k ≠ 0) : i < ws.length := by
  rcases Nat.lt_or_ge i ws.length with h1 | h1
  · exact h1
  · have : kindZ ws i = 0 := by simp [kindZ]; omega
    omega
def failE (ws : List Tok) (en : Int) (i : Nat) : Int × Int := if i < ws.length then (171, placeZ ws en i) else (170, en)
theorem failZ_eq {α : Type} (ws : List Tok) (en : Int) (i : Nat) : (failZ ws en i : PR α) = some (.error (failE ws en i)) := by
  unfold failZ failE
  by_cases h : i < ws.length
  · rw [if_pos h, if_pos h]; rfl
  · rw [if_neg h, if_neg h]; rfl
theorem fail_calls_row {p : Nat} {vw : Value} {ws : List Tok} {en : Int} {i : Nat} {o : Int} (W : World) (h : Rw p vw ws en i o W) :
    Calls Tryd.prog 15 #[.pointer (some ⟨p, 0, none⟩)] W fun r w' => r = .panicked (flt (failE ws en i).1 (failE ws en i).2) ∧ Drawn0 W w' := by
  refine (fail_row W h).mono ?_
  rintro e w' ⟨he, hd⟩
  refine ⟨?_, hd⟩
  rw [he]
  unfold failE
  by_cases hi : i < ws.length
  · rw [if_pos hi, if_pos hi]
  · rw [if_neg hi, if_neg hi]
set_option maxHeartbeats 2000000 in
set_option maxRecDepth 100000 in
theorem take_calls {p : Nat} {vw : Value} {ws : List Tok} {en : Int} {i : Nat} {o : Int} (W : World) (g0 : Nat) (t : ByteArray) (cp0 : Nat) (b : Bool) (hb : isZ ws i t = b) (ht : W.cell? ⟨g0, 0, none⟩ = some (.string t)) (h : Rw p vw ws en i o W) :
    Calls Tryd.prog 23 #[.pointer (some ⟨p, 0, none⟩), .slice (some ⟨g0, 0, none⟩) 1 cp0] W fun r w' => r = .returned (.bool b) ∧ Rw p vw ws en (if b then i + 1 else i) o w' ∧ Kp p W w' := by
  have hic := is_calls W g0 t cp0 ht h
  rw [hb] at hic
  have hlt := fun e : b = true => isZ_lt (hb.trans e)
  have hbig := h.big
  have c1 := h.c1
  have f1 := h.fr 1
  have H := Lib.hid h
  clear h hb ht
  go_enter Tryd.func23, Tryd.ntmps23
  cases b with
  | true =>
    have hlt := hlt rfl
    have hw : IntKind.i64.wrap ((i : Int) + 1) = (i : Int) + 1 := IntWalk.i64_in _ (by omega)
    go_wp2_with (go_at_call 21; refine hic.mono ?_; rintro e w' ⟨rfl, ⟨nd, rfl⟩⟩)
    go_ret
    exact ⟨rfl, (H.out.of_drawn (w' := W.drewN nd) ⟨nd, rfl⟩).at (i + 1) (by omega) _ (by omega), (Kp.of_drawn (p := p) ⟨nd, rfl⟩).set _ rfl _⟩
  | false =>
    go_wp2_with (go_at_call 21; refine hic.mono ?_; rintro e w' ⟨rfl, ⟨nd, rfl⟩⟩)
    go_ret
    exact ⟨rfl, H.out.of_drawn ⟨nd, rfl⟩, Kp.of_drawn ⟨nd, rfl⟩⟩

theorem Rw.alloc {p : Nat} {vw : Value} {ws : List Tok} {en : Int} {i : Nat} {o : Int} {W : World} (h : Rw p vw ws en i o W) (x : Obj) : Rw p vw ws en i o (W.alloc x) :=
  ⟨(Below.heap_alloc W x p h.lt).trans h.blk, own_move h.wrd fun k hk => Below.heap_alloc W x k (own_lt h.wrd k hk), h.le, h.big, h.olo, h.ohi, h.siz, h.bin.move (Below.heap_alloc W x _ h.ltB), h.nep⟩
theorem Kp.alloc {p : Nat} {a b : World} (h : Kp p a b) (x : Obj) : Kp p a (b.alloc x) :=
  h.trans ⟨rfl, rfl, rfl, by simp, fun k hk _ => Below.heap_alloc _ _ _ hk⟩
set_option maxHeartbeats 2000000 in
set_option maxRecDepth 100000 in
theorem want_calls {p : Nat} {vw : Value} {ws : List Tok} {en : Int} {i : Nat} {o : Int} (W : World) (t : ByteArray) (r : Except (Int × Int) (Unit × Nat × Int)) (hr : wantZ ws en t i o = some r) (h : Rw p vw ws en i o W) :
    Calls Tryd.prog 25 #[.pointer (some ⟨p, 0, none⟩), .string t] W (Ends p vw ws en W (fun _ v _ => v = .tuple #[]) r) := by
  have H := Lib.hid h
  have HT := fun W1 (h1 : Rw p vw ws en i o W1) b hb g0 cp0 ht => take_calls W1 g0 t cp0 b hb ht h1
  unfold wantZ at hr
  cases hb : isZ ws i t with
  | true =>
    rw [if_pos hb] at hr
    cases hr
    have HT := fun W1 h1 g0 cp0 ht => HT W1 h1 true hb g0 cp0 ht
    clear hb h
    go_enter Tryd.func25, Tryd.ntmps25
    go_wp2_with (go_at_call 23; refine (HT _ (H.out.alloc _) _ _ (by simp [World.cell?_alloc_new])).mono ?_; rintro e w' ⟨rfl, hw, hk⟩)
    go_end0
    exact ⟨⟨_, rfl, rfl⟩, hw, ((Kp.refl p W).alloc _).trans hk⟩
  | false =>
    rw [if_neg (by rw [hb]; decide), failZ_eq] at hr
    cases hr
    have HT := fun W1 h1 g0 cp0 ht => HT W1 h1 false hb g0 cp0 ht
    clear hb h
    go_enter Tryd.func25, Tryd.ntmps25
    go_wp2_with (first
      | (go_at_call 23; refine (HT _ (H.out.alloc _) _ _ (by simp [World.cell?_alloc_new])).mono ?_; rintro e w' ⟨rfl, hw, hk⟩)
      | (go_at_call 15; refine (fail_calls_row _ hw).mono ?_; rintro e w2 ⟨rfl, hd⟩))
    exact ⟨rfl, rfl, (((Kp.refl p W).alloc _).trans hk).trans (Kp.of_drawn hd)⟩
set_option maxHeartbeats 2000000 in
set_option maxRecDepth 100000 in
theorem opens_calls {p : Nat} {vw : Value} {ws : List Tok} {en : Int} {i : Nat} {o : Int} (W : World) (hi : i < ws.length) (r : Except (Int × Int) (Unit × Nat × Int)) (hr : opensZ ws en i o = some r) (h : Rw p vw ws en i o W) :
    Calls Tryd.prog 42 #[.pointer (some ⟨p, 0, none⟩)] W (Ends p vw ws en W (fun _ v _ => v = .tuple #[]) r) := by
  have c3 := h.c3
  have c1 := h.c1
  have f1 := h.fr 1
  have f3 := h.fr 3
  have hpl := place_calls W h
  have hbig := h.big
  have holo := h.olo
  have hohi := h.ohi
  have H := Lib.hid h
  clear h
  unfold opensZ at hr
  by_cases ho : o = 64
  · rw [if_pos ho] at hr
    cases hr
    clear hi
    subst ho
    go_enter Tryd.func42, Tryd.ntmps42
    go_wp2_with (go_at_call 20; refine hpl.mono ?_; rintro e w' ⟨rfl, ⟨nd, rfl⟩⟩)
    exact ⟨rfl, rfl, Kp.of_drawn ⟨nd, rfl⟩⟩
  · rw [if_neg ho] at hr
    cases hr
    have hw : IntKind.i64.wrap ((i : Int) + 1) = (i : Int) + 1 := IntWalk.i64_in _ (by omega)
    have hw2 : IntKind.i64.wrap (o + 1) = o + 1 := IntWalk.i64_in _ (by omega)
    go_enter Tryd.func42, Tryd.ntmps42
    go_wp2
    go_end0
    exact ⟨⟨_, rfl, rfl⟩, (H.out.opn (o + 1) (by omega) (by omega)).at (i + 1) (by omega) _ (by omega), ((Kp.refl p W).set _ rfl _).set _ rfl _⟩
set_option maxHeartbeats 2000000 in
set_option maxRecDepth 100000 in
theorem closes_calls {p : Nat} {vw : Value} {ws : List Tok} {en : Int} {i : Nat} {o : Int} (W : World) (ho : 1 ≤ o) (t : ByteArray) (r : Except (Int × Int) (Unit × Nat × Int)) (hr : closesZ ws en t i o = some r) (h : Rw p vw ws en i o W) :
    Calls Tryd.prog 44 #[.pointer (some ⟨p, 0, none⟩), .string t] W (Ends p vw ws en W (fun _ v _ => v = .tuple #[]) r) := by
  have hohi := h.ohi
  unfold closesZ at hr
  cases hz : wantZ ws en t i o with
  | none =>
    rw [hz] at hr
    cases hr
  | some z =>
    rw [hz] at hr
    have hwc := want_calls W t z hz h
    cases z with
    | error x =>
      cases hr
      clear h hz
      go_enter Tryd.func44, Tryd.ntmps44
      go_wp2_with (go_at_call 25; refine hwc.mono ?_; rintro e w' ⟨rfl, hk⟩)
      exact ⟨rfl, rfl, hk⟩
    | ok x =>
      obtain ⟨u, i1, o1⟩ := x
      have ho1 : o1 = o := by
        unfold wantZ at hz
        by_cases hb : isZ ws i t = true
        · rw [if_pos hb] at hz
          cases hz
          rfl
        · rw [if_neg hb, failZ_eq] at hz
          cases hz
      subst ho1
      cases hr
      have hw : IntKind.i64.wrap (o1 - 1) = o1 - 1 := IntWalk.i64_in _ (by omega)
      clear h hz
      go_enter Tryd.func44, Tryd.ntmps44
      go_wp2_with (go_at_call 25; refine hwc.mono ?_; rintro e w' ⟨⟨v, rfl, rfl⟩, hrw, hk⟩; have c3 := hrw.c3; have f3 := hrw.fr 3)
      have H := Lib.hid hrw
      have HK := Lib.hid hk
      go_wp2
      go_end0
      exact ⟨⟨_, rfl, rfl⟩, H.out.opn (o1 - 1) (by omega) (by omega), HK.out.set _ rfl _⟩
set_option maxHeartbeats 2000000 in
set_option maxRecDepth 100000 in
theorem name_calls {p : Nat} {vw : Value} {ws : List Tok} {en : Int} {i : Nat} {o : Int} (W : World) (k : Int) (hk0 : k ≠ 0) (r : Except (Int × Int) (ByteArray × Nat × Int)) (hr : nameZ ws en k i o = some r) (h : Rw p vw ws en i o W) :
    Calls Tryd.prog 24 #[.pointer (some ⟨p, 0, none⟩), .int .i64 k] W (Ends p vw ws en W (fun _ v t => v = .string t) r) := by
  have hkc := kind_calls W h
  unfold nameZ at hr
  by_cases hk : kindZ ws i = k
  · rw [if_pos hk] at hr
    cases hr
    have hi := kindZ_lt hk hk0
    obtain ⟨g, cp, hvg, k0, k1, k3⟩ := h.word i hi
    have hsd : saidZ ws i = ws[i].f3 := by simp [saidZ, hi]
    have hbig := h.big
    have c0 := h.c0
    have c1 := h.c1
    have f1 := h.fr 1
    have hgp : ¬ g = p := by
      have := h.neW
      rw [hvg] at this
      simpa [Value.ownBlock, eq_comm] using this
    have hw : IntKind.i64.wrap ((i : Int) + 1) = (i : Int) + 1 := IntWalk.i64_in _ (by omega)
    have hw2 : IntKind.i64.wrap ((i : Int) + 1 - 1) = (i : Int) := (IntWalk.i64_in _ (by omega)).trans (by omega)
    have hi0 : (0 : Int) ≤ (i : Int) := by omega
    have hi1 : (i : Int) < (ws.length : Int) := by omega
    have e1 : (i : Int) + 1 - 1 = (i : Int) := by omega
    rw [hk] at hkc
    rw [hvg] at c0
    rw [hsd]
    have H := Lib.hid h
    clear h hvg hsd hk
    go_enter Tryd.func24, Tryd.ntmps24
    go_wp2_with (go_at_call 14; refine hkc.mono ?_; rintro e w' ⟨rfl, ⟨nd, rfl⟩⟩)
    have hR : Rw p vw ws en (i + 1) o ((W.drewN nd).setCell ⟨p, 1, none⟩ (.int .i64 ((i : Int) + 1))) := (H.out.of_drawn (w' := W.drewN nd) ⟨nd, rfl⟩).at (i + 1) (by omega) _ (by omega)
    have hK : Kp p W ((W.drewN nd).setCell ⟨p, 1, none⟩ (.int .i64 ((i : Int) + 1))) := (Kp.of_drawn (p := p) ⟨nd, rfl⟩).set _ rfl _
    generalize (W.drewN nd).setCell ⟨p, 1, none⟩ (.int .i64 ((i : Int) + 1)) = w1 at hR hK ⊢
    clear c0 c1 k0 k1 k3 f1
    have c1 : w1.cell? ⟨p, 1, none⟩ = some (.int .i64 ((i : Int) + 1)) := hR.c1
    have c0 := hR.c0
    obtain ⟨g, cp, hvg, k0, k1, k3⟩ := hR.word i hi
    rw [hvg] at c0
    have HR := Lib.hid hR
    have HK := Lib.hid hK
    clear hR hK hvg k0 k1 H
    go_quiet (fail)
    all_goals
      go_wp2
      go_ret
      exact ⟨⟨_, rfl, rfl⟩, HR.out.of_drawn ⟨_, rfl⟩, HK.out.drewN _⟩
  · have hne : ¬ kindZ ws i = k := hk
    rw [if_neg hk, failZ_eq] at hr
    cases hr
    have hfl := fun k => fail_calls_row (W.drewN k) (Rw.of_heap (W := W) (W1 := W.drewN k) rfl h)
    clear h hk
    generalize kindZ ws i = k at *
    go_enter Tryd.func24, Tryd.ntmps24
    go_wp2_with (first
      | (go_at_call 14; refine hkc.mono ?_; rintro e w' ⟨rfl, ⟨nd, rfl⟩⟩)
      | (go_at_call 15; refine (hfl _).mono ?_; rintro e w2 ⟨rfl, ⟨nd2, rfl⟩⟩))
    exact ⟨rfl, rfl, Kp.of_drawn ⟨_, rfl⟩⟩

end Go.Proofs.YthlmhnlfcnpocaaDoor.U

namespace Go.Proofs.YthlmhnlfcnpocaaDoor.U
open Go.RowKit Go.Proofs.YthlmhnlfcnpocaaDoorW.PrintWords
set_option linter.unusedSimpArgs false
set_option linter.unusedVariables false

/-- a filter's cells -/
def ndCells (op a : Int) (t : ByteArray) (k : Int) (num vt : ByteArray) (vn vk : Value) : Array Value := #[.int .i64 op, .int .i64 a, .string t, .int .i64 k, .string num, .string vt, .slice none 0 0, .slice none 0 0, vn, vk]
/-- the list's block is one of these -/
def In (F : Nat → Prop) (v : Value) : Prop := ∀ k, v.ownBlock = some k → F k
def strs (l : List ByteArray) : List Value := l.map .string
def flat (vs : List (Array Value)) : List Value := vs.flatMap Array.toList

mutual
/-- cells that say a filter; the lists that it comes to lie in blocks of F -/
inductive Nd (F : Nat → Prop) (W : World) : Array Value → SN → Prop
  | mk {op a : Int} {t : ByteArray} {k : Int} {num vt : ByteArray} {vn vk : Value} {names : List ByteArray} {kids : List SN} {vs : List (Array Value)} :
      W.ownsRow 0 9 1 vn names.length (strs names) → In F vn → W.ownsRow 0 28 10 vk kids.length (flat vs) → In F vk → NdL F W vs kids →
      Nd F W (ndCells op a t k num vt vn vk) (.mk op a t k num vt names kids)
inductive NdL (F : Nat → Prop) (W : World) : List (Array Value) → List SN → Prop
  | nil : NdL F W [] []
  | cons {c : Array Value} {n : SN} {vs : List (Array Value)} {l : List SN} : Nd F W c n → NdL F W vs l → NdL F W (c :: vs) (n :: l)
end

mutual
theorem Nd.carry {F F' : Nat → Prop} {W W' : World} (hc : ∀ k, F k → k < W.heap.size → F' k ∧ W'.heap[k]? = W.heap[k]?) {c : Array Value} {n : SN} (h : Nd F W c n) : Nd F' W' c n := by
  match h with
  | .mk h1 h2 h3 h4 h5 =>
    exact .mk (own_move h1 fun k hk => (hc k (h2 k hk) (own_lt h1 k hk)).2) (fun k hk => (hc k (h2 k hk) (own_lt h1 k hk)).1)
      (own_move h3 fun k hk => (hc k (h4 k hk) (own_lt h3 k hk)).2) (fun k hk => (hc k (h4 k hk) (own_lt h3 k hk)).1) (NdL.carry hc h5)
theorem NdL.carry {F F' : Nat → Prop} {W W' : World} (hc : ∀ k, F k → k < W.heap.size → F' k ∧ W'.heap[k]? = W.heap[k]?) {vs : List (Array Value)} {l : List SN} (h : NdL F W vs l) : NdL F' W' vs l := by
  match h with
  | .nil => exact .nil
  | .cons h1 h2 => exact .cons (Nd.carry hc h1) (NdL.carry hc h2)
end

theorem own_one {w : World} {b : Nat} {e : TypeId} {s m : Nat} {v : Value} {xs : List Value} (h : w.ownsRow b e s v m xs) : v.oneCell' = true := by
  rcases h.2 with ⟨rfl, _⟩ | ⟨g, cap, cur, rfl, _⟩ <;> rfl
theorem Nd.size {F : Nat → Prop} {W : World} {c : Array Value} {n : SN} (h : Nd F W c n) : c.size = 10 := by
  cases h
  rfl
theorem Nd.one {F : Nat → Prop} {W : World} {c : Array Value} {n : SN} (h : Nd F W c n) : c.all (·.oneCell') = true := by
  cases h with
  | mk h1 h2 h3 h4 h5 =>
    have e1 := own_one h1
    have e2 := own_one h3
    unfold Value.oneCell' at e1 e2
    simp [ndCells, Value.oneCell']
    exact ⟨e1, e2⟩
theorem NdL.length {F : Nat → Prop} {W : World} {vs : List (Array Value)} {l : List SN} (h : NdL F W vs l) : vs.length = l.length := by
  match vs, l, h with
  | [], [], .nil => rfl
  | _ :: _, _ :: _, .cons h1 h2 => simp [NdL.length h2]
theorem NdL.flat {F : Nat → Prop} {W : World} {vs : List (Array Value)} {l : List SN} (h : NdL F W vs l) : (flat vs).length = l.length * 10 := by
  match vs, l, h with
  | [], [], .nil => rfl
  | _ :: _, _ :: _, .cons h1 h2 =>
    have e := NdL.flat h2
    have e1 := h1.size
    simp only [U.flat, List.flatMap_cons, List.length_append, Array.length_toList, List.length_cons] at e ⊢
    omega
theorem NdL.append {F : Nat → Prop} {W : World} {vs vs' : List (Array Value)} {l l' : List SN} (h : NdL F W vs l) (g : NdL F W vs' l') : NdL F W (vs ++ vs') (l ++ l') := by
  match vs, l, h with
  | [], [], .nil => exact g
  | _ :: _, _ :: _, .cons h1 h2 => exact .cons h1 (NdL.append h2 g)
theorem NdL.snoc {F : Nat → Prop} {W : World} {vs : List (Array Value)} {l : List SN} {c : Array Value} {n : SN} (h : NdL F W vs l) (g : Nd F W c n) : NdL F W (vs ++ [c]) (l ++ [n]) := h.append (.cons g .nil)
theorem flat_snoc (vs : List (Array Value)) (c : Array Value) : flat (vs ++ [c]) = flat vs ++ c.toList := by simp [flat]
theorem flat_append (vs vs' : List (Array Value)) : flat (vs ++ vs') = flat vs ++ flat vs' := by simp [flat]

/-- ONLY BLOCKS OF M MAY HAVE CHANGED. -/
structure Kq (M : Nat → Prop) (w w' : World) : Prop where
  os : w'.os = w.os
  tape : w'.tape = w.tape
  output : w'.output = w.output
  size : w.heap.size ≤ w'.heap.size
  block : ∀ k, k < w.heap.size → ¬ M k → w'.heap[k]? = w.heap[k]?
theorem Kq.refl (M : Nat → Prop) (w : World) : Kq M w w := ⟨rfl, rfl, rfl, Nat.le_refl _, fun _ _ _ => rfl⟩
theorem Kq.trans {M : Nat → Prop} {a b c : World} (h : Kq M a b) (k : Kq M b c) : Kq M a c :=
  ⟨k.os.trans h.os, k.tape.trans h.tape, k.output.trans h.output, Nat.le_trans h.size k.size, fun i hi hp => (k.block i (Nat.lt_of_lt_of_le hi h.size) hp).trans (h.block i hi hp)⟩
theorem Kp.toq {p : Nat} {M : Nat → Prop} {w w' : World} (h : Kp p w w') (hp : M p) : Kq M w w' := ⟨h.os, h.tape, h.output, h.size, fun k hk hm => h.block k hk (fun e => hm (e ▸ hp))⟩
theorem Kq.top {p : Nat} {w w' : World} (h : Kq (· = p) w w') : Kp p w w' := ⟨h.os, h.tape, h.output, h.size, fun k hk hm => h.block k hk hm⟩

theorem blt_ne {M : Nat → Prop} {n g b : Nat} (h : g < n ∧ ¬ M g) (hb : n ≤ b ∨ M b) : g ≠ b := by
  rintro rfl
  rcases hb with h1 | h1
  · omega
  · exact h.2 h1
/-- WHAT A CALL OF THE PARSER'S HAS AT A PLACE OF ITS TEXT: the row, its own variables (L: block, type, cells), the filters that it holds (V); W0: the world that it began in; M: what of it may change; G: where filters may lie. -/
structure St (p : Nat) (vw : Value) (ws : List Tok) (en : Int) (W0 : World) (M G : Nat → Prop) (L : List (Nat × TypeId × Array Value)) (V : List (Array Value × SN)) (i : Nat) (o : Int) (w : World) : Prop where
  row : Rw p vw ws en i o w
  kep : Kq M W0 w
  loc : ∀ x ∈ L, w.heap[x.1]? = some (.cells x.2.2 x.2.1 (0, 0)) ∧ (W0.heap.size ≤ x.1 ∨ M x.1) ∧ x.1 ≠ p
  dis : L.Pairwise fun x y => x.1 ≠ y.1
  nds : ∀ x ∈ V, Nd (fun k => G k ∧ ∀ y ∈ L, k ≠ y.1) w x.1 x.2
  gp : ∀ k, M k → ¬ G k
  gn : ∀ k, W0.heap.size ≤ k → G k
  mp : M p
  wlt : In (fun k => k < W0.heap.size ∧ ¬ M k) vw
  blt : 0 < W0.heap.size ∧ ¬ M 0

section
variable {p : Nat} {vw : Value} {ws : List Tok} {en : Int} {W0 : World} {M G : Nat → Prop} {L : List (Nat × TypeId × Array Value)} {V : List (Array Value × SN)} {i : Nat} {o : Int} {w : World}
/-- a call begins, with filters that it was handed -/
theorem St.start (h : Rw p vw ws en i o W0) (gp : ¬ G p) (gn : ∀ k, W0.heap.size ≤ k → G k) (hV : ∀ x ∈ V, Nd G W0 x.1 x.2) : St p vw ws en W0 (· = p) G [] V i o W0 :=
  ⟨h, Kq.refl _ _, fun _ hx => (by cases hx), .nil, fun x hx => (hV x hx).carry fun k hk _ => ⟨⟨hk, fun _ hy => (by cases hy)⟩, rfl⟩, fun k hk => by rw [hk]; exact gp, gn, rfl, fun k hk => ⟨own_lt h.wrd k hk, fun e => h.neW (by rw [hk, e])⟩, h.ltB, h.neB⟩
/-- a call that is handed a variable to write -/
theorem St.startB (h : Rw p vw ws en i o W0) (b : Nat) (cs : Array Value) (hb : W0.heap[b]? = some (.cells cs 28 (0, 0))) (hsz : cs.size ≠ 92) : St p vw ws en W0 (fun k => k = p ∨ k = b) (W0.heap.size ≤ ·) [(b, 28, cs)] [] i o W0 := by
  have hbl := (Array.getElem?_eq_some_iff.1 hb).1
  have hne : b ≠ p := by
    rintro rfl
    have := h.blk
    rw [hb] at this
    injection this with this
    injection this with _ this _
    exact absurd this (by decide)
  have hp := h.lt
  refine ⟨h, Kq.refl _ _, fun x hx => ?_, List.pairwise_singleton _ _, fun _ hx => (by cases hx), ?_, fun _ hk => hk, Or.inl rfl, fun k hk => ⟨own_lt h.wrd k hk, ?_⟩, h.ltB, ?_⟩
  · rw [List.mem_singleton] at hx
    subst hx
    exact ⟨hb, Or.inr (Or.inr rfl), hne⟩
  · rintro k (rfl | rfl) <;> omega
  · rintro (rfl | rfl)
    · exact h.neW hk.symm
    · exact own_ne h.wrd hb (by decide) hk.symm
  · rintro (e | e)
    · exact h.neB e
    · obtain ⟨T, fz, h1⟩ := h.bin
      rw [e, hb] at h1
      injection h1 with h1
      injection h1 with h1 _ _
      have h2 := congrArg Array.size h1
      exact hsz (by rw [h2]; rfl)
theorem St.base (h : St p vw ws en W0 M G L V i o w) : W0.heap.size ≤ w.heap.size := h.kep.size
theorem St.blk (h : St p vw ws en W0 M G L V i o w) (b : Nat) (T : TypeId) (cs : Array Value) (hm : (b, T, cs) ∈ L) : w.heap[b]? = some (.cells cs T (0, 0)) := (h.loc _ hm).1
theorem St.lt (h : St p vw ws en W0 M G L V i o w) {x : Nat × TypeId × Array Value} (hm : x ∈ L) : x.1 < w.heap.size := (Array.getElem?_eq_some_iff.1 (h.loc _ hm).1).1
/-- behind a call: the row moved, and nothing else that was there -/
theorem St.call {i' : Nat} {o' : Int} {w' : World} (h : St p vw ws en W0 M G L V i o w) (hr : Rw p vw ws en i' o' w') (hk : Kp p w w') : St p vw ws en W0 M G L V i' o' w' where
  row := hr
  kep := h.kep.trans (hk.toq h.mp)
  loc := fun x hx => ⟨(hk.block x.1 (h.lt hx) (h.loc x hx).2.2).trans (h.loc x hx).1, (h.loc x hx).2⟩
  dis := h.dis
  nds := fun x hx => (h.nds x hx).carry fun k hk' hlt => ⟨hk', hk.block k hlt (fun e => h.gp k (e ▸ h.mp) hk'.1)⟩
  gp := h.gp
  gn := h.gn
  mp := h.mp
  wlt := h.wlt
  blt := h.blt
/-- behind a call that hands a filter back -/
theorem St.ends {i' : Nat} {o' : Int} {w' : World} {c : Array Value} {n : SN} (h : St p vw ws en W0 M G L V i o w) (hr : Rw p vw ws en i' o' w') (hk : Kp p w w')
    (hn : Nd (fun k => (G k ∧ ∀ y ∈ L, k ≠ y.1) ∨ w.heap.size ≤ k) w' c n) : St p vw ws en W0 M G L ((c, n) :: V) i' o' w' where
  row := hr
  kep := h.kep.trans (hk.toq h.mp)
  loc := (h.call hr hk).loc
  dis := h.dis
  nds := fun x hx => by
    rcases List.mem_cons.1 hx with rfl | hx
    · refine hn.carry fun k hk' _ => ⟨?_, rfl⟩
      rcases hk' with hk' | hk'
      · exact hk'
      · exact ⟨h.gn k (Nat.le_trans h.base hk'), fun y hy => by have := h.lt hy; omega⟩
    · exact (h.call hr hk).nds x hx
  gp := h.gp
  gn := h.gn
  mp := h.mp
  wlt := h.wlt
  blt := h.blt
/-- a new variable -/
theorem St.alloc (h : St p vw ws en W0 M G L V i o w) (T : TypeId) (cs : Array Value) : St p vw ws en W0 M G ((w.heap.size, T, cs) :: L) V i o (w.alloc (.cells cs T (0, 0))) where
  row := h.row.alloc _
  kep := h.kep.trans ⟨rfl, rfl, rfl, by simp, fun k hk _ => Below.heap_alloc _ _ _ hk⟩
  loc := fun x hx => by
    rcases List.mem_cons.1 hx with rfl | hx
    · exact ⟨heap_alloc_new _ _, Or.inl h.base, fun e => by have := h.row.lt; simp only at e; omega⟩
    · exact ⟨(Below.heap_alloc w _ _ (h.lt hx)).trans (h.loc x hx).1, (h.loc x hx).2⟩
  dis := List.pairwise_cons.2 ⟨fun x hx e => by have := h.lt hx; simp only at e; omega, h.dis⟩
  nds := fun x hx => (h.nds x hx).carry fun k hk hlt => ⟨⟨hk.1, fun y hy => by
    rcases List.mem_cons.1 hy with rfl | hy
    · exact Nat.ne_of_lt hlt
    · exact hk.2 y hy⟩, Below.heap_alloc w _ _ hlt⟩
  gp := h.gp
  gn := h.gn
  mp := h.mp
  wlt := h.wlt
  blt := h.blt
theorem St.allocAt (h : St p vw ws en W0 M G L V i o w) (b : Nat) (hb : w.heap.size = b) (T : TypeId) (cs : Array Value) : St p vw ws en W0 M G ((b, T, cs) :: L) V i o (w.alloc (.cells cs T (0, 0))) := by
  subst hb
  exact h.alloc T cs
/-- the next word is passed -/
theorem St.step (h : St p vw ws en W0 M G L V i o w) (hi : i < ws.length) : St p vw ws en W0 M G L V (i + 1) o (w.setCell ⟨p, 1, none⟩ (.int .i64 ((i : Int) + 1))) :=
  h.call (h.row.at (i + 1) hi ((i : Int) + 1) (by omega)) ((Kp.refl _ _).set ⟨p, 1, none⟩ rfl _)
/-- what is open is shut -/
theorem St.down (h : St p vw ws en W0 M G L V i o w) (ho : 1 ≤ o) : St p vw ws en W0 M G L V i (o - 1) (w.setCell ⟨p, 3, none⟩ (.int .i64 (o - 1))) :=
  h.call (h.row.opn (o - 1) (by omega) (by have := h.row.ohi; omega)) ((Kp.refl _ _).set ⟨p, 3, none⟩ rfl _)
theorem St.downTo (h : St p vw ws en W0 M G L V i o w) (x : Int) (hx : x = o - 1) (ho : 1 ≤ o) : St p vw ws en W0 M G L V i x (w.setCell ⟨p, 3, none⟩ (.int .i64 x)) := by
  subst hx
  exact h.down ho
theorem St.wrapO (h : St p vw ws en W0 M G L V i o w) : IntKind.i64.wrap o = o := IntWalk.i64_in _ (by have := h.row.olo; have := h.row.ohi; omega)
theorem St.wrapU (h : St p vw ws en W0 M G L V i o w) : IntKind.i64.wrap ((i : Int) + 1) = (i : Int) + 1 := IntWalk.i64_in _ (by have := h.row.le; have := h.row.big; omega)
theorem St.wrapD (h : St p vw ws en W0 M G L V i o w) : IntKind.i64.wrap (o - 1) = o - 1 := IntWalk.i64_in _ (by have := h.row.olo; have := h.row.ohi; omega)
/-- memory that is nobody's: a row of texts handed to a call -/
theorem St.waste (h : St p vw ws en W0 M G L V i o w) (x : Obj) : St p vw ws en W0 M G L V i o (w.alloc x) :=
  h.call (h.row.alloc _) ((Kp.refl _ _).alloc _)
/-- a list of filters is laid down: a filter that holds it -/
theorem St.build (h : St p vw ws en W0 M G L V i o w) (op a : Int) (t : ByteArray) (vs : List (Array Value)) (l : List SN) (hl : NdL (fun k => G k ∧ ∀ y ∈ L, k ≠ y.1) w vs l) (hne : l.length ≠ 0) (hle : l.length ≤ 4) (cur : Array Value) (hcur : cur.toList = flat vs) :
    St p vw ws en W0 M G L ((ndCells op a t 0 ⟨#[]⟩ ⟨#[]⟩ (.slice none 0 0) (.slice (some ⟨w.heap.size, 0, none⟩) l.length l.length), .mk op a t 0 ⟨#[]⟩ ⟨#[]⟩ [] l) :: V) i o (w.alloc (.cells cur 28 (0, 0))) := by
  refine St.ends h (h.row.alloc _) ((Kp.refl _ _).alloc _) ?_
  refine .mk ⟨rfl, Or.inl ⟨rfl, rfl⟩⟩ (fun k hk => by simp [Value.ownBlock] at hk) (vs := vs) ⟨hl.flat, Or.inr ⟨w.heap.size, l.length, cur, rfl, Nat.zero_le _, heap_alloc_new _ _, Nat.le_refl _, by unfold maxLen; omega, ?_, ?_⟩⟩ (fun k hk => ?_) (hl.carry fun k hk hlt => ⟨Or.inl hk, Below.heap_alloc w _ _ hlt⟩)
  · rw [← Array.length_toList, hcur]; exact hl.flat
  · rw [hcur, List.take_of_length_le (by rw [hl.flat]; omega)]
  · have : w.heap.size = k := by simpa [Value.ownBlock] using hk
    exact Or.inr (Nat.le_of_eq this)
/-- a filter with no lists -/
theorem St.plain (h : St p vw ws en W0 M G L V i o w) (op a : Int) (t : ByteArray) (k : Int) (num vt : ByteArray) :
    St p vw ws en W0 M G L ((ndCells op a t k num vt (.slice none 0 0) (.slice none 0 0), .mk op a t k num vt [] []) :: V) i o w :=
  St.ends h h.row (Kp.refl _ _) (.mk ⟨rfl, Or.inl ⟨rfl, rfl⟩⟩ (fun k hk => by simp [Value.ownBlock] at hk) (vs := []) ⟨rfl, Or.inl ⟨rfl, rfl⟩⟩ (fun k hk => by simp [Value.ownBlock] at hk) .nil)
theorem St.drop {V' : List (Array Value × SN)} (h : St p vw ws en W0 M G L V i o w) (hs : ∀ x ∈ V', x ∈ V) : St p vw ws en W0 M G L V' i o w :=
  ⟨h.row, h.kep, h.loc, h.dis, fun x hx => h.nds x (hs x hx), h.gp, h.gn, h.mp, h.wlt, h.blt⟩
/-- a variable of the call's own is written: block b's cells are others -/
theorem St.put {w' : World} (h : St p vw ws en W0 M G L V i o w) (j : Nat) (b : Nat) (T : TypeId) (cs cs' : Array Value) (hj : L[j]? = some (b, T, cs)) (hw : w'.heap[b]? = some (.cells cs' T (0, 0))) (ho : ∀ k, k ≠ b → w'.heap[k]? = w.heap[k]?) (hz : w'.heap.size = w.heap.size) (hos : w'.os = w.os) (htp : w'.tape = w.tape) (hou : w'.output = w.output) :
    St p vw ws en W0 M G (L.set j (b, T, cs')) V i o w' := by
  have hm := List.mem_of_getElem? hj
  have hb0 := (h.loc _ hm).2
  have hpb : p ≠ b := fun e => hb0.2 e.symm
  obtain ⟨hjl, hje⟩ := List.getElem?_eq_some_iff.1 hj
  have hset : ∀ y ∈ L.set j (b, T, cs'), ∃ z ∈ L, z.1 = y.1 := by
    intro y hy
    rcases List.mem_or_eq_of_mem_set hy with hy | rfl
    · exact ⟨y, hy, rfl⟩
    · exact ⟨_, hm, rfl⟩
  have hget : ∀ y ∈ L, ∃ z ∈ L.set j (b, T, cs'), z.1 = y.1 := by
    intro y hy
    obtain ⟨m, hml, rfl⟩ := List.mem_iff_getElem.1 hy
    by_cases hmj : j = m
    · subst hmj
      refine ⟨(b, T, cs'), List.mem_iff_getElem.2 ⟨j, by simpa using hjl, by simp⟩, ?_⟩
      rw [hje]
    · exact ⟨L[m], List.mem_iff_getElem.2 ⟨m, by simpa using hml, by simp [hmj]⟩, rfl⟩
  refine ⟨⟨(ho p hpb).trans h.row.blk, own_move h.row.wrd fun k hk => ho k (fun e => ?_), h.row.le, h.row.big, h.row.olo, h.row.ohi, h.row.siz, h.row.bin.move (ho _ (blt_ne h.blt hb0.1)), h.row.nep⟩, ?_, ?_, ?_, ?_, h.gp, h.gn, h.mp, h.wlt, h.blt⟩
  · have h1 := h.wlt k hk
    rcases hb0.1 with h2 | h2
    · simp only at h2
      omega
    · exact h1.2 (e ▸ h2)
  · refine ⟨hos.trans h.kep.os, htp.trans h.kep.tape, hou.trans h.kep.output, by rw [hz]; exact h.kep.size, fun k hk hp => (ho k ?_).trans (h.kep.block k hk hp)⟩
    intro e
    rcases hb0.1 with h2 | h2
    · simp only at h2
      omega
    · exact hp (e ▸ h2)
  · intro x hx
    obtain ⟨m, hml, hme⟩ := List.mem_iff_getElem.1 hx
    have hml' : m < L.length := by simpa using hml
    by_cases hmj : j = m
    · subst hmj
      have : x = (b, T, cs') := by rw [← hme]; simp
      subst this
      exact ⟨hw, hb0⟩
    · have hxe : x = L[m] := by rw [← hme]; simp [hmj]
      subst hxe
      have hne : L[m].1 ≠ b := by
        have hd := List.pairwise_iff_getElem.1 h.dis
        rcases Nat.lt_or_ge j m with h1 | h1
        · have := hd j m hjl hml' h1
          rw [hje] at this
          exact fun e => this e.symm
        · have := hd m j hml' hjl (by omega)
          rw [hje] at this
          exact this
      exact ⟨(ho _ hne).trans (h.loc _ (List.getElem_mem hml')).1, (h.loc _ (List.getElem_mem hml')).2⟩
  · refine List.pairwise_iff_getElem.2 fun m1 m2 h1 h2 hlt => ?_
    have hd := List.pairwise_iff_getElem.1 h.dis m1 m2 (by simpa using h1) (by simpa using h2) hlt
    have key : ∀ m (hm : m < (L.set j (b, T, cs')).length), ((L.set j (b, T, cs'))[m]).1 = (L[m]'(by simpa using hm)).1 := by
      intro m hm
      by_cases hmj : j = m
      · subst hmj
        simp [hje]
      · simp [hmj]
    rw [key m1 h1, key m2 h2]
    exact hd
  · intro x hx
    refine (h.nds x hx).carry fun k hk hlt => ⟨⟨hk.1, fun y hy => ?_⟩, ho k (hk.2 _ hm)⟩
    obtain ⟨z, hz1, hz2⟩ := hset y hy
    rw [← hz2]
    exact hk.2 z hz1
/-- a whole variable is written -/
theorem St.setRow (h : St p vw ws en W0 M G L V i o w) (j : Nat) (b : Nat) (T : TypeId) (cs cs' : Array Value) (hj : L[j]? = some (b, T, cs)) : St p vw ws en W0 M G (L.set j (b, T, cs')) V i o (w.setRow b cs') := by
  have hb := (h.loc _ (List.mem_of_getElem? hj)).1
  have hlt := (Array.getElem?_eq_some_iff.1 hb).1
  refine h.put j b T cs cs' hj ?_ (fun k hk => ?_) (by simp [World.setRow]) rfl rfl rfl
  · simp only [World.setRow, Array.getElem?_modify, if_pos]
    simp only at hb
    rw [hb]
    rfl
  · simp only [World.setRow, Array.getElem?_modify]
    rw [if_neg (fun e => hk e.symm)]
/-- one cell of a variable is written -/
theorem St.setCell (h : St p vw ws en W0 M G L V i o w) (j : Nat) (b : Nat) (T : TypeId) (cs : Array Value) (hj : L[j]? = some (b, T, cs)) (m : Nat) (v : Value) (cs' : Array Value) (hcs : cs.setIfInBounds m v = cs') : St p vw ws en W0 M G (L.set j (b, T, cs')) V i o (w.setCell ⟨b, m, none⟩ v) := by
  subst hcs
  have hb := (h.loc _ (List.mem_of_getElem? hj)).1
  refine h.put j b T cs _ hj ?_ (fun k hk => Below.heap_setCell _ _ _ _ hk) (by simp [World.setCell]) rfl rfl rfl
  simp only [World.setCell, Array.getElem?_modify, if_pos]
  simp only at hb
  rw [hb]
  rfl
end

def isStruct : Option TypeDesc → Bool
  | some (.struct _) => true
  | _ => false
theorem isStruct_some {d : Option TypeDesc} (h : isStruct d = true) : ∃ l, d = some (.struct l) := by
  match d, h with
  | some (.struct l), _ => exact ⟨l, rfl⟩
theorem nodeU : ∃ l, Tryd.prog.underlying 28 = some (.struct l) := isStruct_some (by kernel_rfl)
theorem nodeZ : (Tryd.prog.info? 28).map (·.size) = some 10 := by kernel_rfl
section
variable {ops : Array Oper} {rest : List Oper} {o : Oper} {a : Act} {w : World} {Q : Exit → Act → World → Prop}
/-- a filter is read out of a variable -/
theorem ld_node (hgd : o.guard = none) (x : Operand) (ho : o.op = .load 28 x) (g : Nat) (hx : a.eval x = .pointer (some ⟨g, 0, none⟩)) (cs : Array Value) (hg : w.heap[g]? = some (.cells cs 28 (0, 0))) (hs : cs.size = 10)
    (h : wpList Tryd.prog ops Q rest (a.put o.dst (.agg cs)) w) : wpList Tryd.prog ops Q (o :: rest) a w := by
  obtain ⟨l, hu⟩ := nodeU
  exact wpList_load_row hgd 28 x ho g hx 28 cs (0, 0) _ hg hu rfl (by rw [nodeZ, hs]) h
/-- the same, as one that may be taken first -/
theorem yl_node {S : World → Prop} (x : Operand) (ho : o.op = .load 28 x) (hw : Region.wanted o (yielded ops a.tmps) = true) (g : Nat) (hx : a.eval x = .pointer (some ⟨g, 0, none⟩)) (cs : Array Value) (hg : ∀ w, S w → w.heap[g]? = some (.cells cs 28 (0, 0))) (hs : cs.size = 10) : YieldsIf Tryd.prog ops S o (.agg cs) a := by
  obtain ⟨l, hu⟩ := nodeU
  refine Or.inl ⟨hw, fun w hS => ?_⟩
  unfold execOp
  simp only [ho, hx, Instr.loadAt, Instr.sureAddr, Sem.run_bind, Sem.run_pure, Result.andThen_ok, run_loadVar_row w g 28 28 cs (0, 0) _ (hg w hS) hu rfl (by rw [nodeZ, hs])]
/-- a filter is laid into a variable -/
theorem st_node (hgd : o.guard = none) (x y : Operand) (ho : o.op = .store 28 x y) (g : Nat) (cells : Array Value) (hx : a.eval x = .pointer (some ⟨g, 0, none⟩)) (hy : a.eval y = .agg cells) (old : Array Value) (hg : w.heap[g]? = some (.cells old 28 (0, 0))) (hs : cells.size = 10) (hold : old.size = 10) (h1 : cells.all (·.oneCell') = true)
    (h : wpList Tryd.prog ops Q rest (a.put o.dst undef) (w.setRow g cells)) : wpList Tryd.prog ops Q (o :: rest) a w :=
  wpList_store_row hgd 28 x y ho g cells hx hy 28 old hg (by rw [nodeZ, hs]) (by rw [hold, hs]) h1 h
end
theorem one_cells {v : Value} (hv : v.oneCell' = true) : v.cells = #[v] := by
  cases v <;> first | rfl | (simp [Value.oneCell'] at hv)
theorem run_storeVar_one' {P : Program} (e : TypeId) (hz : (P.info? e).map (·.size) = some 1) (a : Addr) (v o : Value) (hv : v.oneCell' = true) (w : World) (hc : w.cell? a = some o) (hf : w.frozen? a = false) :
    (storeVar e a v).run P w = .ok () (w.setCell a v) := by
  cases hq : P.info? e with
  | none => simp [hq] at hz
  | some ie =>
    have hs : ie.size = 1 := by simpa [hq] using hz
    have hadd : a.add 0 = a := by unfold Addr.add; split <;> simp_all
    simp [storeVar, one_cells hv, sizeOf, typeInfo, hq, hs, storeCells, run_store P _ _ v _ hv, hadd, hc, hf, Result.andThen]
section
variable {ops : Array Oper} {rest : List Oper} {o : Oper} {a : Act} {w : World} {Q : Exit → Act → World → Prop}
/-- a field of a variable is set -/
theorem wp_st_cell {K : Act → World → Prop} (ty : TypeId) (x y : Operand) (ho : o.op = .store ty x y) (hz : (Tryd.prog.info? ty).map (·.size) = some 1) (g j : Nat) (v : Value) (hx : a.eval x = .pointer (some ⟨g, j, none⟩)) (hy : a.eval y = v) (hv : v.oneCell' = true) (T : TypeId) (old : Array Value) (hg : w.heap[g]? = some (.cells old T (0, 0))) (hj : j < old.size)
    (h : K (a.put o.dst undef) (w.setCell ⟨g, j, none⟩ v)) : o.wp Tryd.prog a w K Q := by
  have hc : w.cell? ⟨g, j, none⟩ = some old[j] := by rw [cell_of_row w g j old T _ hg]; simp [hj]
  have hf : w.frozen? ⟨g, j, none⟩ = false := frozen_of_row w g j _ _ hg
  unfold Oper.wp execOp
  simp only [ho, hx, hy, Instr.storeAt, Instr.sureAddr, Sem.run_bind, Sem.run_pure, Result.andThen_ok, run_storeVar_one' ty hz _ v _ hv w hc hf]
  exact h
theorem st_cell (hgd : o.guard = none) (ty : TypeId) (x y : Operand) (ho : o.op = .store ty x y) (hz : (Tryd.prog.info? ty).map (·.size) = some 1) (g j : Nat) (v : Value) (hx : a.eval x = .pointer (some ⟨g, j, none⟩)) (hy : a.eval y = v) (hv : v.oneCell' = true) (T : TypeId) (old : Array Value) (hg : w.heap[g]? = some (.cells old T (0, 0))) (hj : j < old.size)
    (h : wpList Tryd.prog ops Q rest (a.put o.dst undef) (w.setCell ⟨g, j, none⟩ v)) : wpList Tryd.prog ops Q (o :: rest) a w := by
  exact wpList_plain hgd fun K hK => wp_st_cell ty x y ho hz g j v hx hy hv T old hg hj (hK _ _ h)
end
section
variable {ops : Array Oper} {rest : List Oper} {o : Oper} {a : Act} {w : World} {Q : Exit → Act → World → Prop}
theorem st_cellO (hgd : o.guard = none) (ty : TypeId) (x y : Operand) (ho : o.op = .store ty x y) (hz : (Tryd.prog.info? ty).map (·.size) = some 1) (g j : Nat) (v : Value) (hx : a.eval x = .pointer (some ⟨g, j, none⟩)) (hy : a.eval y = v) (hv : v.oneCell' = true) (T : TypeId) (old : Array Value) (hg : w.heap[g]? = some (.cells old T (0, 0))) (hj : j < old.size)
    (h : ∀ w', w' = w.setCell ⟨g, j, none⟩ v → wpList Tryd.prog ops Q rest (a.put o.dst undef) w') : wpList Tryd.prog ops Q (o :: rest) a w :=
  st_cell hgd ty x y ho hz g j v hx hy hv T old hg hj (h _ rfl)
theorem st_nodeO (hgd : o.guard = none) (x y : Operand) (ho : o.op = .store 28 x y) (g : Nat) (cells : Array Value) (hx : a.eval x = .pointer (some ⟨g, 0, none⟩)) (hy : a.eval y = .agg cells) (old : Array Value) (hg : w.heap[g]? = some (.cells old 28 (0, 0))) (hs : cells.size = 10) (hold : old.size = 10) (h1 : cells.all (·.oneCell') = true)
    (h : ∀ w', w' = w.setRow g cells → wpList Tryd.prog ops Q rest (a.put o.dst undef) w') : wpList Tryd.prog ops Q (o :: rest) a w :=
  st_node hgd x y ho g cells hx hy old hg hs hold h1 (h _ rfl)
end
theorem set_list (off : Nat) : ∀ (l : List Value) (k : Nat) (acc : Array Value), off + k + l.length ≤ acc.size →
    ((l.zipIdx k).foldl (fun cs x => cs.setIfInBounds (off + x.2) x.1) acc).toList = acc.toList.take (off + k) ++ l ++ acc.toList.drop (off + k + l.length)
  | [], k, acc, _ => by simp
  | v :: l, k, acc, h => by
    have h' : off + (k + 1) + l.length ≤ (acc.setIfInBounds (off + k) v).size := by simp at h ⊢; omega
    rw [List.zipIdx_cons, List.foldl_cons, set_list off l (k + 1) _ h']
    apply List.ext_getElem?
    intro m
    simp only [Array.toList_setIfInBounds, List.getElem?_append, List.length_append, List.length_take, List.length_set, Array.length_toList, List.length_cons, List.getElem?_take, List.getElem?_drop, List.getElem?_set]
    simp only [List.length_cons] at h
    rw [show min (off + (k + 1)) acc.size = off + k + 1 by omega, show min (off + k) acc.size = off + k by omega]
    by_cases h1 : m < off + k
    · simp [h1, show m < off + k + 1 by omega, show m < off + k + 1 + l.length by omega, show m < off + k + (l.length + 1) by omega, show m < off + (k + 1) by omega, show ¬ off + k = m by omega]
    · by_cases h2 : m = off + k
      · subst h2
        simp [show off + k < off + k + (l.length + 1) by omega, show off + k < off + (k + 1) by omega, show off + k < off + k + 1 + l.length by omega, show off + k < acc.size by omega]
      · by_cases h3 : m < off + k + 1 + l.length
        · simp [h1, h3, show ¬ m < off + k + 1 by omega, show m < off + k + (l.length + 1) by omega, show m - (off + k) = (m - (off + k + 1)) + 1 by omega]
        · simp [h3, show ¬ m < off + k + (l.length + 1) by omega, show ¬ off + k = off + (k + 1) + l.length + (m - (off + k + 1 + l.length)) by omega]
          congr 1
          omega
theorem set_array (off : Nat) (v acc : Array Value) (h : off + v.size ≤ acc.size) : (v.zipIdx.foldl (fun cs x => cs.setIfInBounds (off + x.2) x.1) acc).toList = acc.toList.take off ++ v.toList ++ acc.toList.drop (off + v.size) := by
  have := set_list off v.toList 0 acc (by simpa using h)
  rw [← Array.foldl_toList, Array.toList_zipIdx]
  simpa using this
theorem fill_nodes : ∀ (vs : List (Array Value)) (k : Nat) (acc : Array Value), (∀ c ∈ vs, c.size = 10) → (k + vs.length) * 10 ≤ acc.size →
    ∃ cur, Instr.fill (fun i => some (i * 10, 10)) acc ((vs.zipIdx k).map fun x => (x.2, .agg x.1)) = some cur ∧ cur.toList = acc.toList.take (k * 10) ++ flat vs ++ acc.toList.drop ((k + vs.length) * 10)
  | [], k, acc, _, _ => ⟨acc, rfl, by simp [flat]⟩
  | c :: vs, k, acc, hc, h => by
    have h10 := hc c (List.mem_cons_self ..)
    simp only [List.length_cons] at h
    have hs : ((c.zipIdx.foldl (fun cs x => cs.setIfInBounds (k * 10 + x.2) x.1) acc)).toList = acc.toList.take (k * 10) ++ c.toList ++ acc.toList.drop (k * 10 + c.size) := set_array (k * 10) c acc (by omega)
    have hz : (c.zipIdx.foldl (fun cs x => cs.setIfInBounds (k * 10 + x.2) x.1) acc).size = acc.size := by
      rw [← Array.length_toList, hs]
      simp
      omega
    obtain ⟨cur, h1, h2⟩ := fill_nodes vs (k + 1) (c.zipIdx.foldl (fun cs x => cs.setIfInBounds (k * 10 + x.2) x.1) acc) (fun d hd => hc d (List.mem_cons_of_mem _ hd)) (by rw [hz]; omega)
    refine ⟨cur, ?_, ?_⟩
    · rw [List.zipIdx_cons, List.map_cons]
      unfold Instr.fill
      dsimp only
      split
      · rename_i hh
        exfalso
        simp [Value.cells, h10] at hh
        omega
      · exact h1
    · rw [h2, hs]
      have e0 : (acc.toList.take (k * 10)).length = k * 10 := by rw [List.length_take, Array.length_toList]; omega
      have e1 : (acc.toList.take (k * 10) ++ c.toList).length = (k + 1) * 10 := by rw [List.length_append, e0, Array.length_toList]; omega
      rw [List.take_left' e1, List.drop_append, e1, List.drop_eq_nil_of_le (by rw [e1]; omega), List.drop_drop]
      simp only [flat, List.flatMap_cons, List.append_assoc, List.nil_append, List.length_cons]
      congr 4
      omega
theorem nodesU : Tryd.prog.underlying 26 = some (.slice 28) := by kernel_rfl
theorem nodeInfo : ∃ z i, Tryd.prog.info? 28 = some i ∧ i.zero = some (.agg z) ∧ i.size = 10 ∧ z.size = 10 := by
  have h : (Tryd.prog.info? 28).map (fun i => (i.zero, i.size)) = some (some (.agg (ndCells 0 0 ⟨#[]⟩ 0 ⟨#[]⟩ ⟨#[]⟩ (.slice none 0 0) (.slice none 0 0))), 10) := by kernel_rfl
  cases hq : Tryd.prog.info? 28 with
  | none => rw [hq] at h; cases h
  | some i =>
    rw [hq] at h
    simp only [Option.map_some, Option.some.injEq, Prod.mk.injEq] at h
    exact ⟨_, i, rfl, h.1, h.2, rfl⟩
section
variable {ops : Array Oper} {rest : List Oper} {o : Oper} {a : Act} {w : World} {Q : Exit → Act → World → Prop}
theorem wp_bs_nodes {K : Act → World → Prop} (len : Nat) (ps : Array (Nat × Operand)) (ho : o.op = .buildSlice 26 len ps) (vs : List (Array Value)) (hps : ps.toList.map (fun x => (x.1, a.eval x.2)) = vs.zipIdx.map fun x => (x.2, .agg x.1)) (hv : ∀ c ∈ vs, c.size = 10) (hlen : vs.length = len) (hl0 : len ≠ 0) (hl4 : len ≤ 4)
    (h : ∀ cur : Array Value, cur.toList = flat vs → K (a.put o.dst (.slice (some ⟨w.heap.size, 0, none⟩) len len)) (w.alloc (.cells cur 28 (0, 0)))) : o.wp Tryd.prog a w K Q := by
  obtain ⟨z, i, hi, hz, hs, hz10⟩ := nodeInfo
  obtain ⟨cur, hf, hcur⟩ := fill_nodes vs 0 ((Array.range (len * 10)).map (z[· % z.size]!)) hv (by simp; omega)
  rw [← hps] at hf
  have hcur' : cur.toList = flat vs := by
    rw [hcur]
    simp
    omega
  have hpe : (ps.map fun x => (x.1, a.eval x.2)).toList = ps.toList.map (fun x => (x.1, a.eval x.2)) := by simp
  have hsz : ∀ w, (sizeOf 28).run Tryd.prog w = .ok 10 w := fun w => by simp [sizeOf, typeInfo, hi, hs]
  have hzv : ∀ w, (zeroValue 28).run Tryd.prog w = .ok (.agg z) w := fun w => by simp [zeroValue, typeInfo, hi, hz]
  have h24 : ¬ (len * 10 > 2 ^ 24) := by omega
  have h10 : ¬ (len * 10 = 0) := by omega
  have hrun : (Instr.buildSlice 26 len (ps.map fun x => (x.1, a.eval x.2))).run Tryd.prog w = .ok (.slice (some ⟨w.heap.size, 0, none⟩) len len) (w.alloc (.cells cur 28 (0, 0))) := by
    unfold Instr.buildSlice
    rw [Sem.run_bind, run_underlying nodesU, Result.andThen_ok]
    dsimp only
    rw [Sem.run_bind, hsz, Result.andThen_ok]
    rw [if_neg h24, if_neg h10]
    simp only [Sem.run_bind, Sem.run_pure, Result.andThen_ok, hzv, Value.cells, hpe, hf, newRow, run_newObj_alloc]
  unfold Oper.wp execOp
  simp only [ho]
  rw [Sem.run_bind, hrun, Result.andThen_ok]
  exact h cur hcur'
theorem bs_nodes (hgd : o.guard = none) (len : Nat) (ps : Array (Nat × Operand)) (ho : o.op = .buildSlice 26 len ps) (vs : List (Array Value)) (hps : ps.toList.map (fun x => (x.1, a.eval x.2)) = vs.zipIdx.map fun x => (x.2, .agg x.1)) (hv : ∀ c ∈ vs, c.size = 10) (hlen : vs.length = len) (hl0 : len ≠ 0) (hl4 : len ≤ 4)
    (h : ∀ cur : Array Value, cur.toList = flat vs → wpList Tryd.prog ops Q rest (a.put o.dst (.slice (some ⟨w.heap.size, 0, none⟩) len len)) (w.alloc (.cells cur 28 (0, 0)))) : wpList Tryd.prog ops Q (o :: rest) a w :=
  wpList_plain hgd fun K hK => wp_bs_nodes len ps ho vs hps hv hlen hl0 hl4 fun cur hc => hK _ _ (h cur hc)
end
section
variable {ops : Array Oper} {rest : List Oper} {o : Oper} {a : Act} {w : World} {Q : Exit → Act → World → Prop} {K : Act → World → Prop}
theorem wp_st_node (x y : Operand) (ho : o.op = .store 28 x y) (g : Nat) (cells : Array Value) (hx : a.eval x = .pointer (some ⟨g, 0, none⟩)) (hy : a.eval y = .agg cells) (old : Array Value) (hg : w.heap[g]? = some (.cells old 28 (0, 0))) (hs : cells.size = 10) (hold : old.size = 10) (h1 : cells.all (·.oneCell') = true)
    (h : K (a.put o.dst undef) (w.setRow g cells)) : o.wp Tryd.prog a w K Q :=
  wp_store_row 28 x y ho g cells hx hy 28 old hg (by rw [nodeZ, hs]) (by rw [hold, hs]) h1 h
end
/-- the function hands back what its variable holds -/
theorem ret_node {fn : Func} {d : Tmp} {R : Ending → World → Prop} {a : Act} {w : World} (hfn : fn.results = #[.cell d 28]) (g : Nat) (cs : Array Value) (hp : a.tmps.getD d undef = .pointer (some ⟨g, 0, none⟩)) (hg : w.heap[g]? = some (.cells cs 28 (0, 0))) (hs : cs.size = 10) (hd : a.defers = [])
    (h : R (.returned (.agg cs)) w) : bodyPost Tryd.prog fn R .ret a w := by
  obtain ⟨l, hu⟩ := nodeU
  exact bodyPost_ret (results_cell_row hfn a.tmps w g 28 cs (0, 0) _ hp hg hu rfl (by rw [nodeZ, hs])) hd h
def noAgg : Option TypeDesc → Bool
  | some (.struct _) => false
  | some (.array _ _) => false
  | some _ => true
  | none => false
theorem run_loadVar_cell {P : Program} (ty : TypeId) (hz : noAgg (P.underlying ty) = true) (a : Addr) (v : Value) (w : World) (hc : w.cell? a = some v) : (loadVar ty a).run P w = .ok v w := by
  cases hu : P.underlying ty with
  | none => simp [hu, noAgg] at hz
  | some d =>
    have hagg : (isAgg ty).run P w = .ok false w := by
      unfold isAgg
      rw [Sem.run_bind, run_underlying hu w]
      cases d <;> simp_all [noAgg]
    simp [loadVar, Sem.run_bind, hagg, hc, Result.andThen]
section
variable {ops : Array Oper} {rest : List Oper} {o : Oper} {a : Act} {w : World} {Q : Exit → Act → World → Prop}
/-- a cell is read, as one that may be taken first -/
theorem yl_cell {S : World → Prop} (ty : TypeId) (x : Operand) (ho : o.op = .load ty x) (hw : Region.wanted o (yielded ops a.tmps) = true) (hz : noAgg (Tryd.prog.underlying ty) = true) (g j : Nat) (hx : a.eval x = .pointer (some ⟨g, j, none⟩)) (v : Value) (hg : ∀ w, S w → w.cell? ⟨g, j, none⟩ = some v) : YieldsIf Tryd.prog ops S o v a := by
  refine Or.inl ⟨hw, fun w hS => ?_⟩
  unfold execOp
  simp only [ho, hx, Instr.loadAt, Instr.sureAddr, Sem.run_bind, Sem.run_pure, Result.andThen_ok, run_loadVar_cell ty hz _ v w (hg w hS)]
end
section
variable {ops : Array Oper} {rest : List Oper} {o : Oper} {a : Act} {w : World} {Q : Exit → Act → World → Prop}
/-- a cell is read -/
theorem ld_cell (hgd : o.guard = none) (ty : TypeId) (x : Operand) (ho : o.op = .load ty x) (hz : noAgg (Tryd.prog.underlying ty) = true) (g j : Nat) (hx : a.eval x = .pointer (some ⟨g, j, none⟩)) (v : Value) (hc : w.cell? ⟨g, j, none⟩ = some v)
    (h : wpList Tryd.prog ops Q rest (a.put o.dst v) w) : wpList Tryd.prog ops Q (o :: rest) a w := by
  refine wpList_plain hgd fun K hK => ?_
  unfold Oper.wp execOp
  simp only [ho, hx, Instr.loadAt, Instr.sureAddr, Sem.run_bind, Sem.run_pure, Result.andThen_ok, run_loadVar_cell ty hz _ v w hc]
  exact hK _ _ h
end
theorem St.cell {p : Nat} {vw : Value} {ws : List Tok} {en : Int} {W0 : World} {M G : Nat → Prop} {L : List (Nat × TypeId × Array Value)} {V : List (Array Value × SN)} {i : Nat} {o : Int} {w : World} (h : St p vw ws en W0 M G L V i o w) (b : Nat) (T : TypeId) (cs : Array Value) (hm : (b, T, cs) ∈ L) (j : Nat) (v : Value) (hv : cs[j]? = some v) : w.cell? ⟨b, j, none⟩ = some v := by
  rw [cell_of_row w b j cs T _ (h.blk b T cs hm)]
  exact hv
theorem St.setCellO {p : Nat} {vw : Value} {ws : List Tok} {en : Int} {W0 : World} {M G : Nat → Prop} {L : List (Nat × TypeId × Array Value)} {V : List (Array Value × SN)} {i : Nat} {o : Int} {w w' : World} (h : St p vw ws en W0 M G L V i o w) (j : Nat) (b : Nat) (T : TypeId) (cs : Array Value) (hj : L[j]? = some (b, T, cs)) (m : Nat) (v : Value) (cs' : Array Value) (hcs : cs.setIfInBounds m v = cs') (hw : w' = w.setCell ⟨b, m, none⟩ v) : St p vw ws en W0 M G (L.set j (b, T, cs')) V i o w' := by
  subst hw
  exact h.setCell j b T cs hj m v cs' hcs
theorem St.setRowO {p : Nat} {vw : Value} {ws : List Tok} {en : Int} {W0 : World} {M G : Nat → Prop} {L : List (Nat × TypeId × Array Value)} {V : List (Array Value × SN)} {i : Nat} {o : Int} {w w' : World} (h : St p vw ws en W0 M G L V i o w) (j : Nat) (b : Nat) (T : TypeId) (cs cs' : Array Value) (hj : L[j]? = some (b, T, cs)) (hw : w' = w.setRow b cs') : St p vw ws en W0 M G (L.set j (b, T, cs')) V i o w' := by
  subst hw
  exact h.setRow j b T cs cs' hj
theorem cell_top (w : World) (v : Value) (T : TypeId) (b : Nat) (hb : w.heap.size = b) : (w.alloc (.cells #[v] T (0, 0))).cell? ⟨b, 0, none⟩ = some v := by
  subst hb
  rw [cell_of_row _ _ 0 #[v] T _ (heap_alloc_new w _)]
  rfl
theorem PR.cases {α β : Type} {x : PR α} {f : α → Nat → Int → PR β} {r : Except (Int × Int) (β × Nat × Int)} (h : x.andThen f = some r) : (∃ e, x = some (.error e) ∧ r = .error e) ∨ ∃ a i o, x = some (.ok (a, i, o)) ∧ f a i o = some r := by
  match x, h with
  | none, h => cases h
  | some (.error e), h => exact Or.inl ⟨e, rfl, by cases h; rfl⟩
  | some (.ok (a, i, o)), h => exact Or.inr ⟨a, i, o, rfl, h⟩
theorem ok_andThen {α β : Type} (a : α) (i : Nat) (o : Int) (f : α → Nat → Int → PR β) : (PR.ok a i o : PR α).andThen f = f a i o := rfl
theorem err_andThen {α β : Type} (e a : Int) (f : α → Nat → Int → PR β) : (PR.err e a : PR α).andThen f = PR.err e a := rfl
theorem andThen_assoc {α β γ : Type} (x : PR α) (f : α → Nat → Int → PR β) (g : β → Nat → Int → PR γ) : (x.andThen f).andThen g = x.andThen fun a i o => (f a i o).andThen g := by
  match x with
  | none => rfl
  | some (.error e) => rfl
  | some (.ok (a, i, o)) => rfl
theorem opensZ_ok {ws : List Tok} {en : Int} {i : Nat} {o : Int} {u : Unit} {i1 : Nat} {o1 : Int} (h : opensZ ws en i o = some (.ok (u, i1, o1))) : i1 = i + 1 ∧ o1 = o + 1 := by
  unfold opensZ at h
  by_cases ho : o = 64
  · rw [if_pos ho] at h
    cases h
  · rw [if_neg ho] at h
    cases h
    exact ⟨rfl, rfl⟩
theorem wantZ_ok {ws : List Tok} {en : Int} {t : ByteArray} {i : Nat} {o : Int} {u : Unit} {i1 : Nat} {o1 : Int} (h : wantZ ws en t i o = some (.ok (u, i1, o1))) : i1 = i + 1 ∧ o = o1 := by
  unfold wantZ at h
  by_cases hb : isZ ws i t = true
  · rw [if_pos hb] at h
    cases h
    exact ⟨rfl, rfl⟩
  · rw [if_neg hb, failZ_eq] at h
    cases h
theorem closesZ_ok {ws : List Tok} {en : Int} {t : ByteArray} {i : Nat} {o : Int} {u : Unit} {i1 : Nat} {o1 : Int} (h : closesZ ws en t i o = some (.ok (u, i1, o1))) : i1 = i + 1 ∧ o1 = o - 1 := by
  unfold closesZ at h
  rcases PR.cases h with ⟨e, hz, he⟩ | ⟨a, i2, o2, hz, he⟩
  · cases he
  · obtain ⟨rfl, rfl⟩ := wantZ_ok hz
    cases he
    exact ⟨rfl, rfl⟩
theorem nameZ_ok {ws : List Tok} {en : Int} {k : Int} {i : Nat} {o : Int} {t : ByteArray} {i1 : Nat} {o1 : Int} (h : nameZ ws en k i o = some (.ok (t, i1, o1))) : i1 = i + 1 ∧ o = o1 ∧ t = saidZ ws i ∧ kindZ ws i = k := by
  unfold nameZ at h
  by_cases hk : kindZ ws i = k
  · rw [if_pos hk] at h
    cases h
    exact ⟨rfl, rfl, rfl, hk⟩
  · rw [if_neg hk, failZ_eq] at h
    cases h

/-- a value that is a filter -/
def IsN (F : Nat → Prop) (w : World) (v : Value) (n : SN) : Prop := ∃ c, v = .agg c ∧ Nd F w c n

section
variable {p : Nat} {vw : Value} {ws : List Tok} {en : Int} {W0 : World} {M G : Nat → Prop} {L : List (Nat × TypeId × Array Value)} {V : List (Array Value × SN)} {i : Nat} {o : Int} {w : World}
theorem St.drawn {w' : World} (h : St p vw ws en W0 M G L V i o w) (hd : Drawn0 w w') : St p vw ws en W0 M G L V i o w' := h.call (h.row.of_drawn hd) (Kp.of_drawn hd)
/-- the call gives up -/
theorem St.dies {α : Type} {Is : World → Value → α → Prop} {x : Int × Int} {w' : World} (h : St p vw ws en W0 (· = p) G L V i o w) (hk : Kp p w w') : Ends p vw ws en W0 Is (.error x) (.panicked (flt x.1 x.2)) w' := ⟨rfl, (h.kep.trans (hk.toq h.mp)).top⟩
/-- the call ends with the filter that it made last -/
theorem St.done {c : Array Value} {n : SN} (h : St p vw ws en W0 (· = p) G L ((c, n) :: V) i o w) : Ends p vw ws en W0 (IsN G) (.ok (n, i, o)) (.returned (.agg c)) w :=
  ⟨⟨_, rfl, c, rfl, (h.nds (c, n) (List.mem_cons_self ..)).carry fun k hk _ => ⟨hk.1, rfl⟩⟩, h.row, h.kep.top⟩
theorem St.fst {c : Array Value} {n : SN} (h : St p vw ws en W0 M G L ((c, n) :: V) i o w) : Nd (fun k => G k ∧ ∀ y ∈ L, k ≠ y.1) w c n := h.nds (c, n) (List.mem_cons_self ..)
theorem St.snd {c c1 : Array Value} {n n1 : SN} (h : St p vw ws en W0 M G L ((c1, n1) :: (c, n) :: V) i o w) : Nd (fun k => G k ∧ ∀ y ∈ L, k ≠ y.1) w c n := h.nds (c, n) (List.mem_cons_of_mem _ (List.mem_cons_self ..))
/-- behind a call that hands a new filter back -/
theorem St.made {i' : Nat} {o' : Int} {w' : World} {v : Value} {n : SN} (h : St p vw ws en W0 M G L V i o w) (hr : Rw p vw ws en i' o' w') (hk : Kp p w w') (hn : IsN (w.heap.size ≤ ·) w' v n) : ∃ c, v = .agg c ∧ St p vw ws en W0 M G L ((c, n) :: V) i' o' w' := by
  obtain ⟨c, rfl, hc⟩ := hn
  exact ⟨c, rfl, h.ends hr hk (hc.carry fun k hk' _ => ⟨Or.inr hk', rfl⟩)⟩
end

section
variable {p : Nat} {vw : Value} {ws : List Tok} {en : Int} {W0 : World} {M G : Nat → Prop} {L : List (Nat × TypeId × Array Value)} {V : List (Array Value × SN)} {i : Nat} {o : Int} {w : World}
/-- behind a call that hands a filter back which may hold what the call had -/
theorem St.madeF {i' : Nat} {o' : Int} {w' : World} {v : Value} {n : SN} (h : St p vw ws en W0 M G L V i o w) (hr : Rw p vw ws en i' o' w') (hk : Kp p w w') (hn : IsN (fun k => (G k ∧ ∀ y ∈ L, k ≠ y.1) ∨ w.heap.size ≤ k) w' v n) : ∃ c, v = .agg c ∧ St p vw ws en W0 M G L ((c, n) :: V) i' o' w' := by
  obtain ⟨c, rfl, hc⟩ := hn
  exact ⟨c, rfl, h.ends hr hk hc⟩
end
theorem PR.split {α : Type} (r : Except (Int × Int) (α × Nat × Int)) : (∃ x, r = .error x) ∨ ∃ a i o, r = .ok (a, i, o) := by
  match r with
  | .error x => exact Or.inl ⟨x, rfl⟩
  | .ok (a, i, o) => exact Or.inr ⟨a, i, o, rfl⟩
/-- text(s, at): a constant -/
theorem txt_calls {p : Nat} {vw : Value} {ws : List Tok} {en : Int} {i : Nat} {o : Int} (W : World) (s : ByteArray) (a : Int) (h : Rw p vw ws en i o W) :
    Calls Tryd.prog 47 #[.string s, .int .i64 a] W fun r w' => r = .returned (.agg (ndCells 2 a ⟨#[]⟩ 4 ⟨#[]⟩ s (.slice none 0 0) (.slice none 0 0))) ∧ Rw p vw ws en i o w' ∧ Kp p W w' := by
  have H := Lib.hid h
  clear h
  go_enter Tryd.func47, Tryd.ntmps47
  go_wp2
  exact ret_node rfl _ _ rfl (heap_alloc_new W _) rfl rfl ⟨rfl, H.out.alloc _, (Kp.refl _ _).alloc _⟩

/-- how 'branch' ends: the variable that it was handed holds the filter -/
def EndsB (p : Nat) (vw : Value) (ws : List Tok) (en : Int) (W : World) (b : Nat) (r : Except (Int × Int) (SN × Nat × Int)) (e : Ending) (w' : World) : Prop :=
  match r with
  | .error x => e = .panicked (flt x.1 x.2) ∧ Kq (fun k => k = p ∨ k = b) W w'
  | .ok x => e = .returned (.tuple #[]) ∧ Rw p vw ws en x.2.1 x.2.2 w' ∧ Kq (fun k => k = p ∨ k = b) W w' ∧ ∃ c, w'.heap[b]? = some (.cells c 28 (0, 0)) ∧ Nd (W.heap.size ≤ ·) w' c x.1
/-- what is called again does as it says -/
structure RcOk (p : Nat) (vw : Value) (ws : List Tok) (en : Int) (rc : PC → Nat → Int → PR SN) : Prop where
  even : ∀ c i o x i' o', rc c i o = some (.ok (x, i', o')) → o' = o
  pipe : ∀ i o r W, rc .pipe i o = some r → Rw p vw ws en i o W → Calls Tryd.prog 13 #[.pointer (some ⟨p, 0, none⟩)] W (Ends p vw ws en W (IsN (W.heap.size ≤ ·)) r)
  unary : ∀ i o r W, rc .unary i o = some r → Rw p vw ws en i o W → Calls Tryd.prog 27 #[.pointer (some ⟨p, 0, none⟩)] W (Ends p vw ws en W (IsN (W.heap.size ≤ ·)) r)
  post : ∀ i o r W, rc .post i o = some r → Rw p vw ws en i o W → Calls Tryd.prog 28 #[.pointer (some ⟨p, 0, none⟩)] W (Ends p vw ws en W (IsN (W.heap.size ≤ ·)) r)
  climb : ∀ l least i o r W F c, rc (.climb l least) i o = some r → Rw p vw ws en i o W → Nd F W c l → ¬ F p → Calls Tryd.prog 26 #[.pointer (some ⟨p, 0, none⟩), .agg c, .int .i64 least] W (Ends p vw ws en W (IsN fun k => F k ∨ W.heap.size ≤ k) r)
  branch : ∀ a i o r W b, rc (.branch a) i o = some r → Rw p vw ws en i o W → W.heap[b]? = some (.cells (ndCells 28 a ⟨#[]⟩ 0 ⟨#[]⟩ ⟨#[]⟩ (.slice none 0 0) (.slice none 0 0)) 28 (0, 0)) →
    Calls Tryd.prog 87 #[.pointer (some ⟨p, 0, none⟩), .pointer (some ⟨b, 0, none⟩)] W (EndsB p vw ws en W b r)
end Go.Proofs.YthlmhnlfcnpocaaDoor.U

namespace Go.Proofs.YthlmhnlfcnpocaaDoor.U
open Go.RowKit Go.Proofs.YthlmhnlfcnpocaaDoorW.PrintWords

section
variable {P : Program} {ops : Array Oper} {Q : Exit → Act → World → Prop} {md : Region.Mode} {S : World → Prop} {T : Nat → Bool}

/-- Whatever order is picked, and S holds behind each operation that is not of the tail. -/
def anyT (P : Program) (md : Region.Mode) (ops : Array Oper) (Q : Exit → Act → World → Prop) (S : World → Prop) (T : Nat → Bool) : Nat → Array Bool → Act → World → Prop
  | 0, listed, a, w => Region.ready md ops listed = [] ∧ Q .normal a w
  | n + 1, listed, a, w => (Region.ready md ops listed = [] → Q .normal a w) ∧ ∀ i ∈ Region.ready md ops listed, wpOp P ops Q i (fun a' w' => (T i = false → S w') ∧ anyT P md ops Q S T n (listed.setIfInBounds i true) a' w') a w
theorem anyT_any : ∀ (n : Nat) (listed : Array Bool) (a : Act) (w : World), anyT P md ops Q S T n listed a w → wpAny P md ops Q n listed a w
  | 0, _, _, _, h => h
  | n + 1, _, _, _, h => ⟨h.1, fun i hi => wpOp_mono (fun a' w' h' => anyT_any n _ a' w' h'.2) (h.2 i hi)⟩
/-- whoever is of the tail waits for number i -/
def tailOk (md : Region.Mode) (ops : Array Oper) (T : Nat → Bool) (i : Nat) : Bool := (List.range ops.size).all fun j => !T j || match ops[j]? with
  | some o => o.after.any fun e => Region.binds md e && e.on == i
  | none => true
theorem tailOk_spec {i j : Nat} {o : Oper} (h : tailOk md ops T i = true) (hj : ops[j]? = some o) (hT : T j = true) : ∃ e ∈ o.after, Region.binds md e = true ∧ e.on = i := by
  have hl : j < ops.size := (Array.getElem?_eq_some_iff.1 hj).1
  have h1 := List.all_eq_true.1 h j (List.mem_range.2 hl)
  simp only [hT, hj, Bool.not_true, Bool.false_or] at h1
  obtain ⟨k, hk, hk2⟩ := Array.any_eq_true.1 h1
  simp only [Bool.and_eq_true, beq_iff_eq] at hk2
  exact ⟨_, Array.getElem_mem hk, hk2.1, hk2.2⟩
theorem anyT_first {i : Nat} {oi : Oper} {v : Value} (hi : ops[i]? = some oi) (hsel : ∀ (j : Nat) (o : Oper) cs b, ops[j]? = some o → o.op ≠ .select cs b) (hT : tailOk md ops T i = true) (hTi : T i = false)
    (hQ : ∀ c a w, Q (.panic c) (a.put oi.dst v) w → Q (.panic c) a w) :
    ∀ (n : Nat) (listed : Array Bool) (a : Act) (w : World),
      (∀ j oj, ops[j]? = some oj → j ≠ i → listed.getD j true = false → (∀ e ∈ oj.after, Region.binds md e = true → e.on ≠ i) → oi.apart ops oj = true) →
      i ∈ Region.ready md ops listed → YieldsIf P ops S oi v a → S w →
      anyT P md ops Q S T n (listed.setIfInBounds i true) (a.put oi.dst v) w → anyT P md ops Q S T (n + 1) listed a w := by
  intro n
  induction n with
  | zero =>
    intro listed a w _ hr hy hS H
    refine ⟨fun h => (by rw [h] at hr; cases hr), fun j hj => ?_⟩
    by_cases hji : j = i
    · subst hji
      exact hy.wpOp hi hS ⟨fun _ => hS, H⟩
    · have := ready_mono hj hji
      rw [H.1] at this
      cases this
  | succ n ih =>
    intro listed a w hfree hr hy hS H
    refine ⟨fun h => (by rw [h] at hr; cases hr), fun j hj => ?_⟩
    by_cases hji : j = i
    · subst hji
      exact hy.wpOp hi hS ⟨fun _ => hS, H⟩
    · have h1 := H.2 j (ready_mono hj hji)
      obtain ⟨hjun, oj, hoj, hall⟩ := mem_ready.1 hj
      have hnot : ∀ e ∈ oj.after, Region.binds md e = true → e.on ≠ i := fun e he hb heq => by
        have g1 := hall e he hb
        have g0 := (mem_ready.1 hr).1
        rw [heq] at g1
        rcases Nat.lt_or_ge i listed.size with h' | h'
        · simp [h'] at g0 g1
          rw [g0] at g1
          cases g1
        · simp [Array.getElem?_eq_none h'] at g1
      have hTj : T j = false := by
        cases hb : T j with
        | false => rfl
        | true =>
          obtain ⟨e, he, hb1, hb2⟩ := tailOk_spec hT hoj hb
          exact absurd hb2 (hnot e he hb1)
      have h2 := wpOp_putIf hoj (hfree j oj hoj hji hjun hnot) (fun cs b => hsel i oi cs b hi) (fun cs b => hsel j oj cs b hoj) hQ hy h1
      have hfree' : ∀ k ok, ops[k]? = some ok → k ≠ i → (listed.setIfInBounds j true).getD k true = false →
          (∀ e ∈ ok.after, Region.binds md e = true → e.on ≠ i) → oi.apart ops ok = true := fun k ok hk hki hun hno => by
        refine hfree k ok hk hki ?_ hno
        by_cases hjk : j = k
        · subst hjk
          exact hjun
        · rw [getD_set_ne true hjk] at hun
          exact hun
      refine wpOp_mono (fun a' w' h3 => ⟨h3.2.1, ih (listed.setIfInBounds j true) a' w' hfree' (ready_mono hr (Ne.symm hji)) h3.1 (h3.2.1 hTj) ?_⟩) h2
      rw [Array.setIfInBounds_comm _ _ hji]
      exact h3.2.2
/-- number i is taken first -/
theorem anyT_take {i : Nat} {oi : Oper} {v : Value} {d : Option Nat} {n : Nat} {listed : Array Bool} {a : Act} {w : World} (hi : ops[i]? = some oi) (hd : oi.dst = d) (hs : Region.noSelect ops = true) (hT : tailOk md ops T i = true) (hTi : T i = false) (hf : Region.free md ops listed i = true) (hr : (Region.ready md ops listed).contains i = true)
    (hQ : ∀ c a w, Q (.panic c) (a.put oi.dst v) w → Q (.panic c) a w) (hy : YieldsIf P ops S oi v a) (hS : S w) (h : anyT P md ops Q S T n (listed.setIfInBounds i true) (a.put d v) w) : anyT P md ops Q S T (n + 1) listed a w := by
  subst hd
  exact anyT_first hi (Region.noSelect_spec hs) hT hTi hQ n listed a w (Region.free_spec hi hf) (by simpa using hr) hy hS h
theorem anyT_firstP {i : Nat} {oi : Oper} {v : Value} (hi : ops[i]? = some oi) (hsel : ∀ (j : Nat) (o : Oper) cs b, ops[j]? = some o → o.op ≠ .select cs b) (hTi : T i = true)
    (hQ : ∀ c a w, Q (.panic c) (a.put oi.dst v) w → Q (.panic c) a w) :
    ∀ (n : Nat) (listed : Array Bool) (a : Act) (w : World),
      (∀ j oj, ops[j]? = some oj → j ≠ i → listed.getD j true = false → (∀ e ∈ oj.after, Region.binds md e = true → e.on ≠ i) → oi.apart ops oj = true) →
      i ∈ Region.ready md ops listed → YieldsIf P ops (fun _ => True) oi v a →
      anyT P md ops Q S T n (listed.setIfInBounds i true) (a.put oi.dst v) w → anyT P md ops Q S T (n + 1) listed a w := by
  intro n
  induction n with
  | zero =>
    intro listed a w _ hr hy H
    refine ⟨fun h => (by rw [h] at hr; cases hr), fun j hj => ?_⟩
    by_cases hji : j = i
    · subst hji
      exact hy.wpOp hi trivial ⟨fun h => (by rw [hTi] at h; cases h), H⟩
    · have := ready_mono hj hji
      rw [H.1] at this
      cases this
  | succ n ih =>
    intro listed a w hfree hr hy H
    refine ⟨fun h => (by rw [h] at hr; cases hr), fun j hj => ?_⟩
    by_cases hji : j = i
    · subst hji
      exact hy.wpOp hi trivial ⟨fun h => (by rw [hTi] at h; cases h), H⟩
    · have h1 := H.2 j (ready_mono hj hji)
      obtain ⟨hjun, oj, hoj, hall⟩ := mem_ready.1 hj
      have hnot : ∀ e ∈ oj.after, Region.binds md e = true → e.on ≠ i := fun e he hb heq => by
        have g1 := hall e he hb
        have g0 := (mem_ready.1 hr).1
        rw [heq] at g1
        rcases Nat.lt_or_ge i listed.size with h' | h'
        · simp [h'] at g0 g1
          rw [g0] at g1
          cases g1
        · simp [Array.getElem?_eq_none h'] at g1
      have h2 := wpOp_putIf hoj (hfree j oj hoj hji hjun hnot) (fun cs b => hsel i oi cs b hi) (fun cs b => hsel j oj cs b hoj) hQ hy h1
      have hfree' : ∀ k ok, ops[k]? = some ok → k ≠ i → (listed.setIfInBounds j true).getD k true = false →
          (∀ e ∈ ok.after, Region.binds md e = true → e.on ≠ i) → oi.apart ops ok = true := fun k ok hk hki hun hno => by
        refine hfree k ok hk hki ?_ hno
        by_cases hjk : j = k
        · subst hjk
          exact hjun
        · rw [getD_set_ne true hjk] at hun
          exact hun
      refine wpOp_mono (fun a' w' h3 => ⟨h3.2.1, ih (listed.setIfInBounds j true) a' w' hfree' (ready_mono hr (Ne.symm hji)) h3.1 ?_⟩) h2
      rw [Array.setIfInBounds_comm _ _ hji]
      exact h3.2.2
/-- an operation of the tail that yields in every world is taken first -/
theorem anyT_takeP {i : Nat} {oi : Oper} {v : Value} {d : Option Nat} {n : Nat} {listed : Array Bool} {a : Act} {w : World} (hi : ops[i]? = some oi) (hd : oi.dst = d) (hs : Region.noSelect ops = true) (hTi : T i = true) (hf : Region.free md ops listed i = true) (hr : (Region.ready md ops listed).contains i = true)
    (hQ : ∀ c a w, Q (.panic c) (a.put oi.dst v) w → Q (.panic c) a w) (hy : YieldsIf P ops (fun _ => True) oi v a) (h : anyT P md ops Q S T n (listed.setIfInBounds i true) (a.put d v) w) : anyT P md ops Q S T (n + 1) listed a w := by
  subst hd
  exact anyT_firstP hi (Region.noSelect_spec hs) hTi hQ n listed a w (Region.free_spec hi hf) (by simpa using hr) hy h
/-- number i alone may come up -/
theorem anyT_step {i : Nat} {oi : Oper} {n : Nat} {listed : Array Bool} {a : Act} {w : World} (hi : ops[i]? = some oi) (hr : Region.ready md ops listed = [i]) (hw : Region.wanted oi (yielded ops a.tmps) = true)
    (h : ∀ K' : Act → World → Prop, Shut (∀ a w, (T i = false → S w) → anyT P md ops Q S T n (listed.setIfInBounds i true) a w → K' a w) → Oper.wp P oi a w K' Q) : anyT P md ops Q S T (n + 1) listed a w := by
  refine ⟨fun h0 => (by rw [hr] at h0; cases h0), fun j hj => ?_⟩
  rw [hr, List.mem_singleton] at hj
  subst hj
  refine wpOp_step hi (fun K' hK => ?_)
  rw [if_pos hw]
  exact h K' (fun a w hS hW => hK a w ⟨hS, hW⟩)
/-- either of two may come up -/
theorem anyT_two {i j : Nat} {oi oj : Oper} {n : Nat} {listed : Array Bool} {a : Act} {w : World} (hi : ops[i]? = some oi) (hj : ops[j]? = some oj) (hr : Region.ready md ops listed = [i, j]) (hwi : Region.wanted oi (yielded ops a.tmps) = true) (hwj : Region.wanted oj (yielded ops a.tmps) = true)
    (h : ∀ K' : Act → World → Prop, Shut (∀ a w, (T i = false → S w) → anyT P md ops Q S T n (listed.setIfInBounds i true) a w → K' a w) → Oper.wp P oi a w K' Q)
    (h2 : ∀ K' : Act → World → Prop, Shut (∀ a w, (T j = false → S w) → anyT P md ops Q S T n (listed.setIfInBounds j true) a w → K' a w) → Oper.wp P oj a w K' Q) : anyT P md ops Q S T (n + 1) listed a w := by
  refine ⟨fun h0 => (by rw [hr] at h0; cases h0), fun k hk => ?_⟩
  rw [hr, List.mem_cons, List.mem_singleton] at hk
  rcases hk with rfl | rfl
  · refine wpOp_step hi (fun K' hK => ?_)
    rw [if_pos hwi]
    exact h K' (fun a w hS hW => hK a w ⟨hS, hW⟩)
  · refine wpOp_step hj (fun K' hK => ?_)
    rw [if_pos hwj]
    exact h2 K' (fun a w hS hW => hK a w ⟨hS, hW⟩)
theorem anyT_done {listed : Array Bool} {a : Act} {w : World} (hr : Region.ready md ops listed = []) (h : Q .normal a w) : ∀ n, anyT P md ops Q S T n listed a w
  | 0 => ⟨hr, h⟩
  | _ + 1 => ⟨fun _ => h, by rw [hr]; simp⟩
theorem region_T (S : World → Prop) (T : Nat → Bool) {id : Nat} {a : Act} {w : World} (m : Nat) (hsz : ops.size = m) (hm : P.follows .mixedOrders = true) (h : anyT P .any ops Q S T m (Array.replicate m false) a w.drew) : (Code.region id ops true).wp P Q a w := by
  subst hsz
  exact wp_region_any hm (anyT_any _ _ _ _ h)
end
end Go.Proofs.YthlmhnlfcnpocaaDoor.U

namespace Go.Proofs.YthlmhnlfcnpocaaDoor.U
open Go.RowKit Go.Proofs.YthlmhnlfcnpocaaDoorW.PrintWords
set_option linter.unusedSimpArgs false
set_option linter.unusedVariables false

def own (T : TypeId) (v : Value) (cur : Array Value) : List (Nat × TypeId × Array Value) := match v with
  | .slice (some a) _ _ => [(a.block, T, cur)]
  | _ => []
def OkR (B size : Nat) (v : Value) (cur : Array Value) (n : Nat) (xs : List Value) : Prop :=
  xs.length = n * size ∧ ((v = .slice none 0 0 ∧ n = 0) ∨ ∃ g cap, v = .slice (some ⟨g, 0, none⟩) n cap ∧ B ≤ g ∧ n ≤ cap ∧ cap ≤ maxLen ∧ cur.size = cap * size ∧ cur.toList.take (n * size) = xs)
theorem OkR.nil (B size : Nat) : OkR B size (.slice none 0 0) #[] 0 [] := ⟨by simp, Or.inl ⟨rfl, rfl⟩⟩
theorem OkR.one {B size : Nat} {v : Value} {cur : Array Value} {n : Nat} {xs : List Value} (h : OkR B size v cur n xs) : v.oneCell' = true := by
  rcases h.2 with ⟨rfl, _⟩ | ⟨g, cap, rfl, _⟩ <;> rfl

section
variable {p : Nat} {vw : Value} {ws : List Tok} {en : Int} {W0 : World} {M G : Nat → Prop} {L : List (Nat × TypeId × Array Value)} {V : List (Array Value × SN)} {i : Nat} {o : Int} {w : World} {T : TypeId} {size n : Nat} {v : Value} {cur : Array Value} {xs : List Value}
theorem St.owns (h : St p vw ws en W0 M G (L ++ own T v cur) V i o w) (hk : OkR W0.heap.size size v cur n xs) : w.ownsRow 0 T size v n xs := by
  refine ⟨hk.1, ?_⟩
  rcases hk.2 with h1 | ⟨g, cap, rfl, _, h1, h2, h3, h4⟩
  · exact Or.inl h1
  · exact Or.inr ⟨g, cap, cur, rfl, Nat.zero_le _, h.blk g T cur (List.mem_append_right _ (.head _)), h1, h2, h3, h4⟩
/-- only the list's block and new ones are others -/
theorem St.grown {w' : World} {g cap m : Nat} {news : List Value} (h : St p vw ws en W0 M G (L ++ own T v cur) V i o w) (hk : OkR W0.heap.size size v cur n xs) (ho : w'.ownsRow 0 T size (.slice (some ⟨g, 0, none⟩) (n + m) cap) (n + m) (xs ++ news)) (hg : w.grownBy w' v.ownBlock) (hat : v.ownBlock = some g ∨ g = w.heap.size) :
    ∃ cur', St p vw ws en W0 M G (L ++ own T (.slice (some ⟨g, 0, none⟩) (n + m) cap) cur') V i o w' ∧ OkR W0.heap.size size (.slice (some ⟨g, 0, none⟩) (n + m) cap) cur' (n + m) (xs ++ news) := by
  rcases ho.2 with ⟨h1, _⟩ | ⟨g', cap', cur', h1, _, hh, hle, hmx, hsz, htk⟩
  · cases h1
  injection h1 with h1 _ h2
  injection h1 with h1
  injection h1 with h1 _ _
  subst h1
  subst h2
  have hown : ∀ k, v.ownBlock = some k → (k, T, cur) ∈ L ++ own T v cur := by
    intro k hk'
    rcases hk.2 with ⟨rfl, _⟩ | ⟨g0, cap0, rfl, _⟩
    · simp [Value.ownBlock] at hk'
    · have : g0 = k := by simpa [Value.ownBlock] using hk'
      subst this
      exact List.mem_append_right _ (.head _)
  have hkeep : ∀ k, k < w.heap.size → some k ≠ v.ownBlock → w'.heap[k]? = w.heap[k]? := fun k h1 h2 => hg.block k h1 h2
  have hpv : some p ≠ v.ownBlock := fun e => (h.loc _ (hown p e.symm)).2.2 rfl
  have hbase : ∀ k, v.ownBlock = some k → W0.heap.size ≤ k ∨ M k := fun k e => (h.loc _ (hown k e)).2.1
  have hgB : W0.heap.size ≤ g := by
    rcases hat with e | e
    · rcases hk.2 with ⟨rfl, _⟩ | ⟨g0, cap0, rfl, hB, _⟩
      · simp [Value.ownBlock] at e
      · have : g0 = g := by simpa [Value.ownBlock] using e
        omega
    · rw [e]; exact h.base
  have hgM : W0.heap.size ≤ g ∨ M g := by
    rcases hat with e | e
    · exact hbase g e
    · exact Or.inl (by rw [e]; exact h.base)
  have hgp : g ≠ p := by
    rcases hat with e | e
    · exact fun e' => hpv (by rw [e, e'])
    · have := h.row.lt
      omega
  have hLd : ∀ y ∈ L, some y.1 ≠ v.ownBlock := by
    intro y hy e
    have hd := h.dis
    rcases hk.2 with ⟨rfl, _⟩ | ⟨g0, cap0, rfl, _⟩
    · simp [Value.ownBlock] at e
    · have e' : g0 = y.1 := by simpa [Value.ownBlock] using e.symm
      exact (List.pairwise_append.1 hd).2.2 y hy (g0, T, cur) (.head _) e'.symm
  have hgL : ∀ y ∈ L, y.1 ≠ g := by
    intro y hy e
    rcases hat with e' | e'
    · exact hLd y hy (by rw [e', e])
    · have := h.lt (List.mem_append_left _ hy)
      omega
  refine ⟨cur', ⟨⟨(hkeep p h.row.lt hpv).trans h.row.blk, own_move h.row.wrd fun k hk' => hkeep k (own_lt h.row.wrd k hk') fun e => ?_, h.row.le, h.row.big, h.row.olo, h.row.ohi, h.row.siz, h.row.bin.move (hkeep _ h.row.ltB fun e => blt_ne h.blt (hbase _ e.symm) rfl), h.row.nep⟩, ?_, ?_, ?_, ?_, h.gp, h.gn, h.mp, h.wlt, h.blt⟩, ho.1, Or.inr ⟨g, cap, rfl, hgB, hle, hmx, hsz, htk⟩⟩
  · have h1 := h.wlt k hk'
    rcases hbase k e.symm with h2 | h2
    · omega
    · exact h1.2 h2
  · refine ⟨hg.os.trans h.kep.os, hg.tape.trans h.kep.tape, hg.output.trans h.kep.output, Nat.le_trans h.kep.size hg.size, fun k hk' hm => (hkeep k (Nat.lt_of_lt_of_le hk' h.kep.size) fun e => ?_).trans (h.kep.block k hk' hm)⟩
    rcases hbase k e.symm with h2 | h2
    · omega
    · exact hm h2
  · intro x hx
    rcases List.mem_append.1 hx with hx | hx
    · exact ⟨(hkeep x.1 (h.lt (List.mem_append_left _ hx)) (hLd x hx)).trans (h.loc x (List.mem_append_left _ hx)).1, (h.loc x (List.mem_append_left _ hx)).2⟩
    · have : x = (g, T, cur') := by simpa [own] using hx
      subst this
      exact ⟨hh, hgM, hgp⟩
  · refine List.pairwise_append.2 ⟨(List.pairwise_append.1 h.dis).1, by simp [own], fun x hx y hy => ?_⟩
    have : y = (g, T, cur') := by simpa [own] using hy
    subst this
    exact hgL x hx
  · intro x hx
    refine (h.nds x hx).carry fun k hk' hlt => ⟨⟨hk'.1, fun y hy => ?_⟩, hkeep k hlt fun e => hk'.2 _ (hown k e.symm) rfl⟩
    rcases List.mem_append.1 hy with hy | hy
    · exact hk'.2 y (List.mem_append_left _ hy)
    · have : y = (g, T, cur') := by simpa [own] using hy
      subst this
      rcases hat with e | e
      · have := hk'.2 _ (hown g e)
        exact this
      · simp only
        omega
/-- fewer of the call's own -/
theorem St.forget (h : St p vw ws en W0 M G (L ++ own T v cur) V i o w) : St p vw ws en W0 M G L V i o w :=
  ⟨h.row, h.kep, fun x hx => h.loc x (List.mem_append_left _ hx), (List.pairwise_append.1 h.dis).1, fun x hx => (h.nds x hx).carry fun k hk _ => ⟨⟨hk.1, fun y hy => hk.2 y (List.mem_append_left _ hy)⟩, rfl⟩, h.gp, h.gn, h.mp, h.wlt, h.blt⟩
theorem NdL.of_zip {F : Nat → Prop} {w : World} : ∀ {vs : List (Array Value)} {l : List SN}, vs.length = l.length → (∀ x ∈ vs.zip l, Nd F w x.1 x.2) → NdL F w vs l
  | [], [], _, _ => .nil
  | c :: vs, m :: l, hl, h => .cons (h (c, m) (by simp)) (NdL.of_zip (by simpa using hl) fun x hx => h x (by simp only [List.zip_cons_cons]; exact List.mem_cons_of_mem _ hx))
end
section
variable {p : Nat} {vw : Value} {ws : List Tok} {en : Int} {W0 : World} {M G : Nat → Prop} {L : List (Nat × TypeId × Array Value)} {V : List (Array Value × SN)} {i : Nat} {o : Int} {w : World} {v vn : Value} {cur curn : Array Value}
/-- the filter is done: its list is shut -/
theorem St.shut (h : St p vw ws en W0 M G (L ++ own 28 v cur) V i o w) (vs : List (Array Value)) (l : List SN) (hl : vs.length = l.length) (hk : OkR W0.heap.size 10 v cur l.length (flat vs)) (hV : ∀ x ∈ vs.zip l, x ∈ V) (op a : Int) (t : ByteArray) :
    St p vw ws en W0 M G L ((ndCells op a t 0 ⟨#[]⟩ ⟨#[]⟩ (.slice none 0 0) v, .mk op a t 0 ⟨#[]⟩ ⟨#[]⟩ [] l) :: V) i o w := by
  refine h.forget.ends h.row (Kp.refl _ _) (.mk ⟨rfl, Or.inl ⟨rfl, rfl⟩⟩ (fun k hk => by simp [Value.ownBlock] at hk) (vs := vs) (h.owns hk) (fun k hk' => Or.inl ?_) ?_)
  · have hB : W0.heap.size ≤ k := by
      rcases hk.2 with ⟨rfl, _⟩ | ⟨g0, cap0, rfl, hB, _⟩
      · simp [Value.ownBlock] at hk'
      · have : g0 = k := by simpa [Value.ownBlock] using hk'
        omega
    refine ⟨h.gn k hB, fun y hy e => ?_⟩
    rcases hk.2 with ⟨rfl, _⟩ | ⟨g0, cap0, rfl, _⟩
    · simp [Value.ownBlock] at hk'
    · have e' : g0 = k := by simpa [Value.ownBlock] using hk'
      exact (List.pairwise_append.1 h.dis).2.2 y hy (g0, _, cur) (.head _) (by rw [← e, e'])
  · exact NdL.of_zip hl fun x hx => (h.nds x (hV x hx)).carry fun k hk _ => ⟨Or.inl ⟨hk.1, fun y hy => hk.2 y (List.mem_append_left _ hy)⟩, rfl⟩
end
section
variable {p : Nat} {vw : Value} {ws : List Tok} {en : Int} {W0 : World} {M G : Nat → Prop} {L : List (Nat × TypeId × Array Value)} {V : List (Array Value × SN)} {i : Nat} {o : Int} {w : World}
/-- a list literal that will be appended to -/
theorem St.toOwn {b : Nat} {T : TypeId} {cur : Array Value} (h : St p vw ws en W0 M G ((b, T, cur) :: L) V i o w) (n c : Nat) : St p vw ws en W0 M G (L ++ own T (.slice (some ⟨b, 0, none⟩) n c) cur) V i o w := by
  have hm : ∀ x, x ∈ L ++ own T (.slice (some ⟨b, 0, none⟩) n c) cur ↔ x ∈ (b, T, cur) :: L := by
    intro x
    simp [own, or_comm]
  refine ⟨h.row, h.kep, fun x hx => h.loc x ((hm x).1 hx), ?_, fun x hx => (h.nds x hx).carry fun k hk _ => ⟨⟨hk.1, fun y hy => hk.2 y ((hm y).1 hy)⟩, rfl⟩, h.gp, h.gn, h.mp, h.wlt, h.blt⟩
  have hd := List.pairwise_cons.1 h.dis
  refine List.pairwise_append.2 ⟨hd.2, by simp [own], fun x hx y hy => ?_⟩
  have : y = (b, T, cur) := by simpa [own] using hy
  subst this
  exact fun e => hd.1 x hx e.symm
theorem St.swap {x y : Nat × TypeId × Array Value} (h : St p vw ws en W0 M G (x :: y :: L) V i o w) : St p vw ws en W0 M G (y :: x :: L) V i o w := by
  have hm : ∀ z, z ∈ y :: x :: L ↔ z ∈ x :: y :: L := by
    intro z
    simp only [List.mem_cons]
    exact or_left_comm
  refine ⟨h.row, h.kep, fun z hz => h.loc z ((hm z).1 hz), ?_, fun z hz => (h.nds z hz).carry fun k hk _ => ⟨⟨hk.1, fun y' hy => hk.2 y' ((hm y').1 hy)⟩, rfl⟩, h.gp, h.gn, h.mp, h.wlt, h.blt⟩
  have hd := List.pairwise_cons.1 h.dis
  have hd2 := List.pairwise_cons.1 hd.2
  refine List.pairwise_cons.2 ⟨fun z hz => ?_, List.pairwise_cons.2 ⟨fun z hz => hd.1 z (List.mem_cons_of_mem _ hz), hd2.2⟩⟩
  rcases List.mem_cons.1 hz with rfl | hz
  · exact fun e => hd.1 _ (List.mem_cons_self ..) e.symm
  · exact hd2.1 z hz
theorem St.tl {x : Nat × TypeId × Array Value} (h : St p vw ws en W0 M G (x :: L) V i o w) : St p vw ws en W0 M G L V i o w :=
  ⟨h.row, h.kep, fun z hz => h.loc z (List.mem_cons_of_mem _ hz), (List.pairwise_cons.1 h.dis).2, fun z hz => (h.nds z hz).carry fun k hk _ => ⟨⟨hk.1, fun y hy => hk.2 y (List.mem_cons_of_mem _ hy)⟩, rfl⟩, h.gp, h.gn, h.mp, h.wlt, h.blt⟩
/-- nothing is appended to yet -/
theorem St.toNil (h : St p vw ws en W0 M G L V i o w) (T : TypeId) : St p vw ws en W0 M G (L ++ own T (.slice none 0 0) #[]) V i o w := by
  simpa [own] using h
theorem OkR.lit {B size b n : Nat} {cur : Array Value} {xs : List Value} (hB : B ≤ b) (hc : cur.toList = xs) (hl : xs.length = n * size) (hn : n ≤ 1000) : OkR B size (.slice (some ⟨b, 0, none⟩) n n) cur n xs :=
  ⟨hl, Or.inr ⟨b, n, rfl, hB, Nat.le_refl _, by unfold maxLen; omega, by rw [← Array.length_toList, hc, hl], by rw [hc, ← hl, List.take_length]⟩⟩
end
theorem nameZ_yes {ws : List Tok} {en k : Int} {i : Nat} {o : Int} (h : kindZ ws i = k) : nameZ ws en k i o = some (.ok (saidZ ws i, i + 1, o)) := by
  unfold nameZ
  rw [if_pos h]
  rfl
theorem closesZ_yes {ws : List Tok} {en : Int} {i : Nat} {o : Int} {t : ByteArray} (h : isZ ws i t = true) : closesZ ws en t i o = some (.ok ((), i + 1, o - 1)) := by
  unfold closesZ wantZ
  rw [if_pos h]
  rfl
theorem opensZ_run {ws : List Tok} {en : Int} {i : Nat} {o : Int} (h : o ≠ 64) : opensZ ws en i o = some (.ok ((), i + 1, o + 1)) := by
  unfold opensZ
  rw [if_neg h]
  rfl
theorem nd_one {op a : Int} {t : ByteArray} {k : Int} {num vt : ByteArray} {vn vk : Value} (h1 : vn.oneCell' = true) (h2 : vk.oneCell' = true) : (ndCells op a t k num vt vn vk).all (·.oneCell') = true := by
  unfold Value.oneCell' at h1 h2
  simp [ndCells, Value.oneCell']
  exact ⟨h1, h2⟩
/-- what the call sees of the next word -/
theorem Rw.seen {p g cp : Nat} {ws : List Tok} {en : Int} {i : Nat} {o : Int} {W : World} (h : Rw p (.slice (some ⟨g, 0, none⟩) ws.length cp) ws en i o W) (j : Nat) (hj : j < ws.length) :
    W.cell? ⟨p, 0, none⟩ = some (.slice (some ⟨g, 0, none⟩) ws.length cp) ∧ W.cell? ⟨p, 1, none⟩ = some (.int .i64 i) ∧ W.cell? ⟨g, j * 4 + 3, none⟩ = some (.string (saidZ ws j)) ∧ W.cell? ⟨g, j * 4 + 1, none⟩ = some (.int .i64 (placeZ ws en j)) := by
  obtain ⟨g', cp', hv, k0, k1, k3⟩ := h.word j hj
  injection hv with hv _ _
  injection hv with hv
  injection hv with hv _ _
  subst hv
  refine ⟨h.c0, h.c1, ?_, ?_⟩
  · simpa [saidZ, hj] using k3
  · simpa [placeZ, hj] using k1
theorem zip_snoc {α β : Type} (l : List α) (m : List β) (a : α) (b : β) (h : l.length = m.length) : (l ++ [a]).zip (m ++ [b]) = l.zip m ++ [(a, b)] := by
  rw [List.zip_append h]
  rfl
/-- one more is held -/
theorem St.snoc {p : Nat} {vw : Value} {ws : List Tok} {en : Int} {W0 : World} {M G : Nat → Prop} {L : List (Nat × TypeId × Array Value)} {i : Nat} {o : Int} {w : World} {c : Array Value} {m : SN} {vs : List (Array Value)} {l : List SN} (h : St p vw ws en W0 M G L ((c, m) :: vs.zip l) i o w) (hl : vs.length = l.length) : St p vw ws en W0 M G L ((vs ++ [c]).zip (l ++ [m])) i o w :=
  h.drop fun x hx => by
    rw [zip_snoc vs l c m hl] at hx
    rcases List.mem_append.1 hx with hx | hx
    · exact List.mem_cons_of_mem _ hx
    · rw [List.mem_singleton] at hx
      subst hx
      exact List.mem_cons_self ..
theorem news_at {nc : Array Value} {news : List Value} (h : nc.toList = news) (j : Nat) (u : Value) (hj : news[j]? = some u) : nc[j]? = some u := by
  rw [← h] at hj
  simpa using hj
theorem flat_one (c : Array Value) : flat [c] = c.toList := by simp [flat]
theorem all_one {c : Array Value} (h : c.all (·.oneCell') = true) : ∀ u ∈ flat [c], u.oneCell' = true := by
  intro u hu
  rw [flat_one] at hu
  exact (Array.all_eq_true_iff_forall_mem.1 h) u (by simpa using hu)
theorem heap_setRow_ne (w : World) (b : Nat) (cs : Array Value) (k : Nat) (h : k ≠ b) : (w.setRow b cs).heap[k]? = w.heap[k]? := by
  simp only [World.setRow, Array.getElem?_modify]
  rw [if_neg (fun e => h e.symm)]
/-- a key and its value, as a list of two -/
def IsE (B : Nat) (w : World) (v : Value) (x : List SN) : Prop :=
  ∃ g cur vs, v = .slice (some ⟨g, 0, none⟩) 2 2 ∧ w.heap[g]? = some (.cells cur 28 (0, 0)) ∧ cur.toList = flat vs ∧ x.length = 2 ∧ NdL (B ≤ ·) w vs x
theorem St.pair {p : Nat} {vw : Value} {ws : List Tok} {en : Int} {W0 : World} {L : List (Nat × TypeId × Array Value)} {V : List (Array Value × SN)} {i : Nat} {o : Int} {w : World} {vs : List (Array Value)} {l : List SN} {cur : Array Value} (h : St p vw ws en W0 (· = p) (W0.heap.size ≤ ·) L V i o w) (hl : NdL (fun k => W0.heap.size ≤ k ∧ ∀ y ∈ L, k ≠ y.1) w vs l) (h2 : l.length = 2) (hcur : cur.toList = flat vs) :
    Ends p vw ws en W0 (IsE W0.heap.size) (.ok (l, i, o)) (.returned (.slice (some ⟨w.heap.size, 0, none⟩) 2 2)) (w.alloc (.cells cur 28 (0, 0))) :=
  ⟨⟨_, rfl, w.heap.size, cur, vs, rfl, heap_alloc_new _ _, hcur, h2, hl.carry fun k hk hlt => ⟨hk.1, Below.heap_alloc _ _ _ hlt⟩⟩, h.row.alloc _, (h.kep.top).alloc _⟩
theorem wantZ_yes {ws : List Tok} {en : Int} {i : Nat} {o : Int} {t : ByteArray} (h : isZ ws i t = true) : wantZ ws en t i o = some (.ok ((), i + 1, o)) := by
  unfold wantZ
  rw [if_pos h]
  rfl
/-- a loop's filter as 'loop' hands it back: its list lies by itself -/
def IsL (op a : Int) (B : Nat) (w : World) (v : Value) (x : ByteArray × List SN) : Prop :=
  ∃ g cur vs, v = .agg (ndCells op a x.1 0 ⟨#[]⟩ ⟨#[]⟩ (.slice none 0 0) (.slice (some ⟨g, 0, none⟩) 3 3)) ∧ w.heap[g]? = some (.cells cur 28 (0, 0)) ∧ cur.toList = flat vs ∧ B ≤ g ∧ NdL (fun k => B ≤ k ∧ k ≠ g) w vs x.2 ∧ x.2.length = 3
theorem NdL.mem {F : Nat → Prop} {w : World} {vs : List (Array Value)} {l : List SN} (h : NdL F w vs l) : ∀ x ∈ vs.zip l, Nd F w x.1 x.2 := by
  match vs, l, h with
  | [], [], .nil => intro x hx; simp at hx
  | c :: vs, n :: l, .cons h1 h2 =>
    intro x hx
    rw [List.zip_cons_cons] at hx
    rcases List.mem_cons.1 hx with rfl | hx
    · exact h1
    · exact NdL.mem h2 x hx
theorem St.fromLoop {p : Nat} {vw : Value} {ws : List Tok} {en : Int} {W0 : World} {M G : Nat → Prop} {L : List (Nat × TypeId × Array Value)} {V : List (Array Value × SN)} {i i' : Nat} {o o' : Int} {w w' : World} {op a : Int} {v : Value} {t : ByteArray} {l : List SN} (h : St p vw ws en W0 M G L V i o w) (hr : Rw p vw ws en i' o' w') (hk : Kp p w w') (hL : IsL op a w.heap.size w' v (t, l)) :
    ∃ g cur vs, v = .agg (ndCells op a t 0 ⟨#[]⟩ ⟨#[]⟩ (.slice none 0 0) (.slice (some ⟨g, 0, none⟩) 3 3)) ∧ vs.length = l.length ∧ l.length = 3 ∧ St p vw ws en W0 M G (L ++ own 28 (.slice (some ⟨g, 0, none⟩) 3 3) cur) (vs.zip l) i' o' w' ∧ OkR W0.heap.size 10 (.slice (some ⟨g, 0, none⟩) 3 3) cur 3 (flat vs) := by
  obtain ⟨g, cur, vs, rfl, hg, hcur, hB, hl, h3⟩ := hL
  have h1 := h.call hr hk
  have hbase := h.base
  have hlen := hl.length
  refine ⟨g, cur, vs, rfl, hlen, h3, ⟨h1.row, h1.kep, ?_, ?_, ?_, h1.gp, h1.gn, h1.mp, h1.wlt, h1.blt⟩, OkR.lit (Nat.le_trans hbase hB) hcur (by rw [hl.flat, h3]) (by decide)⟩
  · intro x hx
    rcases List.mem_append.1 hx with hx | hx
    · exact h1.loc x hx
    · have : x = (g, 28, cur) := by simpa [own] using hx
      subst this
      exact ⟨hg, Or.inl (Nat.le_trans hbase hB), fun e => by have := h.row.lt; simp only at e; omega⟩
  · refine List.pairwise_append.2 ⟨h1.dis, by simp [own], fun x hx y hy => ?_⟩
    have : y = (g, 28, cur) := by simpa [own] using hy
    subst this
    have := h.lt hx
    simp only
    omega
  · intro x hx
    have hnd : Nd (fun k => w.heap.size ≤ k ∧ k ≠ g) w' x.1 x.2 := hl.mem x hx
    refine hnd.carry fun k hk' _ => ⟨⟨h.gn k (Nat.le_trans hbase hk'.1), fun y hy => ?_⟩, rfl⟩
    rcases List.mem_append.1 hy with hy | hy
    · have := h.lt hy
      omega
    · have : y = (g, 28, cur) := by simpa [own] using hy
      subst this
      exact hk'.2
theorem NdL.one {F : Nat → Prop} {w : World} {vs : List (Array Value)} {l : List SN} (h : NdL F w vs l) : ∀ u ∈ U.flat vs, Value.oneCell' u = true := by
  match vs, l, h with
  | [], [], .nil => intro u hu; simp [U.flat] at hu
  | c :: vs, n :: l, .cons h1 h2 =>
    intro u hu
    rw [show U.flat (c :: vs) = c.toList ++ U.flat vs by simp [U.flat]] at hu
    rcases List.mem_append.1 hu with hu | hu
    · exact (Array.all_eq_true_iff_forall_mem.1 h1.one) u (by simpa using hu)
    · exact NdL.one h2 u hu
/-- behind a call that hands filters back -/
theorem St.addL {p : Nat} {vw : Value} {ws : List Tok} {en : Int} {W0 : World} {M G : Nat → Prop} {L : List (Nat × TypeId × Array Value)} {i i' : Nat} {o o' : Int} {w w' : World} {vs vs2 : List (Array Value)} {l l2 : List SN} (h : St p vw ws en W0 M G L (vs.zip l) i o w) (hr : Rw p vw ws en i' o' w') (hk : Kp p w w') (hlen : vs.length = l.length) (hl : NdL (w.heap.size ≤ ·) w' vs2 l2) : St p vw ws en W0 M G L ((vs ++ vs2).zip (l ++ l2)) i' o' w' := by
  have h1 := h.call hr hk
  refine ⟨h1.row, h1.kep, h1.loc, h1.dis, fun x hx => ?_, h1.gp, h1.gn, h1.mp, h1.wlt, h1.blt⟩
  rw [List.zip_append hlen] at hx
  rcases List.mem_append.1 hx with hx | hx
  · exact h1.nds x hx
  · exact (hl.mem x hx).carry fun k hk' _ => ⟨⟨h.gn k (Nat.le_trans h.base hk'), fun y hy => by have := h.lt hy; omega⟩, rfl⟩
section
variable {p : Nat} {vw : Value} {ws : List Tok} {en : Int} {W0 : World} {M G : Nat → Prop} {L : List (Nat × TypeId × Array Value)} {V : List (Array Value × SN)} {i i' : Nat} {o o' : Int} {w w' : World}
theorem St.keqB (h : St p vw ws en W0 M G L V i o w) {b : Nat} {T : TypeId} {cs : Array Value} (hm : (b, T, cs) ∈ L) (hk : Kq (fun k => k = p ∨ k = b) w w') : Kq M W0 w' := by
  refine ⟨hk.os.trans h.kep.os, hk.tape.trans h.kep.tape, hk.output.trans h.kep.output, Nat.le_trans h.kep.size hk.size, fun k hlt hM => ?_⟩
  refine (hk.block k (Nat.lt_of_lt_of_le hlt h.kep.size) fun e => ?_).trans (h.kep.block k hlt hM)
  rcases e with e | e
  · exact hM (e ▸ h.mp)
  · rcases (h.loc _ hm).2.1 with h1 | h1
    · simp only at h1
      omega
    · exact hM (e ▸ h1)
/-- behind a call that writes a variable of the call's own -/
theorem St.callB (h : St p vw ws en W0 M G L V i o w) (j : Nat) (b : Nat) (T : TypeId) (cs c : Array Value) (n : SN) (hj : L[j]? = some (b, T, cs)) (hr : Rw p vw ws en i' o' w') (hk : Kq (fun k => k = p ∨ k = b) w w') (hb : w'.heap[b]? = some (.cells c T (0, 0))) (hn : Nd (w.heap.size ≤ ·) w' c n) :
    St p vw ws en W0 M G (L.set j (b, T, c)) ((c, n) :: V) i' o' w' := by
  have hm := List.mem_of_getElem? hj
  obtain ⟨hjl, hje⟩ := List.getElem?_eq_some_iff.1 hj
  have hkeep : ∀ k, k < w.heap.size → k ≠ p → k ≠ b → w'.heap[k]? = w.heap[k]? := fun k h1 h2 h3 => hk.block k h1 fun e => e.elim h2 h3
  have hset : ∀ y ∈ L.set j (b, T, c), ∃ z ∈ L, z.1 = y.1 := by
    intro y hy
    rcases List.mem_or_eq_of_mem_set hy with hy | rfl
    · exact ⟨y, hy, rfl⟩
    · exact ⟨_, hm, rfl⟩
  refine ⟨hr, h.keqB hm hk, ?_, ?_, ?_, h.gp, h.gn, h.mp, h.wlt, h.blt⟩
  · intro x hx
    obtain ⟨m, hml, hme⟩ := List.mem_iff_getElem.1 hx
    have hml' : m < L.length := by simpa using hml
    by_cases hmj : j = m
    · subst hmj
      have : x = (b, T, c) := by rw [← hme]; simp
      subst this
      exact ⟨hb, (h.loc _ hm).2⟩
    · have hxe : x = L[m] := by rw [← hme]; simp [hmj]
      subst hxe
      have hne : L[m].1 ≠ b := by
        have hd := List.pairwise_iff_getElem.1 h.dis
        rcases Nat.lt_or_ge j m with h1 | h1
        · have := hd j m hjl hml' h1
          rw [hje] at this
          exact fun e => this e.symm
        · have := hd m j hml' hjl (by omega)
          rw [hje] at this
          exact this
      have hl := h.loc _ (List.getElem_mem hml')
      exact ⟨(hkeep _ (h.lt (List.getElem_mem hml')) hl.2.2 hne).trans hl.1, hl.2⟩
  · refine List.pairwise_iff_getElem.2 fun m1 m2 h1 h2 hlt => ?_
    have hd := List.pairwise_iff_getElem.1 h.dis m1 m2 (by simpa using h1) (by simpa using h2) hlt
    have key : ∀ m (hm : m < (L.set j (b, T, c)).length), ((L.set j (b, T, c))[m]).1 = (L[m]'(by simpa using hm)).1 := by
      intro m hm
      by_cases hmj : j = m
      · subst hmj
        simp [hje]
      · simp [hmj]
    rw [key m1 h1, key m2 h2]
    exact hd
  · intro x hx
    rcases List.mem_cons.1 hx with rfl | hx
    · refine hn.carry fun k hk' _ => ⟨⟨h.gn k (Nat.le_trans h.base hk'), fun y hy => ?_⟩, rfl⟩
      obtain ⟨z, hz1, hz2⟩ := hset y hy
      have := h.lt hz1
      omega
    · refine (h.nds x hx).carry fun k hk' hlt => ⟨⟨hk'.1, fun y hy => ?_⟩, hkeep k hlt (fun e => h.gp k (e ▸ h.mp) hk'.1) (hk'.2 _ hm)⟩
      obtain ⟨z, hz1, hz2⟩ := hset y hy
      rw [← hz2]
      exact hk'.2 z hz1
/-- a branch ends: its variable holds the filter -/
theorem St.finB {b : Nat} {c : Array Value} {n : SN} (h : St p vw ws en W0 M (W0.heap.size ≤ ·) L ((c, n) :: V) i o w) (hm : (b, 28, c) ∈ L) :
    Rw p vw ws en i o w ∧ Kq M W0 w ∧ ∃ c, w.heap[b]? = some (.cells c 28 (0, 0)) ∧ Nd (W0.heap.size ≤ ·) w c n :=
  ⟨h.row, h.kep, c, (h.loc _ hm).1, h.fst.carry fun k hk _ => ⟨hk.1, rfl⟩⟩
end
/-- a list literal of filters, in a filter that has names -/
theorem St.buildN {p : Nat} {vw : Value} {ws : List Tok} {en : Int} {W0 : World} {M G : Nat → Prop} {L : List (Nat × TypeId × Array Value)} {V : List (Array Value × SN)} {i : Nat} {o : Int} {w : World} {v : Value} {cur : Array Value} (h : St p vw ws en W0 M G (L ++ own 9 v cur) V i o w) (names : List ByteArray) (hk : OkR W0.heap.size 1 v cur names.length (strs names)) (op a : Int) (t : ByteArray) (vs : List (Array Value)) (l : List SN)
    (hl : NdL (fun k => G k ∧ ∀ y ∈ L ++ own 9 v cur, k ≠ y.1) w vs l) (hne : l.length ≠ 0) (hle : l.length ≤ 4) (cur2 : Array Value) (hcur : cur2.toList = flat vs) :
    St p vw ws en W0 M G L ((ndCells op a t 0 ⟨#[]⟩ ⟨#[]⟩ v (.slice (some ⟨w.heap.size, 0, none⟩) l.length l.length), .mk op a t 0 ⟨#[]⟩ ⟨#[]⟩ names l) :: V) i o (w.alloc (.cells cur2 28 (0, 0))) := by
  refine h.forget.ends (h.row.alloc _) ((Kp.refl _ _).alloc _) ?_
  refine .mk (own_move (h.owns hk) fun k hk' => Below.heap_alloc w _ k (own_lt (h.owns hk) k hk')) (fun k hk' => Or.inl ?_) (vs := vs) ⟨hl.flat, Or.inr ⟨w.heap.size, l.length, cur2, rfl, Nat.zero_le _, heap_alloc_new _ _, Nat.le_refl _, by unfold maxLen; omega, ?_, ?_⟩⟩ (fun k hk' => ?_) (hl.carry fun k hk' hlt => ⟨Or.inl ⟨hk'.1, fun y hy => hk'.2 y (List.mem_append_left _ hy)⟩, Below.heap_alloc w _ _ hlt⟩)
  · have hB : W0.heap.size ≤ k := by
      rcases hk.2 with ⟨rfl, _⟩ | ⟨g0, cap0, rfl, hB, _⟩
      · simp [Value.ownBlock] at hk'
      · have : g0 = k := by simpa [Value.ownBlock] using hk'
        omega
    refine ⟨h.gn k hB, fun y hy e => ?_⟩
    rcases hk.2 with ⟨rfl, _⟩ | ⟨g0, cap0, rfl, _⟩
    · simp [Value.ownBlock] at hk'
    · have e' : g0 = k := by simpa [Value.ownBlock] using hk'
      exact (List.pairwise_append.1 h.dis).2.2 y hy (g0, _, cur) (.head _) (by rw [← e, e'])
  · rw [← Array.length_toList, hcur]; exact hl.flat
  · rw [hcur, List.take_of_length_le (by rw [hl.flat]; omega)]
  · have : w.heap.size = k := by simpa [Value.ownBlock] using hk'
    exact Or.inr (Nat.le_of_eq this)
theorem strs_snoc (l : List ByteArray) (t : ByteArray) : strs (l ++ [t]) = strs l ++ [.string t] := by simp [strs]
set_option maxHeartbeats 2000000 in
set_option maxRecDepth 100000 in
theorem param_calls {p : Nat} {vw : Value} {ws : List Tok} {en : Int} {i : Nat} {o : Int} (W : World) (r : Except (Int × Int) (ByteArray × Nat × Int)) (hr : paramZ ws en i o = some r) (h : Rw p vw ws en i o W) :
    Calls Tryd.prog 43 #[.pointer (some ⟨p, 0, none⟩)] W (Ends p vw ws en W (fun _ v t => v = .string t) r) := by
  have hkc := kind_calls W h
  have H := Lib.hid h
  clear h
  unfold paramZ at hr
  by_cases hk : kindZ ws i = 3
  · rw [if_pos hk] at hr
    rw [nameZ_yes hk] at hr
    cases hr
    have hsz : (⟨#[36]⟩ : ByteArray).size + (saidZ ws i).size ≤ 9223372036854775807 := by
      have := H.out.siz i
      have e : (⟨#[36]⟩ : ByteArray).size = 1 := rfl
      rw [e]
      omega
    have hnc := fun W1 (h1 : Rw p vw ws en i o W1) => name_calls W1 3 (by decide) _ (nameZ_yes hk) h1
    rw [hk] at hkc
    clear hk
    go_enter Tryd.func43, Tryd.ntmps43
    go_wp2_with (first
      | (go_at_call 14; refine hkc.mono ?_; rintro e w1 ⟨rfl, hd⟩)
      | (go_at_call 24; refine (hnc _ (H.out.of_drawn hd)).mono ?_; rintro e w2 ⟨⟨_, rfl, rfl⟩, hrw, hk⟩))
    go_ret
    exact ⟨⟨_, rfl, rfl⟩, hrw, (Kp.of_drawn hd).trans hk⟩
  · rw [if_neg hk] at hr
    have hne : (kindZ ws i == 3) = false := by simpa using hk
    have hnc := fun W1 (h1 : Rw p vw ws en i o W1) => name_calls W1 1 (by decide) _ hr h1
    clear hk
    go_enter Tryd.func43, Tryd.ntmps43
    go_wp2_with (go_at_call 14; refine hkc.mono ?_; rintro e w1 ⟨rfl, hd⟩)
    rcases PR.split r with ⟨x, rfl⟩ | ⟨t, i1, o1, rfl⟩
    · refine (hnc _ (H.out.of_drawn hd)).mono ?_
      rintro e w2 ⟨rfl, hk⟩
      exact ⟨rfl, rfl, (Kp.of_drawn hd).trans hk⟩
    · refine (hnc _ (H.out.of_drawn hd)).mono ?_
      rintro e w2 ⟨⟨_, rfl, rfl⟩, hrw, hk⟩
      go_wp2_with fail
      go_ret
      exact ⟨⟨_, rfl, rfl⟩, hrw, (Kp.of_drawn hd).trans hk⟩
theorem infoNode : (Tryd.prog.info? 28).map (fun i => (i.zero, i.size, i.bytes)) = some (some (.agg (ndCells 0 0 ⟨#[]⟩ 0 ⟨#[]⟩ ⟨#[]⟩ (.slice none 0 0) (.slice none 0 0))), 10, 168) := by kernel_rfl
theorem infoStr : (Tryd.prog.info? 9).map (fun i => (i.zero, i.size, i.bytes)) = some (some (.string ⟨#[]⟩), 1, 16) := by kernel_rfl
theorem strsU : Tryd.prog.underlying 23 = some (.slice 9) := by kernel_rfl
section
variable {p : Nat} {vw : Value} {ws : List Tok} {en : Int} {W0 : World} {M G : Nat → Prop} {L : List (Nat × TypeId × Array Value)} {V : List (Array Value × SN)} {i : Nat} {oo : Int} {w : World} {T tT : TypeId} {size bytes n : Nat} {z v : Value} {cur : Array Value} {xs : List Value} {o : Oper} {a : Act} {K : Act → World → Prop} {Q : Exit → Act → World → Prop}
/-- an append to the list of the call's own -/
theorem wp_app (h : St p vw ws en W0 M G (L ++ own T v cur) V i oo w) (hk : OkR W0.heap.size size v cur n xs) (hinfo : (Tryd.prog.info? T).map (fun i => (i.zero, i.size, i.bytes)) = some (some z, size, bytes)) (hu : Tryd.prog.underlying tT = some (.slice T)) (hz : z.cells.size = size) (hpos : 0 < size) (hby : bytes ≤ 1000)
    (s x : Operand) (ho : o.op = .call { callee := .builtin .append, args := #[s, x], argTypes := #[tT, tT] }) (hs : a.eval s = v) (b m c : Nat) (hx : a.eval x = .slice (some ⟨b, 0, none⟩) m c) (nc : Array Value) (hb : w.heap[b]? = some (.cells nc T (0, 0))) (news : List Value) (hn : news.length = m * size) (hnc : ∀ (j : Nat) (u : Value), news[j]? = some u → nc[j]? = some u) (h1 : ∀ u ∈ news, u.oneCell' = true) (hm : 0 < m) (hbig : n + m ≤ 68719476736)
    (hK : ∀ g cap w' cur', St p vw ws en W0 M G (L ++ own T (.slice (some ⟨g, 0, none⟩) (n + m) cap) cur') V i oo w' → OkR W0.heap.size size (.slice (some ⟨g, 0, none⟩) (n + m) cap) cur' (n + m) (xs ++ news) → K (a.put o.dst (.slice (some ⟨g, 0, none⟩) (n + m) cap)) w') : o.wp Tryd.prog a w K Q := by
  obtain ⟨i0, hi, hz0, hz1, hz2⟩ := info_parts hinfo
  refine wp_append_lies w s x tT ho 0 T i0 z size bytes hu hi hz0 hz1 hz2 hz hpos v n xs hs (h.owns hk) ⟨b, 0, none⟩ m c news hx hn (fun j u hj => ?_) h1 hm (by unfold maxLen; omega) ?_ (Nat.zero_le _) w.heap.size rfl (fun g cap w' hown hgrow hat _ => ?_)
  · have e : (⟨b, 0, none⟩ : Addr).add j = ⟨b, j, none⟩ := by unfold Addr.add; split <;> simp_all
    rw [e, cell_of_row w b j nc T _ hb]
    exact hnc j u hj
  · exact Nat.le_trans (Nat.mul_le_mul hbig hby) (by decide)
  · obtain ⟨cur', hS, hO⟩ := h.grown hk hown hgrow hat
    exact hK g cap w' cur' hS hO
end
section
variable {p : Nat} {vw : Value} {ws : List Tok} {en : Int} {W0 : World} {M G : Nat → Prop} {L : List (Nat × TypeId × Array Value)} {V : List (Array Value × SN)} {i : Nat} {oo : Int} {w : World} {n : Nat} {cur : Array Value} {xs : List Value} {o : Oper} {a : Act} {K : Act → World → Prop} {Q : Exit → Act → World → Prop}
/-- the list's last element is written -/
theorem wp_elem {g cap : Nat} {z c : Array Value} (h : St p vw ws en W0 M G (L ++ own 28 (.slice (some ⟨g, 0, none⟩) (n + 1) cap) cur) V i oo w) (hk : OkR W0.heap.size 10 (.slice (some ⟨g, 0, none⟩) (n + 1) cap) cur (n + 1) (xs ++ flat [z])) (hz : z.size = 10) (hxs : xs.length = n * 10) (hc : c.size = 10) (h1 : c.all (·.oneCell') = true)
    (x y : Operand) (ho : o.op = .store 28 x y) (hx : a.eval x = .pointer (some ⟨g, n * 10, none⟩)) (hy : a.eval y = .agg c)
    (hK : ∀ w' cur', St p vw ws en W0 M G (L ++ own 28 (.slice (some ⟨g, 0, none⟩) (n + 1) cap) cur') V i oo w' → OkR W0.heap.size 10 (.slice (some ⟨g, 0, none⟩) (n + 1) cap) cur' (n + 1) (xs ++ flat [c]) → K (a.put o.dst undef) w') : o.wp Tryd.prog a w K Q := by
  rcases hk.2 with ⟨e, _⟩ | ⟨g', cap', e, hB, hle, hmx, hsz, htk⟩
  · cases e
  injection e with e _ e2
  injection e with e
  injection e with e _ _
  subst e
  subst e2
  have hb := h.blk g 28 cur (List.mem_append_right _ (.head _))
  have hlen : n * 10 + 10 ≤ cur.size := by rw [hsz]; omega
  have hrun : (storeVar 28 ⟨g, n * 10, none⟩ (.agg c)).run Tryd.prog w = .ok () (w.setRow g (cur.toList.take (n * 10) ++ c.toList ++ cur.toList.drop (n * 10 + 10)).toArray) := by
    have hs := run_storeCells_at (P := Tryd.prog) g (n * 10) 28 c.toList 0 cur w hb (by simp [hc]; omega) (fun v hv => (Array.all_eq_true_iff_forall_mem.1 h1) v (by simpa using hv))
    simp only [Nat.add_zero, Array.length_toList, hc] at hs
    cases hq : Tryd.prog.info? 28 with
    | none => have := nodeZ; simp [hq] at this
    | some ii =>
      have hi : ii.size = 10 := by have := nodeZ; simpa [hq] using this
      simp [storeVar, sizeOf, typeInfo, hq, Value.cells, hc, hi, hs]
  unfold Oper.wp execOp
  simp only [ho, hx, hy, Instr.storeAt, Instr.sureAddr, Sem.run_bind, Sem.run_pure, Result.andThen_ok, hrun]
  have hS := h.setRow L.length g 28 cur (cur.toList.take (n * 10) ++ c.toList ++ cur.toList.drop (n * 10 + 10)).toArray (by simp [own])
  have e : (L ++ own 28 (.slice (some ⟨g, 0, none⟩) (n + 1) cap) cur).set L.length (g, 28, (cur.toList.take (n * 10) ++ c.toList ++ cur.toList.drop (n * 10 + 10)).toArray) = L ++ own 28 (.slice (some ⟨g, 0, none⟩) (n + 1) cap) (cur.toList.take (n * 10) ++ c.toList ++ cur.toList.drop (n * 10 + 10)).toArray := by
    simp [own]
  rw [e] at hS
  have hT : cur.toList.take (n * 10) = xs := by
    have := congrArg (List.take (n * 10)) htk
    rw [List.take_take, Nat.min_eq_left (by omega), List.take_left' hxs] at this
    exact this
  refine hK _ _ hS ⟨by simp [flat, hxs, hc]; omega, Or.inr ⟨g, cap, rfl, hB, hle, hmx, ?_, ?_⟩⟩
  · simp [hc]
    omega
  · simp only []
    rw [hT, flat_one]
    exact List.take_left' (by simp [hxs, hc]; omega)
end
end Go.Proofs.YthlmhnlfcnpocaaDoor.U

namespace Go.Proofs.YthlmhnlfcnpocaaDoor.U
open Go.RowKit Go.Proofs.YthlmhnlfcnpocaaDoorW.PrintWords
set_option linter.unusedSimpArgs false
set_option linter.unusedVariables false

def bdCells (b : ByteArray × Int × Int × Int) : Array Value := #[.string b.1, .int .i64 b.2.1, .int .i64 b.2.2.1, .int .i64 b.2.2.2]
theorem bindsU : Tryd.prog.underlying 87 = some (.array 23 68) := by kernel_rfl
theorem bindsI : (Tryd.prog.info? 87).map (·.size) = some 92 := by kernel_rfl
theorem bdI : (Tryd.prog.info? 68).map (·.size) = some 4 := by kernel_rfl
theorem bd_part : ∀ k (hk : k < 23), bindCells.toArray.extract (k * 4) (k * 4 + 4) = bdCells (bindsZ[k]'hk) := by
  intro k hk
  match k, hk with
  | 0, _ | 1, _ | 2, _ | 3, _ | 4, _ | 5, _ | 6, _ | 7, _ | 8, _ | 9, _ | 10, _ | 11, _ | 12, _ | 13, _ | 14, _ | 15, _ | 16, _ | 17, _ | 18, _ | 19, _ | 20, _ | 21, _ | 22, _ => rfl
  | k + 23, h => exact absurd h (by omega)
theorem bindsZ_len : bindsZ.length = 23 := rfl
section
variable {ops : Array Oper} {rest : List Oper} {o : Oper} {a : Act} {w : World} {Q : Exit → Act → World → Prop}
theorem ix_bind (hgd : o.guard = none) (x y : Operand) (ho : o.op = .index 87 x y) (k : Nat) (hk : k < 23) (hx : a.eval x = .agg bindCells.toArray) (hy : a.eval y = .int .i64 k)
    (h : wpList Tryd.prog ops Q rest (a.put o.dst (.agg #[.string (bindsZ[k]'hk).1, .int .i64 (bindsZ[k]'hk).2.1, .int .i64 (bindsZ[k]'hk).2.2.1, .int .i64 (bindsZ[k]'hk).2.2.2])) w) : wpList Tryd.prog ops Q (o :: rest) a w := by
  refine wpList_plain hgd fun K hK => ?_
  have hrun : (Instr.index 87 (.agg bindCells.toArray) (.int .i64 (k : Int))).run Tryd.prog w = .ok (.agg (bdCells (bindsZ[k]'hk))) w := by
    have hsz : ∀ w, (sizeOf 68).run Tryd.prog w = .ok 4 w := fun w => by
      cases hq : Tryd.prog.info? 68 with
      | none => have := bdI; simp [hq] at this
      | some ii =>
        have hi : ii.size = 4 := by have := bdI; simpa [hq] using this
        simp [sizeOf, typeInfo, hq, hi]
    obtain ⟨l, hl⟩ : ∃ l, Tryd.prog.underlying 68 = some (.struct l) := isStruct_some (by kernel_rfl)
    have hag : ∀ w, (isAgg 68).run Tryd.prog w = .ok true w := fun w => by
      unfold isAgg
      rw [Sem.run_bind, run_underlying hl w]
      simp
    have h1 : (0 : Int) ≤ (k : Int) := by omega
    have h2 : (k : Int) < ((23 : Nat) : Int) := by omega
    have e := bd_part k hk
    simp [Instr.index, asIntOf, Sem.run_bind, run_underlying bindsU, part, hsz, hag, h1, hk, Result.andThen]
    simpa using e
  unfold Oper.wp execOp
  simp only [ho, hx, hy, Sem.run_bind, hrun, Sem.run_pure, Result.andThen_ok]
  exact hK _ _ h
theorem bdU : ∃ l, Tryd.prog.underlying 68 = some (.struct l) := isStruct_some (by kernel_rfl)
theorem ld_bind (hgd : o.guard = none) (x : Operand) (ho : o.op = .load 68 x) (g : Nat) (hx : a.eval x = .pointer (some ⟨g, 0, none⟩)) (cs : Array Value) (hg : w.heap[g]? = some (.cells cs 68 (0, 0))) (hs : cs.size = 4)
    (h : wpList Tryd.prog ops Q rest (a.put o.dst (.agg cs)) w) : wpList Tryd.prog ops Q (o :: rest) a w := by
  obtain ⟨l, hu⟩ := bdU
  exact wpList_load_row hgd 68 x ho g hx 68 cs (0, 0) _ hg hu rfl (by rw [bdI, hs]) h
theorem st_bind (hgd : o.guard = none) (x y : Operand) (ho : o.op = .store 68 x y) (g : Nat) (cells : Array Value) (hx : a.eval x = .pointer (some ⟨g, 0, none⟩)) (hy : a.eval y = .agg cells) (old : Array Value) (hg : w.heap[g]? = some (.cells old 68 (0, 0))) (hs : cells.size = 4) (hold : old.size = 4) (h1 : cells.all (·.oneCell') = true)
    (h : wpList Tryd.prog ops Q rest (a.put o.dst undef) (w.setRow g cells)) : wpList Tryd.prog ops Q (o :: rest) a w :=
  wpList_store_row hgd 68 x y ho g cells hx hy 68 old hg (by rw [bdI, hs]) (by rw [hold, hs]) h1 h
theorem ret_bind {fn : Func} {d u : Tmp} {R : Ending → World → Prop} {a : Act} {w : World} (hfn : fn.results = #[.cell d 68, .tmp u]) (g : Nat) (cs : Array Value) (v : Value) (hp : a.tmps.getD d undef = .pointer (some ⟨g, 0, none⟩)) (hv : a.tmps.getD u undef = v) (hg : w.heap[g]? = some (.cells cs 68 (0, 0))) (hs : cs.size = 4) (hd : a.defers = [])
    (h : R (.returned (.tuple #[.agg cs, v])) w) : bodyPost Tryd.prog fn R .ret a w := by
  obtain ⟨l, hu⟩ := bdU
  have hl := run_loadVar_row w g 68 68 cs (0, 0) _ hg hu rfl (by rw [bdI, hs])
  refine bodyPost_ret (v := .tuple #[.agg cs, v]) ?_ hd h
  have hp' : a.tmps[d]?.getD undef = .pointer (some ⟨g, 0, none⟩) := by simpa using hp
  have hv' : a.tmps[u]?.getD undef = v := by simpa using hv
  simp [results, hfn, hp', hv', asAddr, hl, Result.andThen]
end
set_option maxHeartbeats 8000000 in
set_option maxRecDepth 100000 in
theorem next_calls {p : Nat} {vw : Value} {ws : List Tok} {en : Int} {i : Nat} {o : Int} (W : World) (h : Rw p vw ws en i o W) :
    Calls Tryd.prog 45 #[.pointer (some ⟨p, 0, none⟩)] W fun e w' => Rw p vw ws en i o w' ∧ Kp p W w' ∧ (match nextZ ws i with
      | some b => ∃ sg, e = .returned (.tuple #[.agg (bdCells (sg, b)), .bool true])
      | none => e = .returned (.tuple #[.agg (bdCells (⟨#[]⟩, 0, 0, 0)), .bool false])) := by
  have S0 := Lib.hid (St.start (G := (W.heap.size ≤ ·)) (V := []) h (Nat.not_le.2 h.lt) (fun k hk => hk) (fun _ hx => by cases hx))
  clear h
  obtain ⟨R, hR⟩ : ∃ R, nextZ ws i = R := ⟨_, rfl⟩
  rw [hR]
  have HR : Hid ((bindsZ.drop 0).find? (fun b => isZ ws i b.1) = (bindsZ.find? fun b => isZ ws i b.1)) := Lib.hid rfl
  have HX := Lib.hid hR
  clear hR
  have hbn := S0.out.row.bin
  go_enter Tryd.func45, Tryd.ntmps45
  have S1 := Lib.hid (S0.out.allocAt W.heap.size rfl 68 (bdCells (⟨#[]⟩, 0, 0, 0)))
  obtain ⟨TT, fz, hbn1⟩ := S1.out.row.bin
  go_wp2_with (first
    | (refine wpList_load_row rfl 87 _ rfl 0 rfl TT bindCells.toArray fz _ hbn1 bindsU rfl (by rw [bindsI]; rfl) ?_))
  try simp only [Act.put, List.setIfInBounds_toArray, List.set_cons_zero, List.set_cons_succ]
  clear hbn hbn1 S0
  generalize hTB : bindCells.toArray = TB at *
  go_loopg [7] 23 (fun g v wx => ∃ k : Nat, v = .int .i64 k ∧ k + g = 23 ∧ Hid ((bindsZ.drop k).find? (fun b => isZ ws i b.1) = (bindsZ.find? fun b => isZ ws i b.1)) ∧ Hid (St p vw ws en W (· = p) (W.heap.size ≤ ·) [(W.heap.size, 68, bdCells (⟨#[]⟩, 0, 0, 0))] [] i o wx))
  case atStart => exact ⟨0, rfl, rfl, HR, S1⟩
  case round =>
    clear HR S1
    obtain ⟨k, rfl, hg, HR, S⟩ := hrel
    by_cases hk : k < 23
    · have hk1 : (k : Int) < 23 := by omega
      have hf := HR.out
      rw [List.drop_eq_getElem_cons (by rw [bindsZ_len]; exact hk), List.find?_cons] at hf
      clear HR
      have HF := Lib.hid hf
      clear hf
      go_wp2_with (first
        | (refine ix_bind rfl _ _ rfl k hk (by rw [hTB]; rfl) rfl ?_))
      generalize hbz : bindsZ[k]'(by rw [bindsZ_len]; exact hk) = bz at *
      obtain ⟨sg, op, bd, as_⟩ := bz
      have S2 := Lib.hid (S.out.allocAt _ rfl 68 #[.string sg, .int .i64 op, .int .i64 bd, .int .i64 as_])
      dsimp only
      refine region_T (fun w => w.cell? ⟨wr.heap.size, 0, none⟩ = some (.string sg)) (fun _ => false) 7 rfl (by kernel_rfl) ?_
      have S3 := Lib.hid (S2.out.drawn (w' := World.drew _) ⟨1, rfl⟩)
      clear S2
      refine anyT_take (i := 0) (oi := _) (v := (.pointer (some ⟨p, 0, none⟩))) (d := (some 10)) rfl rfl (by kernel_rfl) (by kernel_rfl) rfl (by kernel_rfl) (by kernel_rfl) (fun _ _ _ h => h) (Or.inl ⟨by rfl, fun _ _ => rfl⟩) (S3.out.cell _ _ _ (.head _) 0 (.string sg) rfl) ?_
      try simp only [Act.put, List.setIfInBounds_toArray, List.set_cons_zero, List.set_cons_succ]
      refine anyT_take (i := 1) (oi := _) (v := (.pointer (some ⟨p, 0, none⟩))) (d := (some 11)) rfl rfl (by kernel_rfl) (by kernel_rfl) rfl (by kernel_rfl) (by kernel_rfl) (fun _ _ _ h => h) (Or.inl ⟨by rfl, fun w hS => by go_simp⟩) (S3.out.cell _ _ _ (.head _) 0 (.string sg) rfl) ?_
      try simp only [Act.put, List.setIfInBounds_toArray, List.set_cons_zero, List.set_cons_succ]
      refine anyT_take (i := 2) (oi := _) (v := (.pointer (some ⟨p, 0, none⟩))) (d := (some 12)) rfl rfl (by kernel_rfl) (by kernel_rfl) rfl (by kernel_rfl) (by kernel_rfl) (fun _ _ _ h => h) (Or.inl ⟨by rfl, fun w hS => by go_simp⟩) (S3.out.cell _ _ _ (.head _) 0 (.string sg) rfl) ?_
      try simp only [Act.put, List.setIfInBounds_toArray, List.set_cons_zero, List.set_cons_succ]
      refine anyT_take (i := 3) (oi := _) (v := (.pointer (some ⟨wr.heap.size, 0, none⟩))) (d := (some 13)) rfl rfl (by kernel_rfl) (by kernel_rfl) rfl (by kernel_rfl) (by kernel_rfl) (fun _ _ _ h => h) (Or.inl ⟨by rfl, fun w hS => by go_simp⟩) (S3.out.cell _ _ _ (.head _) 0 (.string sg) rfl) ?_
      try simp only [Act.put, List.setIfInBounds_toArray, List.set_cons_zero, List.set_cons_succ]
      refine anyT_take (i := 4) (oi := _) (v := (.string sg)) (d := (some 14)) rfl rfl (by kernel_rfl) (by kernel_rfl) rfl (by kernel_rfl) (by kernel_rfl) (fun _ _ _ h => h) (yl_cell 9 _ rfl (by rfl) (by kernel_rfl) _ _ rfl _ (fun _ h => h)) (S3.out.cell _ _ _ (.head _) 0 (.string sg) rfl) ?_
      try simp only [Act.put, List.setIfInBounds_toArray, List.set_cons_zero, List.set_cons_succ]
      refine anyT_step (i := 5) (oi := _) rfl (by kernel_rfl) (by rfl) (fun K hK => ?_)
      go_simp
      have S4 := Lib.hid (S3.out.waste (.cells #[.string sg] 9))
      clear S3
      refine hK.out _ _ (fun _ => (S4.out.cell _ _ _ (.head _) 0 (.string sg) rfl)) ?_
      clear hK K
      try simp only [Act.put, List.setIfInBounds_toArray, List.set_cons_zero, List.set_cons_succ]
      refine anyT_step (i := 6) (oi := _) rfl (by kernel_rfl) (by rfl) (fun K hK => ?_)
      go_simp
      refine (is_calls _ _ sg _ (cell_top _ _ _ _ (by simp)) S4.out.row).mono ?_
      rintro _ w2 ⟨rfl, hd⟩
      have S5 := Lib.hid (S4.out.drawn hd)
      clear S4 hd
      refine hK.out _ _ (fun _ => (S5.out.cell _ _ _ (.head _) 0 (.string sg) rfl)) ?_
      clear hK K
      try simp only [Act.put, List.setIfInBounds_toArray, List.set_cons_zero, List.set_cons_succ]
      refine anyT_done (by kernel_rfl) ?_ _
      have hf := HF.out
      clear HF
      cases hq : isZ ws i sg with
      | true =>
        simp only [hq] at hf
        have hn : R = some (op, bd, as_) := by
          rw [← HX.out]
          unfold nextZ
          rw [← hf]
          rfl
        subst hn
        clear hf HX
        go_wp2_with (first
          | (refine ld_bind rfl _ rfl _ rfl _ (S5.out.blk _ _ _ (.head _)) rfl ?_)
          | (refine st_bind rfl _ _ rfl _ _ rfl rfl _ (S5.out.blk _ _ _ (.tail _ (.head _))) rfl rfl (by simp [Value.oneCell']) ?_))
        have S6 := Lib.hid (S5.out.setRow 1 _ _ _ #[.string sg, .int .i64 op, .int .i64 bd, .int .i64 as_] rfl)
        refine ret_bind rfl _ _ _ rfl rfl (S6.out.blk _ _ _ (.tail _ (.head _))) rfl rfl ?_
        exact ⟨S6.out.row, S6.out.kep.top, sg, rfl⟩
      | false =>
        simp only [hq] at hf
        have HF := Lib.hid hf
        clear hf hq
        go_wp2_with fail
        go_roundg (22 - k)
        case rel => exact ⟨k + 1, by go_num, by omega, HF, Lib.hid S5.out.tl⟩
        case measure => omega
    · have hk23 : k = 23 := by omega
      subst hk23
      have hn : R = none := by
        rw [← HX.out]
        unfold nextZ
        rw [← HR.out]
        rfl
      subst hn
      clear HX HR
      go_wp2_with (first
        | (refine st_bind rfl _ _ rfl _ (bdCells (⟨#[]⟩, 0, 0, 0)) rfl rfl _ (S.out.blk _ _ _ (.head _)) rfl rfl (by simp [bdCells, Value.oneCell']) ?_))
      have S6 := Lib.hid (S.out.setRow 0 _ _ _ (bdCells (⟨#[]⟩, 0, 0, 0)) rfl)
      refine ret_bind rfl _ _ _ rfl rfl (S6.out.blk _ _ _ (.head _)) rfl rfl ?_
      exact ⟨S6.out.row, S6.out.kep.top, rfl⟩
theorem nextZ_lt {ws : List Tok} {i : Nat} {b : Int × Int × Int} (h : nextZ ws i = some b) : i < ws.length ∧ 1 ≤ b.2.1 ∧ b.2.1 ≤ 8 := by
  unfold nextZ at h
  cases hf : bindsZ.find? (fun b => isZ ws i b.1) with
  | none => rw [hf] at h; cases h
  | some x =>
    rw [hf] at h
    have hx : x.2 = b := by simpa using h
    have h1 := List.find?_some hf
    have h2 := List.mem_of_find?_eq_some hf
    have h3 : ∀ y ∈ bindsZ, 1 ≤ y.2.2.1 ∧ y.2.2.1 ≤ 8 := by
      intro y hy
      simp only [bindsZ, List.mem_cons, List.not_mem_nil, or_false] at hy
      rcases hy with rfl | rfl | rfl | rfl | rfl | rfl | rfl | rfl | rfl | rfl | rfl | rfl | rfl | rfl | rfl | rfl | rfl | rfl | rfl | rfl | rfl | rfl | rfl <;> decide
    have h4 := h3 x h2
    rw [← hx]
    exact ⟨isZ_lt h1, h4⟩
theorem St.stepO {p : Nat} {vw : Value} {ws : List Tok} {en : Int} {W0 : World} {M G : Nat → Prop} {L : List (Nat × TypeId × Array Value)} {V : List (Array Value × SN)} {i : Nat} {o : Int} {w w' : World} (h : St p vw ws en W0 M G L V i o w) (hi : i < ws.length) (hw : w' = w.setCell ⟨p, 1, none⟩ (.int .i64 ((i : Int) + 1))) : St p vw ws en W0 M G L V (i + 1) o w' := by
  subst hw
  exact h.step hi
end Go.Proofs.YthlmhnlfcnpocaaDoor.U

namespace Go.Proofs.YthlmhnlfcnpocaaDoor.U
open Go.RowKit Go.Proofs.YthlmhnlfcnpocaaDoorW.PrintWords
set_option linter.unusedSimpArgs false
set_option linter.unusedVariables false

theorem ba_beq (a b : ByteArray) : (a == b) = decide (a = b) := by
  show (a.data == b.data) = decide (a = b)
  rw [Bool.eq_iff_iff, beq_iff_eq, decide_eq_true_iff]
  exact ⟨fun h => ByteArray.ext h, fun h => by rw [h]⟩
/-- where a text stands among the keys -/
def findT (t : ByteArray) : List (ByteArray × Nat) → Nat → Option (Nat × Value)
  | [], _ => none
  | e :: es, i => if t = e.1 then some (i, .func (.func e.2) #[] #[]) else findT t es (i + 1)
def entsT : List (ByteArray × Nat) → Nat → List MapEntry
  | [], _ => []
  | e :: es, i => { key := .string e.1, val := .func (.func e.2) #[] #[], born := i } :: entsT es (i + 1)
theorem findNow_T (t : ByteArray) : ∀ (l : List (ByteArray × Nat)) (b i : Nat), Instr.findNow .string (.string t) (entsT l b) i = some (findT t l i)
  | [], _, _ => rfl
  | e :: es, b, i => by
    unfold entsT Instr.findNow findT
    simp only [Instr.sameNow, ba_beq]
    by_cases h : t = e.1
    · simp [h]
    · simp only [h, decide_false, if_false]
      exact findNow_T t es (b + 1) (i + 1)
theorem entsT_snoc : ∀ (l : List (ByteArray × Nat)) (e : ByteArray × Nat) (b : Nat), entsT (l ++ [e]) b = entsT l b ++ [{ key := .string e.1, val := .func (.func e.2) #[] #[], born := b + l.length }]
  | [], e, b => by simp [entsT]
  | x :: l, e, b => by
    simp only [List.cons_append, entsT, entsT_snoc l e (b + 1), List.length_cons]
    rw [show b + 1 + l.length = b + (l.length + 1) by omega]
theorem mapU : Tryd.prog.underlying 90 = some (.map 9 88) := by kernel_rfl
theorem strU : Tryd.prog.underlying 9 = some .string := by kernel_rfl
section
variable {ops : Array Oper} {rest : List Oper} {o : Oper} {a : Act} {w : World} {Q : Exit → Act → World → Prop}
theorem checkKey_str (b : Bool) (t : ByteArray) (w : World) : (Instr.checkKey b 10000 9 (.string t)).run Tryd.prog w = .ok () w := by
  rw [show (10000 : Nat) = 9999 + 1 from rfl]
  unfold Instr.checkKey
  rw [Sem.run_bind, run_underlying strU, Result.andThen_ok]
  rfl
/-- a key is put into the map -/
theorem ins_T (hgd : o.guard = none) (m x y : Operand) (ho : o.op = .insert 90 m x y) (r : Nat) (hm : a.eval m = .map (some r)) (k : ByteArray) (f : Nat) (hk : a.eval x = .string k) (hv : a.eval y = .func (.func f) #[] #[]) (l : List (ByteArray × Nat)) (hg : w.heap[r]? = some (.map (entsT l 0).toArray l.length)) (hnew : findT k l 0 = none)
    (h : ∀ w', w'.heap[r]? = some (.map (entsT (l ++ [(k, f)]) 0).toArray (l ++ [(k, f)]).length) → (∀ j, j ≠ r → w'.heap[j]? = w.heap[j]?) → w'.heap.size = w.heap.size → w'.os = w.os → w'.tape = w.tape → w'.output = w.output → wpList Tryd.prog ops Q rest (a.put o.dst undef) w') : wpList Tryd.prog ops Q (o :: rest) a w := by
  refine wpList_plain hgd fun K hK => ?_
  have hrun : ∃ w', (Instr.mapUpdate 90 (.map (some r)) (.string k) (.func (.func f) #[] #[])).run Tryd.prog w = .ok () w' ∧ w'.heap[r]? = some (.map (entsT (l ++ [(k, f)]) 0).toArray (l ++ [(k, f)]).length) ∧ (∀ j, j ≠ r → w'.heap[j]? = w.heap[j]?) ∧ w'.heap.size = w.heap.size ∧ w'.os = w.os ∧ w'.tape = w.tape ∧ w'.output = w.output := by
    have hfn : Instr.findNow .string (.string k) (entsT l 0).toArray.toList 0 = some none := by
      rw [List.toList_toArray, findNow_T, hnew]
    have hfk : (Instr.findKey 9 (.string k) (entsT l 0).toArray.toList).run Tryd.prog w = .ok none w := by
      unfold Instr.findKey
      rw [Sem.run_bind, run_underlying strU, Result.andThen_ok, hfn]
      rfl
    have hgo : (getObj r).run Tryd.prog w = .ok (.map (entsT l 0).toArray l.length) w := by
      simp [getObj, Sem.run, hg]
    unfold Instr.mapUpdate
    rw [Sem.run_bind, run_underlying mapU, Result.andThen_ok]
    dsimp only
    rw [Sem.run_bind, hgo, Result.andThen_ok]
    dsimp only
    rw [Sem.run_bind, checkKey_str, Result.andThen_ok, Sem.run_bind, hfk, Result.andThen_ok]
    dsimp only
    refine ⟨{ w with heap := w.heap.setIfInBounds r (.map ((entsT l 0).toArray.push { key := .string k, val := .func (.func f) #[] #[], born := l.length }) (l.length + 1)) }, ?_, ?_, ?_, by simp, rfl, rfl, rfl⟩
    · simp [setObj, Sem.run, hg]
    · have hlt := (Array.getElem?_eq_some_iff.1 hg).1
      rw [entsT_snoc]
      simp [hlt]
    · intro j hj
      simp only [Array.getElem?_setIfInBounds]
      rw [if_neg (fun e => hj e.symm)]
  obtain ⟨w', hr, h1, h2, h3, h4, h5, h6⟩ := hrun
  unfold Oper.wp execOp
  simp only [ho, hm, hk, hv, Sem.run_bind, hr, Sem.run_pure, Result.andThen_ok]
  exact hK _ _ (h w' h1 h2 h3 h4 h5 h6)
end
def termsT : List (ByteArray × Nat) := [((⟨#[46]⟩ : ByteArray), 70), ((⟨#[46, 46]⟩ : ByteArray), 71), ((⟨#[40]⟩ : ByteArray), 72), ((⟨#[91]⟩ : ByteArray), 73), ((⟨#[123]⟩ : ByteArray), 74), ((⟨#[110, 117, 108, 108]⟩ : ByteArray), 75), ((⟨#[102, 97, 108, 115, 101]⟩ : ByteArray), 75), ((⟨#[116, 114, 117, 101]⟩ : ByteArray), 75), ((⟨#[105, 102]⟩ : ByteArray), 76), ((⟨#[116, 114, 121]⟩ : ByteArray), 77), ((⟨#[114, 101, 100, 117, 99, 101]⟩ : ByteArray), 78), ((⟨#[102, 111, 114, 101, 97, 99, 104]⟩ : ByteArray), 79), ((⟨#[98, 114, 101, 97, 107]⟩ : ByteArray), 80)]
/-- the map lies in a new block -/
structure Mp (W : World) (l : List (ByteArray × Nat)) (w : World) : Prop where
  map : w.heap[W.heap.size]? = some (.map (entsT l 0).toArray l.length)
  os : w.os = W.os
  tape : w.tape = W.tape
  output : w.output = W.output
  size : w.heap.size = W.heap.size + 1
  old : ∀ k, k < W.heap.size → w.heap[k]? = W.heap[k]?
theorem Mp.start (W : World) : Mp W [] (W.alloc (.map #[] 0)) := ⟨heap_alloc_new W _, rfl, rfl, rfl, by simp, fun k hk => Below.heap_alloc W _ k hk⟩
theorem Mp.more {W w w' : World} {l : List (ByteArray × Nat)} {e : ByteArray × Nat} (h : Mp W l w) (h1 : w'.heap[W.heap.size]? = some (.map (entsT (l ++ [e]) 0).toArray (l ++ [e]).length)) (h2 : ∀ j, j ≠ W.heap.size → w'.heap[j]? = w.heap[j]?) (h3 : w'.heap.size = w.heap.size) (h4 : w'.os = w.os) (h5 : w'.tape = w.tape) (h6 : w'.output = w.output) : Mp W (l ++ [e]) w' :=
  ⟨h1, h4.trans h.os, h5.trans h.tape, h6.trans h.output, h3.trans h.size, fun k hk => (h2 k (by omega)).trans (h.old k hk)⟩
set_option maxHeartbeats 4000000 in
set_option maxRecDepth 100000 in
theorem terms_calls (W : World) : Calls Tryd.prog 59 #[] W fun e w' => e = .returned (.map (some W.heap.size)) ∧ Mp W termsT w' := by
  go_enter Tryd.func59, Tryd.ntmps59
  have M0 := Lib.hid (Mp.start W)
  have hmm : ∀ w : World, (Instr.makeMap 90 none).run Tryd.prog w = .ok (.map (some w.heap.size)) (w.alloc (.map #[] 0)) := fun _ => rfl
  go_wp2_with (first
    | (refine ins_T rfl _ _ _ rfl W.heap.size rfl _ _ rfl rfl (termsT.take 0) M0.out.map (by rfl) ?_; intro w1 h1 h2 h3 h4 h5 h6; have M1 : Hid (Mp W (termsT.take 1) w1) := Lib.hid (M0.out.more (e := (termsT[0]'(by decide))) h1 h2 h3 h4 h5 h6); clear h1 h2 h3 h4 h5 h6)
    | (refine ins_T rfl _ _ _ rfl W.heap.size rfl _ _ rfl rfl (termsT.take 1) M1.out.map (by rfl) ?_; intro w2 h1 h2 h3 h4 h5 h6; have M2 : Hid (Mp W (termsT.take 2) w2) := Lib.hid (M1.out.more (e := (termsT[1]'(by decide))) h1 h2 h3 h4 h5 h6); clear h1 h2 h3 h4 h5 h6)
    | (refine ins_T rfl _ _ _ rfl W.heap.size rfl _ _ rfl rfl (termsT.take 2) M2.out.map (by rfl) ?_; intro w3 h1 h2 h3 h4 h5 h6; have M3 : Hid (Mp W (termsT.take 3) w3) := Lib.hid (M2.out.more (e := (termsT[2]'(by decide))) h1 h2 h3 h4 h5 h6); clear h1 h2 h3 h4 h5 h6)
    | (refine ins_T rfl _ _ _ rfl W.heap.size rfl _ _ rfl rfl (termsT.take 3) M3.out.map (by rfl) ?_; intro w4 h1 h2 h3 h4 h5 h6; have M4 : Hid (Mp W (termsT.take 4) w4) := Lib.hid (M3.out.more (e := (termsT[3]'(by decide))) h1 h2 h3 h4 h5 h6); clear h1 h2 h3 h4 h5 h6)
    | (refine ins_T rfl _ _ _ rfl W.heap.size rfl _ _ rfl rfl (termsT.take 4) M4.out.map (by rfl) ?_; intro w5 h1 h2 h3 h4 h5 h6; have M5 : Hid (Mp W (termsT.take 5) w5) := Lib.hid (M4.out.more (e := (termsT[4]'(by decide))) h1 h2 h3 h4 h5 h6); clear h1 h2 h3 h4 h5 h6)
    | (refine ins_T rfl _ _ _ rfl W.heap.size rfl _ _ rfl rfl (termsT.take 5) M5.out.map (by rfl) ?_; intro w6 h1 h2 h3 h4 h5 h6; have M6 : Hid (Mp W (termsT.take 6) w6) := Lib.hid (M5.out.more (e := (termsT[5]'(by decide))) h1 h2 h3 h4 h5 h6); clear h1 h2 h3 h4 h5 h6)
    | (refine ins_T rfl _ _ _ rfl W.heap.size rfl _ _ rfl rfl (termsT.take 6) M6.out.map (by rfl) ?_; intro w7 h1 h2 h3 h4 h5 h6; have M7 : Hid (Mp W (termsT.take 7) w7) := Lib.hid (M6.out.more (e := (termsT[6]'(by decide))) h1 h2 h3 h4 h5 h6); clear h1 h2 h3 h4 h5 h6)
    | (refine ins_T rfl _ _ _ rfl W.heap.size rfl _ _ rfl rfl (termsT.take 7) M7.out.map (by rfl) ?_; intro w8 h1 h2 h3 h4 h5 h6; have M8 : Hid (Mp W (termsT.take 8) w8) := Lib.hid (M7.out.more (e := (termsT[7]'(by decide))) h1 h2 h3 h4 h5 h6); clear h1 h2 h3 h4 h5 h6)
    | (refine ins_T rfl _ _ _ rfl W.heap.size rfl _ _ rfl rfl (termsT.take 8) M8.out.map (by rfl) ?_; intro w9 h1 h2 h3 h4 h5 h6; have M9 : Hid (Mp W (termsT.take 9) w9) := Lib.hid (M8.out.more (e := (termsT[8]'(by decide))) h1 h2 h3 h4 h5 h6); clear h1 h2 h3 h4 h5 h6)
    | (refine ins_T rfl _ _ _ rfl W.heap.size rfl _ _ rfl rfl (termsT.take 9) M9.out.map (by rfl) ?_; intro w10 h1 h2 h3 h4 h5 h6; have M10 : Hid (Mp W (termsT.take 10) w10) := Lib.hid (M9.out.more (e := (termsT[9]'(by decide))) h1 h2 h3 h4 h5 h6); clear h1 h2 h3 h4 h5 h6)
    | (refine ins_T rfl _ _ _ rfl W.heap.size rfl _ _ rfl rfl (termsT.take 10) M10.out.map (by rfl) ?_; intro w11 h1 h2 h3 h4 h5 h6; have M11 : Hid (Mp W (termsT.take 11) w11) := Lib.hid (M10.out.more (e := (termsT[10]'(by decide))) h1 h2 h3 h4 h5 h6); clear h1 h2 h3 h4 h5 h6)
    | (refine ins_T rfl _ _ _ rfl W.heap.size rfl _ _ rfl rfl (termsT.take 11) M11.out.map (by rfl) ?_; intro w12 h1 h2 h3 h4 h5 h6; have M12 : Hid (Mp W (termsT.take 12) w12) := Lib.hid (M11.out.more (e := (termsT[11]'(by decide))) h1 h2 h3 h4 h5 h6); clear h1 h2 h3 h4 h5 h6)
    | (refine ins_T rfl _ _ _ rfl W.heap.size rfl _ _ rfl rfl (termsT.take 12) M12.out.map (by rfl) ?_; intro w13 h1 h2 h3 h4 h5 h6; have M13 : Hid (Mp W (termsT.take 13) w13) := Lib.hid (M12.out.more (e := (termsT[12]'(by decide))) h1 h2 h3 h4 h5 h6); clear h1 h2 h3 h4 h5 h6))
  go_ret
  exact ⟨rfl, M13.out⟩
def lookT (t : ByteArray) : Value × Bool := match findT t termsT 0 with
  | some x => (x.2, true)
  | none => (.nilFunc, false)
theorem funcZ : (Tryd.prog.info? 88).map (·.zero) = some (some .nilFunc) := by kernel_rfl
section
variable {o : Oper} {a : Act} {w : World} {K : Act → World → Prop} {Q : Exit → Act → World → Prop}
theorem wp_look (m x : Operand) (ho : o.op = .lookup 90 m x true) (r : Nat) (hm : a.eval m = .map (some r)) (t : ByteArray) (hx : a.eval x = .string t) (hg : w.heap[r]? = some (.map (entsT termsT 0).toArray termsT.length))
    (h : K (a.put o.dst (.tuple #[(lookT t).1, .bool (lookT t).2])) w) : o.wp Tryd.prog a w K Q := by
  have hgo : (getObj r).run Tryd.prog w = .ok (.map (entsT termsT 0).toArray termsT.length) w := by
    simp [getObj, Sem.run, hg]
  have hfn : Instr.findNow .string (.string t) (entsT termsT 0).toArray.toList 0 = some (findT t termsT 0) := by
    rw [List.toList_toArray, findNow_T]
  have hfk : (Instr.findKey 9 (.string t) (entsT termsT 0).toArray.toList).run Tryd.prog w = .ok (findT t termsT 0) w := by
    unfold Instr.findKey
    rw [Sem.run_bind, run_underlying strU, Result.andThen_ok, hfn]
    rfl
  have hz : (zeroValue 88).run Tryd.prog w = .ok .nilFunc w := by
    cases hq : Tryd.prog.info? 88 with
    | none => have := funcZ; simp [hq] at this
    | some ii =>
      have hi : ii.zero = some .nilFunc := by have := funcZ; simpa [hq] using this
      simp [zeroValue, typeInfo, hq, hi]
  have hrun : (Instr.lookup 90 (.map (some r)) (.string t) true).run Tryd.prog w = .ok (.tuple #[(lookT t).1, .bool (lookT t).2]) w := by
    unfold Instr.lookup
    rw [Sem.run_bind, run_underlying mapU, Result.andThen_ok]
    dsimp only
    rw [Sem.run_bind, hgo, Result.andThen_ok]
    dsimp only
    rw [Sem.run_bind, Sem.run_pure, Result.andThen_ok, Sem.run_bind, checkKey_str, Result.andThen_ok, Sem.run_bind, hfk, Result.andThen_ok]
    unfold lookT
    cases hft : findT t termsT 0 with
    | none =>
      dsimp only
      rw [Sem.run_bind, hz, Result.andThen_ok]
      rfl
    | some y => rfl
  unfold Oper.wp execOp
  simp only [ho, hm, hx, Sem.run_bind, hrun, Sem.run_pure, Result.andThen_ok]
  exact h
end
theorem Mp.kp {p : Nat} {W : World} {l : List (ByteArray × Nat)} {w : World} (h : Mp W l w) : Kp p W w := ⟨h.os, h.tape, h.output, by rw [h.size]; omega, fun k hk _ => h.old k hk⟩
theorem Mp.rw {p : Nat} {vw : Value} {ws : List Tok} {en : Int} {i : Nat} {o : Int} {W : World} {l : List (ByteArray × Nat)} {w : World} (h : Mp W l w) (r : Rw p vw ws en i o W) : Rw p vw ws en i o w :=
  ⟨(h.old p r.lt).trans r.blk, own_move r.wrd fun k hk => h.old k (own_lt r.wrd k hk), r.le, r.big, r.olo, r.ohi, r.siz, r.bin.move (h.old _ r.ltB), r.nep⟩
end Go.Proofs.YthlmhnlfcnpocaaDoor.U

namespace Go.Proofs.YthlmhnlfcnpocaaDoor.U
open Go.RowKit Go.Proofs.YthlmhnlfcnpocaaDoorW.PrintWords

/-- how a region ends whose ways meet again -/
def CutQ {α : Type} (PP : List PanicEntry → World → Prop) (F : α → Act) (Facts : α → World → Prop) : Exit → Act → World → Prop
  | .normal, a, w => ∃ x, a = F x ∧ Facts x w
  | .panic c, a, w => a.defers = [] ∧ PP c w
  | _, _, _ => False
theorem region_cut {α : Type} {P : Program} {Q : Exit → Act → World → Prop} {id : Nat} {ops : Array Oper} {b : Bool} {a : Act} {w : World} (PP : List PanicEntry → World → Prop) (F : α → Act) (Facts : α → World → Prop) (hp : ∀ c (a : Act) w, a.defers = [] → PP c w → Q (.panic c) a w)
    (h1 : (Code.region id ops b).wp P (CutQ PP F Facts) a w) (h2 : ∀ x w', Facts x w' → Q .normal (F x) w') : (Code.region id ops b).wp P Q a w :=
  Code.wp_mono (fun e a w h => by
    cases e with
    | normal =>
      obtain ⟨x, rfl, hf⟩ := h
      exact h2 x w hf
    | panic c => exact hp c a w h.1 h.2
    | exit id => exact (h : False).elim
    | goto l => exact (h : False).elim
    | ret => exact (h : False).elim
    | outgrown => exact (h : False).elim) h1

/-- branch gives up -/
def GivesB (p b : Nat) (W : World) (r : Except (Int × Int) (SN × Nat × Int)) (c : List PanicEntry) (w : World) : Prop := ∃ x : Int × Int, r = .error x ∧ c = flt x.1 x.2 ∧ Kq (fun k => k = p ∨ k = b) W w
section
variable (ws : List Tok) (en : Int) (rc : PC → Nat → Int → PR SN) (a : Int)
def br2 (c t : SN) (i : Nat) (o : Int) : PR SN :=
    if isZ ws i (⟨#[101, 108, 105, 102]⟩ : ByteArray) = true then (rc (.branch (placeZ ws en i)) (i + 1) o).andThen fun x i o => .ok (nd 28 a [c, t, x]) i o
    else (if isZ ws i (⟨#[101, 108, 115, 101]⟩ : ByteArray) = true then rc .pipe (i + 1) o else (.ok (nd 1 (placeZ ws en i) []) i o : PR SN)).andThen fun x i o =>
      (wantZ ws en (⟨#[101, 110, 100]⟩ : ByteArray) i o).andThen fun _ i o => .ok (nd 28 a [c, t, x]) i o
def br1 (c : SN) (i : Nat) (o : Int) : PR SN := (wantZ ws en (⟨#[116, 104, 101, 110]⟩ : ByteArray) i o).andThen fun _ i o => (rc .pipe i o).andThen fun t i o => br2 ws en rc a c t i o
theorem branchZ_eq (i : Nat) (o : Int) : branchZ ws en rc a i o = (rc .pipe i o).andThen fun c i o => br1 ws en rc a c i o := rfl
end
end Go.Proofs.YthlmhnlfcnpocaaDoor.U

namespace Go.Proofs.YthlmhnlfcnpocaaDoor.U
open Go.RowKit Go.Proofs.YthlmhnlfcnpocaaDoorW.PrintWords
set_option linter.unusedSimpArgs false
set_option linter.unusedVariables false
section
variable {o : Oper} {a : Act} {w : World} {Q : Exit → Act → World → Prop} {K : Act → World → Prop}
theorem wp_st_node0 (hd : o.dst = none) (x y : Operand) (ho : o.op = .store 28 x y) (g : Nat) (cells : Array Value) (hx : a.eval x = .pointer (some ⟨g, 0, none⟩)) (hy : a.eval y = .agg cells) (old : Array Value) (hg : w.heap[g]? = some (.cells old 28 (0, 0))) (hs : cells.size = 10) (hold : old.size = 10) (h1 : cells.all (·.oneCell') = true)
    (h : K a (w.setRow g cells)) : o.wp Tryd.prog a w K Q :=
  wp_st_node x y ho g cells hx hy old hg hs hold h1 (by rw [hd]; exact h)
theorem wp_st_cell0 (hd : o.dst = none) (ty : TypeId) (x y : Operand) (ho : o.op = .store ty x y) (hz : (Tryd.prog.info? ty).map (·.size) = some 1) (g j : Nat) (v : Value) (hx : a.eval x = .pointer (some ⟨g, j, none⟩)) (hy : a.eval y = v) (hv : v.oneCell' = true) (T : TypeId) (old : Array Value) (hg : w.heap[g]? = some (.cells old T (0, 0))) (hj : j < old.size)
    (h : K a (w.setCell ⟨g, j, none⟩ v)) : o.wp Tryd.prog a w K Q :=
  wp_st_cell ty x y ho hz g j v hx hy hv T old hg hj (by rw [hd]; exact h)
end
theorem cell_setCell_ne {w : World} {p : Addr} (v : Value) {q : Addr} (h : q.block ≠ p.block) : (w.setCell p v).cell? q = w.cell? q := World.cell?_of_block (Below.heap_setCell _ _ _ _ h)
set_option maxHeartbeats 1000000 in
set_option maxRecDepth 100000 in
theorem catch_idle (v1 v2 v3 : Value) (w : World) :
    CallsD Tryd.prog 12 #[v1, v2, v3] .returning w fun e u' w' => e = .returned (.tuple #[]) ∧ u' = .returning ∧ w' = w := by
  have hnil : ∀ w : World, (binOp BinOp.eql 20 .nilIface .nilIface).run Tryd.prog w = .ok (.bool true) w := fun _ => by kernel_rfl
  refine callsD_of_wpS Tryd.func12 rfl fun c₀ cs hu => ?_
  have hz : #[v1, v2, v3] ++ Array.replicate (Tryd.f12.ntmps - #[v1, v2, v3].size) undef = #[v1, v2, v3, undef, undef, undef, undef, undef, undef, undef, undef, undef, undef, undef, undef, undef, undef] := rfl
  rw [hz]
  apply wpS_seq
  apply wpS_region
  simp [wpOpsS, go_sem, recoverD, hu, Tryd.ntmps12, Exit.thenS]
  refine wpS_of_wp ?_
  go_wp2
  exact ⟨rfl, .returning, by rw [← hu], .tuple #[], results_none rfl _ _ _, rfl, rfl, rfl⟩
def zeroN : Array Value := ndCells 0 0 ⟨#[]⟩ 0 ⟨#[]⟩ ⟨#[]⟩ (.slice none 0 0) (.slice none 0 0)
def fltV (x y : Int) : Value := .iface 46 (.agg #[.int .i64 x, .int .i64 y])
set_option maxHeartbeats 1000000 in
set_option maxRecDepth 100000 in
theorem catch_caught (bn be ba : Nat) (x y : Int) (w : World) (cn : Array Value) (ce ca : Value) (hn : w.heap[bn]? = some (.cells cn 28 (0, 0))) (hs : cn.size = 10)
    (he : w.heap[be]? = some (.cells #[ce] 29 (0, 0))) (ha : w.heap[ba]? = some (.cells #[ca] 3 (0, 0))) (n1 : bn ≠ be) (n2 : bn ≠ ba) (n3 : be ≠ ba) :
    CallsD Tryd.prog 12 #[.pointer (some ⟨bn, 0, none⟩), .pointer (some ⟨be, 0, none⟩), .pointer (some ⟨ba, 0, none⟩)] (.panicking (flt x y)) w fun e u' w' =>
      e = .returned (.tuple #[]) ∧ u' = .panicking [{ v := fltV x y, recovered := true }] ∧ w' = ((((w.alloc (.cells #[.int .i64 x, .int .i64 y] 46 (0, 0))).drewN 1).setRow bn zeroN).setCell ⟨be, 0, none⟩ (.int .i64 x)).setCell ⟨ba, 0, none⟩ (.int .i64 y) := by
  have hnil : ∀ w : World, (binOp BinOp.eql 20 (.iface 46 (.agg #[.int .i64 x, .int .i64 y])) .nilIface).run Tryd.prog w = .ok (.bool false) w := fun _ => by kernel_rfl
  have hta : ∀ w : World, (Instr.typeAssert (.iface 46 (.agg #[.int .i64 x, .int .i64 y])) 20 46 true).run Tryd.prog w = .ok (.tuple #[.agg #[.int .i64 x, .int .i64 y], .bool true]) w := fun _ => by kernel_rfl
  refine callsD_of_wpS Tryd.func12 rfl fun c₀ cs hu => ?_
  have hz : ∀ v1 v2 v3 : Value, #[v1, v2, v3] ++ Array.replicate (Tryd.f12.ntmps - #[v1, v2, v3].size) undef = #[v1, v2, v3, undef, undef, undef, undef, undef, undef, undef, undef, undef, undef, undef, undef, undef, undef] := fun _ _ _ => rfl
  rw [hz]
  clear hz
  apply wpS_seq
  apply wpS_region
  simp [wpOpsS, go_sem, recoverD, hu, flt, Tryd.ntmps12, Exit.thenS]
  refine wpS_of_wp ?_
  go_wp2_with fail
  refine region_T (fun w' => w'.cell? ⟨w.heap.size, 0, none⟩ = some (.int .i64 x) ∧ w'.cell? ⟨w.heap.size, 1, none⟩ = some (.int .i64 y)) (fun _ => false) 8 rfl (by kernel_rfl) ?_
  have hS : ((w.alloc (.cells #[.int .i64 x, .int .i64 y] 46 (0, 0))).drew.cell? ⟨w.heap.size, 0, none⟩ = some (.int .i64 x)) ∧ ((w.alloc (.cells #[.int .i64 x, .int .i64 y] 46 (0, 0))).drew.cell? ⟨w.heap.size, 1, none⟩ = some (.int .i64 y)) := by
    constructor <;> exact cell_of_row _ _ _ _ _ _ (heap_alloc_new w _)
  have hbn := (Array.getElem?_eq_some_iff.1 hn).1
  have hbe := (Array.getElem?_eq_some_iff.1 he).1
  have hba := (Array.getElem?_eq_some_iff.1 ha).1
  have e1 := (Below.heap_alloc w (.cells #[.int .i64 x, .int .i64 y] 46 (0, 0)) _ hbn).trans hn
  have e2 := (Below.heap_alloc w (.cells #[.int .i64 x, .int .i64 y] 46 (0, 0)) _ hbe).trans he
  have e3 := (Below.heap_alloc w (.cells #[.int .i64 x, .int .i64 y] 46 (0, 0)) _ hba).trans ha
  have hne0 : w.heap.size ≠ bn := by omega
  have hne1 : w.heap.size ≠ be := by omega
  have hne2 : w.heap.size ≠ ba := by omega
  generalize w.heap.size = fb at *
  change (w.alloc (.cells #[.int .i64 x, .int .i64 y] 46 (0, 0))).drew.heap[bn]? = _ at e1
  change (w.alloc (.cells #[.int .i64 x, .int .i64 y] 46 (0, 0))).drew.heap[be]? = _ at e2
  change (w.alloc (.cells #[.int .i64 x, .int .i64 y] 46 (0, 0))).drew.heap[ba]? = _ at e3
  have hw1 : (w.alloc (.cells #[.int .i64 x, .int .i64 y] 46 (0, 0))).drew = (w.alloc (.cells #[.int .i64 x, .int .i64 y] 46 (0, 0))).drewN 1 := rfl
  generalize (w.alloc (.cells #[.int .i64 x, .int .i64 y] 46 (0, 0))).drew = w1 at *
  refine anyT_take (i := 0) (oi := _) (v := (.agg zeroN)) (d := (some 12)) rfl rfl (by kernel_rfl) (by kernel_rfl) rfl (by kernel_rfl) (by kernel_rfl) (fun _ _ _ h => h) (Or.inl ⟨by rfl, fun w hS => by go_simp; rfl⟩) hS ?_
  try simp only [Act.put, List.setIfInBounds_toArray, List.set_cons_zero, List.set_cons_succ]
  refine anyT_take (i := 1) (oi := _) (v := (.pointer (some ⟨fb, 0, none⟩))) (d := (some 13)) rfl rfl (by kernel_rfl) (by kernel_rfl) rfl (by kernel_rfl) (by kernel_rfl) (fun _ _ _ h => h) (Or.inl ⟨by rfl, fun w hS => by go_simp⟩) hS ?_
  try simp only [Act.put, List.setIfInBounds_toArray, List.set_cons_zero, List.set_cons_succ]
  refine anyT_take (i := 2) (oi := _) (v := (.int .i64 x)) (d := (some 14)) rfl rfl (by kernel_rfl) (by kernel_rfl) rfl (by kernel_rfl) (by kernel_rfl) (fun _ _ _ h => h) (yl_cell 29 _ rfl (by rfl) (by kernel_rfl) _ _ rfl _ (fun _ h => h.1)) hS ?_
  try simp only [Act.put, List.setIfInBounds_toArray, List.set_cons_zero, List.set_cons_succ]
  refine anyT_take (i := 3) (oi := _) (v := (.pointer (some ⟨fb, 1, none⟩))) (d := (some 15)) rfl rfl (by kernel_rfl) (by kernel_rfl) rfl (by kernel_rfl) (by kernel_rfl) (fun _ _ _ h => h) (Or.inl ⟨by rfl, fun w hS => by go_simp⟩) hS ?_
  try simp only [Act.put, List.setIfInBounds_toArray, List.set_cons_zero, List.set_cons_succ]
  refine anyT_take (i := 4) (oi := _) (v := (.int .i64 y)) (d := (some 16)) rfl rfl (by kernel_rfl) (by kernel_rfl) rfl (by kernel_rfl) (by kernel_rfl) (fun _ _ _ h => h) (yl_cell 3 _ rfl (by rfl) (by kernel_rfl) _ _ rfl _ (fun _ h => h.2)) hS ?_
  try simp only [Act.put, List.setIfInBounds_toArray, List.set_cons_zero, List.set_cons_succ]
  refine anyT_step (i := 5) (oi := _) rfl (by kernel_rfl) (by rfl) (fun K hK => ?_)
  refine wp_st_node0 rfl _ _ rfl bn zeroN rfl rfl cn e1 rfl hs (by simp [zeroN, ndCells, Value.oneCell']) (hK _ _ (fun _ => ?_) ?_)
  · exact ⟨(cell_setRow_other _ _ _ _ hne0).trans hS.1, (cell_setRow_other _ _ _ _ hne0).trans hS.2⟩
  clear hK K
  have hS1 : (w1.setRow bn zeroN).cell? ⟨fb, 0, none⟩ = some (.int .i64 x) ∧ (w1.setRow bn zeroN).cell? ⟨fb, 1, none⟩ = some (.int .i64 y) := ⟨(cell_setRow_other _ _ _ _ hne0).trans hS.1, (cell_setRow_other _ _ _ _ hne0).trans hS.2⟩
  refine anyT_step (i := 6) (oi := _) rfl (by kernel_rfl) (by rfl) (fun K hK => ?_)
  refine wp_st_cell0 rfl 29 _ _ rfl (by kernel_rfl) be 0 (.int .i64 x) rfl rfl rfl _ #[ce] ((setRow_other _ _ _ _ (Ne.symm n1)).trans e2) Nat.zero_lt_one (hK _ _ (fun _ => ?_) ?_)
  · exact ⟨(cell_setCell_ne _ hne1).trans hS1.1, (cell_setCell_ne _ hne1).trans hS1.2⟩
  clear hK K
  refine anyT_step (i := 7) (oi := _) rfl (by kernel_rfl) (by rfl) (fun K hK => ?_)
  refine wp_st_cell0 rfl 3 _ _ rfl (by kernel_rfl) ba 0 (.int .i64 y) rfl rfl rfl _ #[ca] ((Below.heap_setCell _ _ _ _ (Ne.symm n3)).trans ((setRow_other _ _ _ _ (Ne.symm n2)).trans e3)) Nat.zero_lt_one (hK _ _ (fun _ => ?_) ?_)
  · exact ⟨(cell_setCell_ne _ hne2).trans ((cell_setCell_ne _ hne1).trans hS1.1), (cell_setCell_ne _ hne2).trans ((cell_setCell_ne _ hne1).trans hS1.2)⟩
  clear hK K
  refine anyT_done (by kernel_rfl) ?_ _
  exact ⟨rfl, _, rfl, .tuple #[], results_none rfl _ _ _, rfl, rfl, by rw [← hw1]⟩
end Go.Proofs.YthlmhnlfcnpocaaDoor.U

/- The contract of token.Scan. -/
import Derived.RangeFuncNested
import Derived.RangeFuncBound
import Derived.RangeFuncCalls
import Derived.RangeFuncLeaves
import Derived.WalkKit
import Derived.Test.YtkfcoikfhpabmaaDoorCutAll
import Derived.Laws.EntriesVeiled
import Derived.Shelf.Abstract
import Derived.OwnWalkIn
import Derived.TacticsInMore
import Derived.LoopIn
import Derived.Scope
import Derived.Deep.Cut
import Derived.Deep.CutRange
import Derived.RangeFuncBox
import Derived.Maps.AppendAt
import Derived.Laws.AppendOwn
namespace Go.Proofs.YtkfcoikfhpabmaaDoor.Rg
open Go Go.RowKit
set_option linter.unusedVariables false

/-- what the iterator may do to the memory: new blocks, and its own cells (of the types K, from B on) -/
structure Turn (B : Nat) (K : TypeId → Prop) (W W' : World) : Prop where
  os : W'.os = W.os
  tape : W'.tape = W.tape
  output : W'.output = W.output
  size : W.heap.size ≤ W'.heap.size
  same : ∀ (k : Nat) (o : Obj), W.heap[k]? = some o → (k < B ∨ ∀ cs t fr, K t → o ≠ .cells cs t fr) → W'.heap[k]? = some o
/-- what a loop's invariant abides: beside that, whatever is no cells and lies from B on may turn -/
structure TurnX (B : Nat) (K : TypeId → Prop) (W W' : World) : Prop where
  os : W'.os = W.os
  tape : W'.tape = W.tape
  output : W'.output = W.output
  size : W.heap.size ≤ W'.heap.size
  same : ∀ (k : Nat) (o : Obj), W.heap[k]? = some o → (k < B ∨ ∃ cs t fr, o = .cells cs t fr ∧ ¬ K t) → W'.heap[k]? = some o
theorem Turn.x {B : Nat} {K : TypeId → Prop} {W W' : World} (h : Turn B K W W') : TurnX B K W W' :=
  ⟨h.os, h.tape, h.output, h.size, fun k o hk hc => h.same k o hk (hc.imp id (fun ⟨cs, t, fr, e, ne⟩ => by rintro cs' t' fr' hkk rfl; injection e with _ e2; exact ne (e2 ▸ hkk)))⟩
theorem TurnX.weaken {B B' : Nat} {K : TypeId → Prop} {W W' : World} (hB : B' ≤ B) (h : TurnX B K W W') : TurnX B' K W W' :=
  ⟨h.os, h.tape, h.output, h.size, fun k o hk hc => h.same k o hk (hc.imp (fun x => by omega) id)⟩
theorem Turn.of_below {B : Nat} {K : TypeId → Prop} {W W' : World} (h : Below W.heap.size W W') : Turn B K W W' :=
  ⟨h.os, h.tape, h.output, h.size, fun k o hk _ => (h.block k (Array.getElem?_eq_some_iff.1 hk).1).trans hk⟩
theorem Turn.trans {B : Nat} {K : TypeId → Prop} {W W1 W2 : World} (h : Turn B K W W1) (k : Turn B K W1 W2) : Turn B K W W2 :=
  ⟨k.os.trans h.os, k.tape.trans h.tape, k.output.trans h.output, Nat.le_trans h.size k.size, fun i o hi hc => k.same i o (h.same i o hi hc) hc⟩
theorem Turn.setCell {B : Nat} {K : TypeId → Prop} {W : World} {b : Nat} {cs : Array Value} {t : TypeId} {fr : Nat × Nat} (ht : K t) (hb : W.heap[b]? = some (.cells cs t fr)) (hB : B ≤ b) (i : Nat) (v : Value) : Turn B K W (W.setCell ⟨b, i, none⟩ v) := by
  have hs := (Below.refl B W).setCell (p := ⟨b, i, none⟩) hB v
  refine ⟨hs.os, hs.tape, hs.output, hs.size, fun k o hk hc => ?_⟩
  refine (Below.heap_setCell W ⟨b, i, none⟩ v k ?_).trans hk
  intro e
  have e' : k = b := e
  rw [e'] at hk hc
  rcases hc with h | h
  · omega
  · rw [hb] at hk
    exact h cs t fr ht (Option.some.inj hk).symm
theorem TurnX.below {B n₀ : Nat} {K : TypeId → Prop} {w W W' : World} (h : TurnX B K W W') (hb : Below n₀ w W) (hn : n₀ ≤ B) (hw : n₀ ≤ w.heap.size) : Below n₀ w W' :=
  ⟨h.os.trans hb.os, h.tape.trans hb.tape, h.output.trans hb.output, Nat.le_trans hb.size h.size, fun k hk => by
    have h1 := hb.block k hk
    obtain ⟨o, ho⟩ : ∃ o, w.heap[k]? = some o := ⟨_, Array.getElem?_eq_getElem (by omega)⟩
    rw [ho] at h1 ⊢
    exact h.same k o h1 (Or.inl (by omega))⟩
theorem turnX_putObj {B : Nat} {K : TypeId → Prop} (W : World) (l : Nat) (o o' : Obj) (hB : B ≤ l) (h : W.heap[l]? = some o) (hc : o.isCells = false) : TurnX B K W (W.putObj l o') :=
  ⟨rfl, rfl, rfl, by simp, fun k ob hk hx => by
    refine (World.putObj_heap_other ?_).trans hk
    rintro rfl
    rcases hx with hx | ⟨cs, t, fr, e, _⟩
    · omega
    · rw [hk] at h
      injection h with h
      subst h
      subst e
      cases hc⟩
theorem turnX_alloc {B : Nat} {K : TypeId → Prop} (W : World) (o : Obj) : TurnX B K W (W.alloc o) := (Turn.of_below ((Below.refl _ W).alloc (Nat.le_refl _) o)).x

/-- what a round that goes on keeps: the iterator's own cells, and all that lies from M on -/
def Kept (n₀ : Nat) (K : TypeId → Prop) (M : Nat) (W W' : World) : Prop :=
  Below n₀ W W' ∧ (∀ (k : Nat) (cs : Array Value) (t : TypeId) (fr : Nat × Nat), K t → W.heap[k]? = some (Obj.cells cs t fr) → W'.heap[k]? = some (Obj.cells cs t fr)) ∧ ∀ k, M ≤ k → k < W.heap.size → W'.heap[k]? = W.heap[k]?
theorem Kept.trans {n₀ : Nat} {K : TypeId → Prop} {M : Nat} {A B C : World} (h : Kept n₀ K M A B) (k : Kept n₀ K M B C) : Kept n₀ K M A C :=
  ⟨h.1.trans k.1, fun i cs t fr ht hi => k.2.1 i cs t fr ht (h.2.1 i cs t fr ht hi), fun i hm hl => (k.2.2 i hm (Nat.lt_of_lt_of_le hl h.1.size)).trans (h.2.2 i hm hl)⟩
theorem Kept.weaken {n₀ : Nat} {K : TypeId → Prop} {M M' : Nat} {A B : World} (hM : M ≤ M') (h : Kept n₀ K M A B) : Kept n₀ K M' A B := ⟨h.1, h.2.1, fun i hm hl => h.2.2 i (by omega) hl⟩
theorem kept_putObj {n₀ : Nat} {K : TypeId → Prop} {M : Nat} {W : World} (l : Nat) (o o' : Obj) (hn : n₀ ≤ l) (hM : l < M) (h : W.heap[l]? = some o) (hc : o.isCells = false) : Kept n₀ K M W (W.putObj l o') :=
  ⟨(Below.refl n₀ W).grown (grownBy_putObj' W l o') (by have := (Array.getElem?_eq_some_iff.1 h).1; omega) (fun k e => by cases e; omega), fun k cs t fr _ hk => (World.putObj_heap_other (by rintro rfl; rw [hk] at h; injection h with h; subst h; cases hc)).trans hk,
   fun k hm _ => World.putObj_heap_other (by omega)⟩
theorem kept_alloc {n₀ : Nat} {K : TypeId → Prop} {M : Nat} {W : World} (hn : n₀ ≤ W.heap.size) (o : Obj) : Kept n₀ K M W (W.alloc o) :=
  ⟨(Below.refl n₀ W).alloc hn o, fun k cs t fr _ hk => (Below.heap_alloc W o k (Array.getElem?_eq_some_iff.1 hk).1).trans hk, fun k _ hk => Below.heap_alloc W o k hk⟩
theorem kept_set {n₀ : Nat} {K : TypeId → Prop} {M : Nat} {W : World} {b : Nat} {cs : Array Value} {t : TypeId} {fr : Nat × Nat} (hb : W.heap[b]? = some (.cells cs t fr)) (ht : ¬ K t) (hn : n₀ ≤ b) (hM : b < M) (i : Nat) (v : Value) : Kept n₀ K M W (W.setCell ⟨b, i, none⟩ v) :=
  ⟨(Below.refl n₀ W).setCell (p := ⟨b, i, none⟩) hn v, fun k cs' t' fr' hk hh => by
    refine (Below.heap_setCell W ⟨b, i, none⟩ v k ?_).trans hh
    intro e
    have e' : k = b := e
    subst e'
    rw [hb] at hh
    injection hh with hh
    injection hh with _ e2
    exact ht (e2 ▸ hk), fun k hm _ => Below.heap_setCell W ⟨b, i, none⟩ v k (by show k ≠ b; omega)⟩
theorem kept_of_below {n₀ : Nat} {K : TypeId → Prop} {M : Nat} {W W' : World} (hn : n₀ ≤ W.heap.size) (h : Below W.heap.size W W') : Kept n₀ K M W W' :=
  ⟨h.mono hn, fun k cs t fr _ hk => (h.block k (Array.getElem?_eq_some_iff.1 hk).1).trans hk, fun k _ hk => h.block k hk⟩
theorem kept_drew {n₀ : Nat} {K : TypeId → Prop} {M : Nat} {W : World} : Kept n₀ K M W W.drew := ⟨(Below.refl n₀ W).drew, fun _ _ _ _ _ h => h, fun _ _ _ => rfl⟩

theorem TurnX.of_kept {n₀ B : Nat} {K : TypeId → Prop} {W W' : World} (h : Kept n₀ K 0 W W') : TurnX B K W W' :=
  ⟨h.1.os, h.1.tape, h.1.output, h.1.size, fun k o hk _ => (h.2.2 k (Nat.zero_le _) (Array.getElem?_eq_some_iff.1 hk).1).trans hk⟩
theorem TurnX.trans {B : Nat} {K : TypeId → Prop} {W W1 W2 : World} (h : TurnX B K W W1) (k : TurnX B K W1 W2) : TurnX B K W W2 :=
  ⟨k.os.trans h.os, k.tape.trans h.tape, k.output.trans h.output, Nat.le_trans h.size k.size, fun i o hi hc => k.same i o (h.same i o hi hc) hc⟩

/-- the iterator's contract -/
def SeqC {α : Type} (P : Program) (K : TypeId → Prop) (gf : Nat) (lb : Array Value) (encs : α → Array Value) (S Sp : List α → Prop) (n₀ : Nat) (w₀ : World) : Prop :=
  ∀ (n l : Nat) (J Jx : List α → World → Prop) (W : World), Kept n₀ K w₀.heap.size w₀ W → n₀ ≤ W.heap.size → (∀ s A B, J s A → Turn W.heap.size K A B → J s B) → (∀ s A B, Jx s A → Turn W.heap.size K A B → Jx s B) →
    (∀ pre x W0 W1, J pre W0 → Turn W.heap.size K W0 W1 → Sp (pre ++ [x]) → YieldAt Fence.wide (n - 1) P l (encs x) W1 fun e W' =>
      (e = .returned (.bool true) ∧ J (pre ++ [x]) W' ∧ Kept n₀ K W0.heap.size W1 W') ∨ (e = .returned (.bool false) ∧ Jx (pre ++ [x]) W')) →
    J [] W →
    CallsIn Fence.wide n P gf (#[.func (.yield l) #[] #[]] ++ lb) W fun e W' => (∃ v, e = .returned v) ∧ ((∃ xs, S xs ∧ J xs W') ∨ (∃ pre, Sp pre ∧ Jx pre W'))

/-- how the body of a round may be left -/
def bodyPostC {α : Type} (n₀ : Nat) (K : TypeId → Prop) (M : Nat) (I : List α → World → Prop) (Ix : Code → List α → World → Prop) (xs : List α) (W : World) : Exit → Act → World → Prop
  | .normal, _, W' => KeepsOthers W W' ∧ Kept n₀ K M W W' ∧ I xs W'
  | .ret, _, W' => KeepsOthers W W' ∧ Ix .ret xs W'
  | .exit id, _, W' => KeepsOthers W W' ∧ Ix (.exit id) xs W'
  | .goto t, _, W' => KeepsOthers W W' ∧ Ix (.goto t) xs W'
  | .panic _, _, _ => False
  | .outgrown, _, _ => False

/-- the loop -/
theorem range_law {α : Type} {P : Program} {K : TypeId → Prop} {n : Nat} {g : Operand} {ps : Array Tmp} {assign body : Code} {Q : Exit → Act → World → Prop} {a : Act} {w : World}
    {gf : Nat} {lb : Array Value} (hg : a.eval g = .func (.func gf) #[] lb) (eg : ∀ args w, (callFunc gf args).run P w = .ok (.enter gf args) w)
    {encs : α → Array Value} {S Sp : List α → Prop} {n₀ : Nat} {w₀ : World} (hseq : SeqC P K gf lb encs S Sp n₀ w₀) (hb0 : Kept n₀ K w₀.heap.size w₀ w) (hn0 : n₀ ≤ w₀.heap.size) (hps : ∀ x, (encs x).size = ps.size)
    (I : List α → World → Prop) (Ix : Code → List α → World → Prop) (hI : ∀ s A B, I s A → TurnX w.heap.size K A B → I s B) (hIx : ∀ c s A B, Ix c s A → TurnX w.heap.size K A B → Ix c s B) (h0 : I [] w) (Ax : α → Act → World → Prop) (hAx : ∀ x a' A B, Ax x a' A → TurnX w.heap.size K A B → Ax x a' B)
    (hassign : ∀ (l : Nat) (pre : List α) (x : α) (W : World) (KK : Act → World → Prop), I pre W → w.heap.size ≤ W.heap.size → (∀ a' W', KeepsOthers W W' → Kept n₀ K 0 W W' → I pre W' → Ax x a' W' → KK a' W') →
      assign.wpIn (Fence.wide.inRound l) (n - 1 - 1) P (Exit.then KK (fun _ _ _ => False)) { tmps := (ps.zip (encs x)).foldl (fun t (p, v) => t.setIfInBounds p v) a.tmps, defers := [] } W)
    (hbody : ∀ (l : Nat) (pre : List α) (x : α) (a' : Act) (W0 W : World), I pre W0 → TurnX w.heap.size K W0 W → w.heap.size ≤ W0.heap.size → I pre W → Ax x a' W → Sp (pre ++ [x]) → body.wpIn (Fence.wide.inRound l) (n - 1 - 1) P (bodyPostC n₀ K W0.heap.size I Ix (pre ++ [x]) W) a' W)
    (hdone : ∀ (D : Nat) (xs : List α) (W : World), w.heap.size ≤ D → S xs → I xs W → W.heap[D]? = some (.deferred (some [])) → Q .normal { a with defers := { target := .collected D, args := #[] } :: a.defers } W)
    (hstop : ∀ (D : Nat) (c : Code) (pre : List α) (W : World), w.heap.size ≤ D → Sp pre → Ix c pre W → W.heap[D]? = some (.deferred (some [])) → c.wpIn Fence.wide n P Q { a with defers := { target := .collected D, args := #[] } :: a.defers } W) :
    (Code.rangeFunc g ps assign body).wpIn Fence.wide n P Q a w := by
  refine wpIn_rangeFunc ?_
  intro fn hfn
  have hnw : n₀ ≤ w.heap.size := Nat.le_trans hn0 hb0.1.size
  obtain ⟨rec, hrec⟩ : ∃ rec : LoopState → Option Code → Loop, rec = fun st pe => { state := st, pending := pe, fn, tmps := a.tmps, params := ps, assign, body, defers := w.heap.size } := ⟨_, rfl⟩
  obtain ⟨wA, hwA⟩ : ∃ wA, w.alloc (.deferred (some [])) = wA := ⟨_, rfl⟩
  obtain ⟨wB, hwB⟩ : ∃ wB, wA.alloc (.loop (rec .ready none)) = wB := ⟨_, rfl⟩
  have sA : wA.heap.size = w.heap.size + 1 := by rw [← hwA]; simp
  have sB : wB.heap.size = w.heap.size + 2 := by rw [← hwB]; simp [sA]
  have dB : wB.heap[w.heap.size]? = some (.deferred (some [])) := by
    rw [← hwB, Below.heap_alloc _ _ _ (by omega), ← hwA]
    exact World.alloc_heap_new w _
  have lB : wB.heap[w.heap.size + 1]? = some (.loop (rec .ready none)) := by
    have := World.alloc_heap_new wA (.loop (rec .ready none))
    rw [sA, hwB] at this
    exact this
  have bB : Kept n₀ K w₀.heap.size w₀ wB := by
    rw [← hwB, ← hwA]
    exact (hb0.trans (kept_alloc hnw _)).trans (kept_alloc (by simp; omega) _)
  have iB : I [] wB := by
    rw [← hwB, ← hwA]
    exact hI _ _ _ (hI _ _ _ h0 (turnX_alloc _ _)) (turnX_alloc _ _)
  refine ⟨w.heap.size + 1, [{ target := .collected w.heap.size, args := #[] }], wB, { target := .fn (.func gf) lb, args := #[.func (.yield (w.heap.size + 1)) #[] #[]] }, wB, gf,
    #[.func (.yield (w.heap.size + 1)) #[] #[]] ++ lb, wB, ?_, ?_, fun _ _ => trivial, ?_, fun h => by simp [Fence.wide] at h, ?_⟩
  · have := run_enterLoop_outer (P := P) (w := w) fn a.tmps ps assign body
    rw [← hwB, ← hwA, hrec]
    exact this
  · simp only [resolve, hg]
    simp [go_sem]
  · simp [invoke, go_sem, eg]
  · have keepL : ∀ {A B : World} {o : Obj} {k : Nat}, Turn wB.heap.size K A B → A.heap[k]? = some o → o.isCells = false → B.heap[k]? = some o := by
      intro A B o k ht hk hc
      exact ht.same k o hk (Or.inr (by rintro cs t fr _ rfl; cases hc))
    refine (hseq (n - 1) (w.heap.size + 1)
      (fun pre W => I pre W ∧ W.heap[w.heap.size + 1]? = some (.loop (rec .ready none)) ∧ W.heap[w.heap.size]? = some (.deferred (some [])))
      (fun pre W => ∃ c, Ix c pre W ∧ W.heap[w.heap.size + 1]? = some (.loop (rec .done (some c))) ∧ W.heap[w.heap.size]? = some (.deferred (some [])))
      wB bB (by omega)
      (fun s A B ⟨x1, x2, x3⟩ ht => ⟨hI s A B x1 (ht.x.weaken (by omega)), keepL ht x2 rfl, keepL ht x3 rfl⟩)
      (fun s A B ⟨c, x1, x2, x3⟩ ht => ⟨c, hIx c s A B x1 (ht.x.weaken (by omega)), keepL ht x2 rfl, keepL ht x3 rfl⟩)
      ?_ ⟨iB, lB, dB⟩).mono ?_
    · rintro pre x Wj W0 ⟨hij, hlj, hkj⟩ htj hlen
      have hltj : w.heap.size + 1 < Wj.heap.size := (Array.getElem?_eq_some_iff.1 hlj).1
      have hi0 : I pre W0 := hI _ _ _ hij (htj.x.weaken (by omega))
      have hl0 : W0.heap[w.heap.size + 1]? = some (.loop (rec .ready none)) := keepL htj hlj rfl
      have hk0 : W0.heap[w.heap.size]? = some (.deferred (some [])) := keepL htj hkj rfl
      have hlt0 : w.heap.size + 1 < W0.heap.size := (Array.getElem?_eq_some_iff.1 hl0).1
      have hy := run_yield (P := P) (args := encs x) hl0 (by rw [hrec]; exact hps x)
      rw [hrec] at hy
      refine ⟨fn, _, assign, body, hy, roundIn_of_wpIn hfn (hassign _ pre x W0 _ hi0 (by omega) fun a' W hoA kA hi hax => ?_)⟩
      have hl : W.heap[w.heap.size + 1]? = some (.loop (rec .ready none)) := hoA.same _ _ hl0 rfl
      have hk : W.heap[w.heap.size]? = some (.deferred (some [])) := hoA.same _ _ hk0 rfl
      refine ⟨_, run_beginRound hl (by rw [hrec]), ?_⟩
      have hlt : w.heap.size + 1 < W.heap.size := (Array.getElem?_eq_some_iff.1 hl).1
      obtain ⟨WB, hWB⟩ : ∃ WB, W.putObj (w.heap.size + 1) (.loop { rec .ready none with state := .busy }) = WB := ⟨_, rfl⟩
      have lW : WB.heap[w.heap.size + 1]? = some (.loop { rec .ready none with state := .busy }) := by
        rw [← hWB]
        exact World.putObj_heap_same hlt
      have dW : WB.heap[w.heap.size]? = some (.deferred (some [])) := by
        rw [← hWB]
        exact (World.putObj_heap_other (by omega)).trans hk
      have kW : Kept n₀ K Wj.heap.size W0 WB := by
        rw [← hWB]
        exact (kA.weaken (Nat.zero_le _)).trans (kept_putObj _ _ _ (by omega) (by omega) hl rfl)
      have iW : I pre WB := by
        rw [← hWB]
        exact hI _ _ _ hi (turnX_putObj W _ _ _ (by omega) hl rfl)
      have aW : Ax x a' WB := by
        rw [← hWB]
        exact hAx _ _ _ _ hax (turnX_putObj W _ _ _ (by omega) hl rfl)
      have sW : w.heap.size ≤ WB.heap.size := by
        rw [← hWB]
        simp
        omega
      rw [hWB]
      have tW : TurnX w.heap.size K Wj WB := by
        rw [← hWB]
        exact ((htj.x.weaken (by omega)).trans (TurnX.of_kept kA)).trans (turnX_putObj W _ _ _ (by omega) hl rfl)
      refine wpIn_mono (hbody _ pre x a' Wj WB hij tW (by omega) iW aW hlen) ?_
      have fin : ∀ (jump : Option Code) (W3 : World), KeepsOthers WB W3 →
          (Instr.endRound (w.heap.size + 1) jump).run P W3 = .ok (.bool jump.isNone) (W3.putObj (w.heap.size + 1) (.loop (rec (if jump.isNone then .ready else .done) jump))) ∧
          W3.heap[w.heap.size + 1]? = some (.loop { rec .ready none with state := .busy }) ∧
          (W3.putObj (w.heap.size + 1) (.loop (rec (if jump.isNone then .ready else .done) jump))).heap[w.heap.size + 1]? = some (.loop (rec (if jump.isNone then .ready else .done) jump)) ∧
          (W3.putObj (w.heap.size + 1) (.loop (rec (if jump.isNone then .ready else .done) jump))).heap[w.heap.size]? = some (.deferred (some [])) := by
        intro jump W3 hk3
        have l3 := hk3.same _ _ lW rfl
        have hr := run_endRound (P := P) jump l3
        rw [hrec] at hr l3 ⊢
        exact ⟨hr, l3, World.putObj_heap_same (Array.getElem?_eq_some_iff.1 l3).1, (World.putObj_heap_other (by omega)).trans (hk3.same _ _ dW rfl)⟩
      rintro e a3 W3 hp
      cases e with
      | normal =>
        obtain ⟨hk3, hkp3, hi3⟩ := hp
        obtain ⟨hr, l3, l4, d4⟩ := fin none W3 hk3
        exact ⟨_, _, hr, Or.inl ⟨rfl, ⟨hI _ _ _ hi3 (turnX_putObj W3 _ _ _ (by omega) l3 rfl), l4, d4⟩, (kW.trans hkp3).trans (kept_putObj _ _ _ (by omega) (by omega) l3 rfl)⟩⟩
      | ret =>
        obtain ⟨hk3, hi3⟩ := hp
        obtain ⟨hr, l3, l4, d4⟩ := fin (some .ret) W3 hk3
        exact ⟨_, _, hr, Or.inr ⟨rfl, .ret, hIx _ _ _ _ hi3 (turnX_putObj W3 _ _ _ (by omega) l3 rfl), l4, d4⟩⟩
      | exit id =>
        obtain ⟨hk3, hi3⟩ := hp
        obtain ⟨hr, l3, l4, d4⟩ := fin (some (.exit id)) W3 hk3
        exact ⟨_, _, hr, Or.inr ⟨rfl, .exit id, hIx _ _ _ _ hi3 (turnX_putObj W3 _ _ _ (by omega) l3 rfl), l4, d4⟩⟩
      | goto t =>
        obtain ⟨hk3, hi3⟩ := hp
        obtain ⟨hr, l3, l4, d4⟩ := fin (some (.goto t)) W3 hk3
        exact ⟨_, _, hr, Or.inr ⟨rfl, .goto t, hIx _ _ _ _ hi3 (turnX_putObj W3 _ _ _ (by omega) l3 rfl), l4, d4⟩⟩
      | panic ch => exact hp.elim
      | outgrown => exact hp.elim
    · rintro e W2 ⟨⟨v, rfl⟩, (⟨xs, hS, hi, hl, hk⟩ | ⟨pre, hSp, c, hi, hl, hk⟩)⟩
      · have hr := run_endLoop (P := P) hl (by rw [hrec]; simp)
        rw [hrec] at hr
        exact ⟨none, _, hr, hdone _ xs _ (Nat.le_refl _) hS (hI _ _ _ hi (turnX_putObj W2 _ _ _ (by omega) hl rfl)) ((World.putObj_heap_other (by omega)).trans hk)⟩
      · have hr := run_endLoop (P := P) hl (by rw [hrec]; simp)
        rw [hrec] at hr
        exact ⟨some c, _, hr, hstop _ c pre _ (Nat.le_refl _) hSp (hIx _ _ _ _ hi (turnX_putObj W2 _ _ _ (by omega) hl rfl)) ((World.putObj_heap_other (by omega)).trans hk)⟩

end Go.Proofs.YtkfcoikfhpabmaaDoor.Rg

namespace Go.Proofs.YtkfcoikfhpabmaaDoor.U
open Go.RowKit Go.Proofs.YtkfcoikfhpabmaaDoorW.PrintWords
set_option linter.unusedSimpArgs false
set_option linter.unusedVariables false

abbrev fnV (k : Nat) : Value := .func (.func k) #[] #[]
abbrev takersA : Array Value := #[fnV 29, fnV 30, fnV 31, fnV 32, fnV 33]
theorem seq_calls (s : ByteArray) (w : World) : Calls Tryd.prog 13 #[.string s] w fun e w' =>
    e = .returned (.func (.func 18) #[] #[.pointer (some ⟨w.heap.size, 0, none⟩)]) ∧ w' = w.alloc (.cells #[.string s] 9 (0, 0)) := by
  go_enter Tryd.func13, Tryd.ntmps13
  go_wp2
  refine bodyPost_ret (results_tmp rfl _ _ _) rfl ?_
  exact ⟨rfl, rfl⟩
set_option maxHeartbeats 1000000 in
theorem takers_calls (w : World) : Calls Tryd.prog 19 #[] w fun e w' =>
    e = .returned (.agg takersA) ∧ Below w.heap.size w w' := by
  go_enter Tryd.func19, Tryd.ntmps19
  go_wp2_with ((with_reducible refine gate_dst (N := 0) rfl ?_); refine box_event rfl (N := 0) rfl (cs := #[.nilFunc, .nilFunc, .nilFunc, .nilFunc, .nilFunc]) (t := 48) ?hr ?_; (case hr => first | (go_simp; done) | (go_simp; rfl)); intro g hg w1 hbox hb1; go_must (have g_0 : w1.cell? ⟨g, 0, none⟩ = some .nilFunc := (blk_cell hbox 0).trans rfl; have g_f0 := blk_frozen hbox 0; have g_1 : w1.cell? ⟨g, 1, none⟩ = some .nilFunc := (blk_cell hbox 1).trans rfl; have g_f1 := blk_frozen hbox 1; have g_2 : w1.cell? ⟨g, 2, none⟩ = some .nilFunc := (blk_cell hbox 2).trans rfl; have g_f2 := blk_frozen hbox 2; have g_3 : w1.cell? ⟨g, 3, none⟩ = some .nilFunc := (blk_cell hbox 3).trans rfl; have g_f3 := blk_frozen hbox 3; have g_4 : w1.cell? ⟨g, 4, none⟩ = some .nilFunc := (blk_cell hbox 4).trans rfl; have g_f4 := blk_frozen hbox 4; have HB_g := Lib.hid hbox; have B_1 := Lib.hid hb1; have HG := Lib.hid hg; clear hg hbox hb1))
  have hch := blk_put (cs' := #[fnV 29, fnV 30, fnV 31, fnV 32, fnV 33]) (blk_put (cs' := #[fnV 29, fnV 30, fnV 31, fnV 32, .nilFunc]) (blk_put (cs' := #[fnV 29, fnV 30, fnV 31, .nilFunc, .nilFunc]) (blk_put (cs' := #[fnV 29, fnV 30, .nilFunc, .nilFunc, .nilFunc]) (blk_put (cs' := #[fnV 29, .nilFunc, .nilFunc, .nilFunc, .nilFunc]) (HB_g.out) 0 (fnV 29) rfl) 1 (fnV 30) rfl) 2 (fnV 31) rfl) 3 (fnV 32) rfl) 4 (fnV 33) rfl
  have hg := HG.out
  refine bodyPost_ret (results_cell_row rfl _ _ g 48 takersA (0, 0) _ rfl hch Tryd.underlying48 rfl (by kernel_rfl)) rfl ?_
  exact ⟨rfl, ((((B_1.out.setCell (p := ⟨g, 0, none⟩) (by show _ ≤ g; omega) _).setCell (p := ⟨g, 1, none⟩) (by show _ ≤ g; omega) _).setCell (p := ⟨g, 2, none⟩) (by show _ ≤ g; omega) _).setCell (p := ⟨g, 3, none⟩) (by show _ ≤ g; omega) _).setCell (p := ⟨g, 4, none⟩) (by show _ ≤ g; omega) _⟩

/-- what Seq hands out: the tokens, and at the end the fault, where there is one -/
def itemsZ (s : ByteArray) : List (Tok × Int) := (aheadZ s (s.size + 1) 0 []).1.map (fun t => (t, 0)) ++ (if (aheadZ s (s.size + 1) 0 []).2.1 = 0 then [] else [(⟨0, (aheadZ s (s.size + 1) 0 []).2.2, 0, ⟨#[]⟩⟩, (aheadZ s (s.size + 1) 0 []).2.1)])
/-- the method that a beginning chooses, met -/
theorem take_cases {b : Nat} {s : ByteArray} {i : Nat} {pl : Int} (hi : i < s.size) (hs : s.size ≤ 1073741824) :
    (begT (bt s (i : Int)) = 0 ∧ ∀ w, CutAt w b s i pl → Tabs w → Calls Tryd.prog 29 #[.pointer (some ⟨b, 0, none⟩)] w (CutEnd b s i pl (tokR s i) w)) ∨
    (begT (bt s (i : Int)) = 1 ∧ ∀ w, CutAt w b s i pl → Tabs w → Calls Tryd.prog 30 #[.pointer (some ⟨b, 0, none⟩)] w (CutEnd b s i pl (tokR s i) w)) ∨
    (begT (bt s (i : Int)) = 2 ∧ ∀ w, CutAt w b s i pl → Tabs w → Calls Tryd.prog 31 #[.pointer (some ⟨b, 0, none⟩)] w (CutEnd b s i pl (tokR s i) w)) ∨
    (begT (bt s (i : Int)) = 3 ∧ ∀ w, CutAt w b s i pl → Tabs w → Calls Tryd.prog 32 #[.pointer (some ⟨b, 0, none⟩)] w (CutEnd b s i pl (tokR s i) w)) ∨
    (begT (bt s (i : Int)) = 4 ∧ ∀ w, CutAt w b s i pl → Tabs w → Calls Tryd.prog 33 #[.pointer (some ⟨b, 0, none⟩)] w (CutEnd b s i pl (tokR s i) w)) := by
  by_cases h1 : markT (bt s (i : Int)) ≠ 0
  · refine Or.inr (Or.inl ⟨by unfold begT; rw [if_pos h1], fun w h hT => ?_⟩)
    rw [show tokR s i = ⟨0, 0, markT (bt s (i : Int)), i + 1, ⟨#[]⟩⟩ by unfold tokR; rw [if_pos h1]]
    exact mark_calls i hi hs _ rfl w h h1
  by_cases h2 : letterT (bt s (i : Int)) = true
  · refine Or.inr (Or.inr (Or.inl ⟨by unfold begT; rw [if_neg h1, if_pos h2], fun w h hT => ?_⟩))
    have ht : tokR s i = (if wordK (s.extract i (runEnd wordT s (s.size - i) i)) = 0 then ⟨41, i, 0, i, ⟨#[]⟩⟩ else ⟨0, 0, wordK (s.extract i (runEnd wordT s (s.size - i) i)), runEnd wordT s (s.size - i) i, ⟨#[]⟩⟩) := by
      unfold tokR
      rw [if_neg h1, if_pos h2]
    rw [ht]
    exact word_calls i hi hs _ rfl w h
  by_cases h3 : digitT (bt s (i : Int)) = true ∨ bt s (i : Int) = 45
  · refine Or.inr (Or.inr (Or.inr (Or.inl ⟨by unfold begT; rw [if_neg h1, if_neg h2, if_pos h3], fun w h hT => ?_⟩)))
    have ht : tokR s i = (if formedB (numB (s.extract i (runEnd numT s (s.size - i) i))) = true then ⟨0, 0, 10, runEnd numT s (s.size - i) i, numB (s.extract i (runEnd numT s (s.size - i) i))⟩ else ⟨42, i, 0, i, ⟨#[]⟩⟩) := by
      unfold tokR
      rw [if_neg h1, if_neg h2, if_pos h3]
    rw [ht]
    exact numeral_calls i hi hs _ rfl w h
  by_cases h4 : bt s (i : Int) = 34
  · refine Or.inr (Or.inr (Or.inr (Or.inr ⟨by unfold begT; rw [if_neg h1, if_neg h2, if_neg h3, if_pos h4], fun w h hT => ?_⟩)))
    have ht : tokR s i = (if (unqAt s i).2.2 = 0 then ⟨0, 0, 11, (unqAt s i).2.1.toNat, (unqAt s i).1⟩ else ⟨(unqAt s i).2.2, (unqAt s i).2.1, 0, i, ⟨#[]⟩⟩) := by
      unfold tokR
      rw [if_neg h1, if_neg h2, if_neg h3, if_pos h4]
    rw [ht]
    exact literal_calls i hi hs _ rfl w h hT
  · refine Or.inl ⟨by unfold begT; rw [if_neg h1, if_neg h2, if_neg h3, if_neg h4], fun w h hT => ?_⟩
    rw [show tokR s i = ⟨40, i, 0, i, ⟨#[]⟩⟩ by unfold tokR; rw [if_neg h1, if_neg h2, if_neg h3, if_neg h4]]
    exact none_calls i w h

/-- the method that a beginning chooses, met once for all five -/
theorem take_one {b : Nat} {s : ByteArray} {i : Nat} {pl : Int} (hi : i < s.size) (hs : s.size ≤ 1073741824) :
    ∃ k mf : Nat, k < 5 ∧ begT (bt s (i : Int)) = (k : Int) ∧ takersA[k]? = some (.func (.func mf) #[] #[]) ∧ Enters Tryd.prog mf ∧
      ∀ w, CutAt w b s i pl → Tabs w → Calls Tryd.prog mf #[.pointer (some ⟨b, 0, none⟩)] w (CutEnd b s i pl (tokR s i) w) := by
  rcases take_cases (b := b) (pl := pl) hi hs with ⟨h, c⟩ | ⟨h, c⟩ | ⟨h, c⟩ | ⟨h, c⟩ | ⟨h, c⟩
  · exact ⟨0, 29, by omega, h, rfl, enters_of Tryd.func29 (by kernel_rfl) rfl, c⟩
  · exact ⟨1, 30, by omega, h, rfl, enters_of Tryd.func30 (by kernel_rfl) rfl, c⟩
  · exact ⟨2, 31, by omega, h, rfl, enters_of Tryd.func31 (by kernel_rfl) rfl, c⟩
  · exact ⟨3, 32, by omega, h, rfl, enters_of Tryd.func32 (by kernel_rfl) rfl, c⟩
  · exact ⟨4, 33, by omega, h, rfl, enters_of Tryd.func33 (by kernel_rfl) rfl, c⟩

/-- what has been found stays found -/
theorem ahead_prefix (s : ByteArray) : ∀ (f i : Nat) (toks : List Tok), toks <+: (aheadZ s f i toks).1
  | 0, _, toks => List.prefix_refl _
  | f + 1, i, toks => by
    rw [aheadZ_step]
    split
    · split
      · exact ahead_prefix s f (i + 1) toks
      · split
        · exact (List.prefix_append _ _).trans (ahead_prefix s f _ _)
        · exact List.prefix_refl _
    · exact List.prefix_refl _
theorem ahead_len (s : ByteArray) : ∀ (f i : Nat) (toks : List Tok), i ≤ s.size → (aheadZ s f i toks).1.length + i ≤ toks.length + s.size
  | 0, i, toks, hi => by
    show toks.length + i ≤ _
    omega
  | f + 1, i, toks, hi => by
    rw [aheadZ_step]
    by_cases hp : i < s.size
    · rw [if_pos hp]
      by_cases hb : blankT (bt s (i : Int)) = true
      · rw [if_pos hb]
        have := ahead_len s f (i + 1) toks (by omega)
        omega
      · rw [if_neg hb]
        by_cases h0 : (tokR s i).e = 0
        · rw [if_pos h0]
          have hrg := tokR_range s i hp h0
          have := ahead_len s f (tokR s i).pos (toks ++ [⟨(tokR s i).kind, i, (tokR s i).pos, (tokR s i).text⟩]) (by omega)
          rw [List.length_append, List.length_singleton] at this
          omega
        · rw [if_neg h0]
          simp only
          omega
    · rw [if_neg hp]
      simp only
      omega
theorem items_len (s : ByteArray) : (itemsZ s).length ≤ s.size + 1 := by
  have h := ahead_len s (s.size + 1) 0 [] (Nat.zero_le _)
  unfold itemsZ
  rw [List.length_append, List.length_map]
  have : (if (aheadZ s (s.size + 1) 0 []).2.1 = 0 then ([] : List (Tok × Int)) else [(⟨0, (aheadZ s (s.size + 1) 0 []).2.2, 0, ⟨#[]⟩⟩, (aheadZ s (s.size + 1) 0 []).2.1)]).length ≤ 1 := by
    split
    · exact Nat.zero_le _
    · exact Nat.le_refl _
  simp only [List.length_nil] at h
  omega
theorem items_done {s : ByteArray} {f i : Nat} {toks : List Tok} (h : aheadZ s f i toks = aheadZ s (s.size + 1) 0 []) (hi : ¬ i < s.size) : toks.map (fun t => (t, (0 : Int))) = itemsZ s := by
  unfold itemsZ
  rw [← h, aheadZ_end s f i toks hi, if_pos rfl, List.append_nil]
theorem items_fault {s : ByteArray} {toks : List Tok} {e place : Int} (h : (toks, e, place) = aheadZ s (s.size + 1) 0 []) (he : e ≠ 0) : toks.map (fun t => (t, (0 : Int))) ++ [(⟨0, place, 0, ⟨#[]⟩⟩, e)] = itemsZ s := by
  unfold itemsZ
  rw [← h, if_neg he]
theorem items_some {s : ByteArray} {f i : Nat} {toks : List Tok} (h : aheadZ s f i toks = aheadZ s (s.size + 1) 0 []) : toks.map (fun t => (t, (0 : Int))) <+: itemsZ s := by
  unfold itemsZ
  rw [← h]
  exact ((ahead_prefix s f i toks).map _).trans (List.prefix_append _ _)
end Go.Proofs.YtkfcoikfhpabmaaDoor.U

namespace Go.Proofs.YtkfcoikfhpabmaaDoor.U
open Go.RowKit Go.Proofs.YtkfcoikfhpabmaaDoorW.PrintWords
set_option linter.unusedSimpArgs false
set_option linter.unusedVariables false

/-- the cells that the iterator owns -/
def ownK (t : TypeId) : Prop := t = 46 ∨ t = 48 ∨ t = 9
def encT (x : Tok × Int) : Array Value := #[.agg #[.int .i64 x.1.f0, .int .i64 x.1.f1, .int .i64 x.1.f2, .string x.1.f3], .int .i64 x.2]
def TakeAt (w : World) (t : Nat) : Prop := w.heap[t]? = some (.cells takersA 48 (0, 0))
def TextAt (w : World) (b : Nat) (s : ByteArray) : Prop := w.heap[b]? = some (.cells #[.string s] 9 (0, 0))

/-- what a method leaves, said once for both endings -/
theorem CutEnd.any {b : Nat} {s : ByteArray} {i : Nat} {pl : Int} {r : TokR} {w : World} {e : Ending} {w' : World} (h : CutEnd b s i pl r w e w') :
    ∃ (k a d : Int) (tx : ByteArray) (re pl' : Int), e = .returned (.tuple #[.agg #[.int .i64 k, .int .i64 a, .int .i64 d, .string tx], .int .i64 re]) ∧ CutAt w' b s i pl' ∧
      Hid ((r.e = 0 ∧ re = 0 ∧ k = r.kind ∧ a = i ∧ d = r.pos ∧ tx = r.text) ∨ (r.e ≠ 0 ∧ re = r.e ∧ pl' = r.place)) ∧ Moved b w w' := by
  obtain ⟨⟨h0, rfl, hc⟩ | ⟨h0, rfl, hc⟩, hm⟩ := h
  · exact ⟨_, _, _, _, _, _, rfl, hc, Or.inl ⟨h0, rfl, rfl, rfl, rfl, rfl⟩, hm⟩
  · exact ⟨_, _, _, _, _, _, rfl, hc, Or.inr ⟨h0, rfl, rfl⟩, hm⟩
theorem Moved.turn {b : Nat} {w w' : World} {B : Nat} {cs : Array Value} {fr : Nat × Nat} (hm : Moved b w w') (h : w.heap[b]? = some (.cells cs 46 fr)) (hB : B ≤ b) : Rg.Turn B ownK w w' :=
  ⟨hm.below.os, hm.below.tape, hm.below.output, hm.below.size, fun k o hk hx => by
    have hlt := (Array.getElem?_eq_some_iff.1 hk).1
    refine (hm.same k hlt ?_).trans hk
    rintro rfl
    rw [h] at hk
    rcases hx with hx | hx
    · omega
    · exact hx cs _ fr (Or.inl rfl) (Option.some.inj hk).symm⟩

theorem Turn.bel {B n : Nat} {K : TypeId → Prop} {A C : World} (h : Rg.Turn B K A C) (hB : n ≤ B) (hn : n ≤ A.heap.size) : Below n A C :=
  ⟨h.os, h.tape, h.output, h.size, fun k hk => by
    obtain ⟨o, ho⟩ : ∃ o, A.heap[k]? = some o := ⟨_, Array.getElem?_eq_getElem (by omega)⟩
    rw [ho]
    exact h.same k o ho (Or.inl (by omega))⟩
theorem turn_new {B : Nat} {K : TypeId → Prop} {w W : World} (h : Rg.Turn B K w W) {g : Nat} (hg : w.heap.size ≤ g) (j : Nat) (v : Value) : Rg.Turn B K w (W.setCell ⟨g, j, none⟩ v) :=
  ⟨h.os, h.tape, h.output, Nat.le_trans h.size ((Below.refl 0 W).setCell (p := ⟨g, j, none⟩) (Nat.zero_le _) v).size, fun k o hk hx => by
    have hlt := (Array.getElem?_eq_some_iff.1 hk).1
    exact (Below.heap_setCell W ⟨g, j, none⟩ v k (by show k ≠ g; omega)).trans (h.same k o hk hx)⟩

set_option maxHeartbeats 8000000 in
set_option maxRecDepth 100000 in
theorem seq_in (s : ByteArray) (hs : s.size ≤ 1073741824) (bs n₀ : Nat) (w₀ : World) (hbs : TextAt w₀ bs s) (hT : ∀ w, Below n₀ w₀ w → Tabs w) :
    Rg.SeqC Tryd.prog ownK 18 #[.pointer (some ⟨bs, 0, none⟩)] encT (fun xs => xs = itemsZ s) (fun pre => pre <+: itemsZ s) n₀ w₀ := by
  intro n l J Jx W hW hn hJ hJx hY h0
  refine callsIn_wide.2 ?_
  have TX : TextAt W bs s := hW.2.1 bs _ _ _ (Or.inr (Or.inr rfl)) hbs
  have x0 : W.cell? ⟨bs, 0, none⟩ = some (.string s) := (blk_cell TX 0).trans rfl
  have HX := Lib.hid TX
  have HW := Lib.hid hW
  have HT := Lib.hid hT
  have HJ := Lib.hid hJ
  have HJX := Lib.hid hJx
  have HY := Lib.hid hY
  have H0 := Lib.hid h0
  clear TX hW hT hJ hJx hY h0 hbs
  obtain ⟨POST, hPOST⟩ : ∃ P0 : Ending → World → Prop, (fun e W' => (∃ v, e = .returned v) ∧ ((∃ xs, xs = itemsZ s ∧ J xs W') ∨ (∃ pre, pre <+: itemsZ s ∧ Jx pre W'))) = P0 := ⟨_, rfl⟩
  rw [hPOST]
  have HP := Lib.hid hPOST
  clear hPOST
  simp only [List.nil_append, List.cons_append, List.append_toArray]
  go_enter Tryd.func18, Tryd.ntmps18
  refine wp_scope_straight ?_
  go_wp2_with (first
    | ((with_reducible refine gate_dst (N := 9) rfl ?_); refine box_event rfl (N := 9) rfl (cs := #[.string s, .int .i64 0, .int .i64 0]) (t := 46) ?hr ?_; (case hr => first | (go_simp; done) | (go_simp; rfl)); intro c hc w1 hbox hb1; go_must (have HB_c := Lib.hid hbox; have B_1 := Lib.hid hb1; have HC := Lib.hid hc; clear hc hbox hb1))
    | (go_at_call 19; (with_reducible refine (takers_calls _).mono ?_); rintro e0 w2 ⟨rfl, hb2⟩; have B_2 := Lib.hid hb2; clear hb2)
    | ((with_reducible refine gate_dst (N := 4) rfl ?_); refine box_event rfl (N := 4) rfl (cs := #[.nilFunc, .nilFunc, .nilFunc, .nilFunc, .nilFunc]) (t := 48) ?hr ?_; (case hr => first | (go_simp; done) | (go_simp; rfl)); intro t ht w3 hbox hb3; go_must (have t_0 : w3.cell? ⟨t, 0, none⟩ = some .nilFunc := (blk_cell hbox 0).trans rfl; have t_f0 := blk_frozen hbox 0; have t_1 : w3.cell? ⟨t, 1, none⟩ = some .nilFunc := (blk_cell hbox 1).trans rfl; have t_f1 := blk_frozen hbox 1; have t_2 : w3.cell? ⟨t, 2, none⟩ = some .nilFunc := (blk_cell hbox 2).trans rfl; have t_f2 := blk_frozen hbox 2; have t_3 : w3.cell? ⟨t, 3, none⟩ = some .nilFunc := (blk_cell hbox 3).trans rfl; have t_f3 := blk_frozen hbox 3; have t_4 : w3.cell? ⟨t, 4, none⟩ = some .nilFunc := (blk_cell hbox 4).trans rfl; have t_f4 := blk_frozen hbox 4; have HB_t := Lib.hid hbox; have B_3 := Lib.hid hb3; have HTT := Lib.hid ht; clear ht hbox hb3)))
  have b1 := B_1.out
  have hc := HC.out
  have ht := HTT.out
  have hz1 := b1.size
  have hz2 := B_2.out.size
  have lc : c < w1.heap.size := (Array.getElem?_eq_some_iff.1 HB_c.out).1
  have hne : ¬ c = t := by omega
  have b2 : Below W.heap.size W w2 := b1.trans (B_2.out.mono hz1)
  have b3 : Below W.heap.size W w3 := b2.trans (B_3.out.mono (by omega))
  have cut3 : CutAt w3 c s 0 0 := blk_below (blk_below HB_c.out B_2.out) B_3.out
  have hcut := CutAt.far (CutAt.far (CutAt.far (CutAt.far (CutAt.far (cut3) hne 0 (.func (.func 29) #[] #[])) hne 1 (.func (.func 30) #[] #[])) hne 2 (.func (.func 31) #[] #[])) hne 3 (.func (.func 32) #[] #[])) hne 4 (.func (.func 33) #[] #[])
  have htake := blk_put (cs' := #[.func (.func 29) #[] #[], .func (.func 30) #[] #[], .func (.func 31) #[] #[], .func (.func 32) #[] #[], .func (.func 33) #[] #[]]) (blk_put (cs' := #[.func (.func 29) #[] #[], .func (.func 30) #[] #[], .func (.func 31) #[] #[], .func (.func 32) #[] #[], .nilFunc]) (blk_put (cs' := #[.func (.func 29) #[] #[], .func (.func 30) #[] #[], .func (.func 31) #[] #[], .nilFunc, .nilFunc]) (blk_put (cs' := #[.func (.func 29) #[] #[], .func (.func 30) #[] #[], .nilFunc, .nilFunc, .nilFunc]) (blk_put (cs' := #[.func (.func 29) #[] #[], .nilFunc, .nilFunc, .nilFunc, .nilFunc]) (HB_t.out) 0 (.func (.func 29) #[] #[]) rfl) 1 (.func (.func 30) #[] #[]) rfl) 2 (.func (.func 31) #[] #[]) rfl) 3 (.func (.func 32) #[] #[]) rfl) 4 (.func (.func 33) #[] #[]) rfl
  have hbel := (((((b3).setCell (p := ⟨t, 0, none⟩) (by show _ ≤ t; omega) (.func (.func 29) #[] #[])).setCell (p := ⟨t, 1, none⟩) (by show _ ≤ t; omega) (.func (.func 30) #[] #[])).setCell (p := ⟨t, 2, none⟩) (by show _ ≤ t; omega) (.func (.func 31) #[] #[])).setCell (p := ⟨t, 3, none⟩) (by show _ ≤ t; omega) (.func (.func 32) #[] #[])).setCell (p := ⟨t, 4, none⟩) (by show _ ≤ t; omega) (.func (.func 33) #[] #[])
  obtain ⟨WL, hWL⟩ : ∃ x, (((((w3).setCell ⟨t, 0, none⟩ (.func (.func 29) #[] #[])).setCell ⟨t, 1, none⟩ (.func (.func 30) #[] #[])).setCell ⟨t, 2, none⟩ (.func (.func 31) #[] #[])).setCell ⟨t, 3, none⟩ (.func (.func 32) #[] #[])).setCell ⟨t, 4, none⟩ (.func (.func 33) #[] #[]) = x := ⟨_, rfl⟩
  have hWL2 : (((((w3).setCell ⟨t, 0, none⟩ (.func (.func 29) #[] #[])).setCell ⟨t, 1, none⟩ (.func (.func 30) #[] #[])).setCell ⟨t, 2, none⟩ (.func (.func 31) #[] #[])).setCell ⟨t, 3, none⟩ (.func (.func 32) #[] #[])).setCell ⟨t, 4, none⟩ (.func (.func 33) #[] #[]) = WL := hWL
  rw [hWL] at hcut htake hbel ⊢
  clear hWL hWL2 t_0 t_1 t_2 t_3 t_4 t_f0 t_f1 t_f2 t_f3 t_f4 x0
  have lct : c < WL.heap.size ∧ t < WL.heap.size ∧ W.heap.size ≤ c ∧ W.heap.size ≤ t := ⟨hcut.lt, (Array.getElem?_eq_some_iff.1 htake).1, by omega, by omega⟩
  have hBW : Below n₀ w₀ WL := HW.out.1.trans (hbel.mono hn)
  have HCUT := Lib.hid hcut
  have HTAKE : Hid (TakeAt WL t) := Lib.hid htake
  have HTEXT : Hid (TextAt WL bs s) := blk_below HX.out hbel
  have HJ1 : Hid (J [] WL) := HJ.out [] _ _ H0.out (Rg.Turn.of_below hbel)
  have HBW := Lib.hid hBW
  have lbs : bs < W.heap.size := (Array.getElem?_eq_some_iff.1 HX.out).1
  clear hcut htake hbel b1 hc ht hz1 hz2 lc b2 b3 cut3 B_1 B_2 B_3 HB_c HB_t HC HTT H0 hBW
  obtain ⟨lc, lt, gc, gt⟩ := lct
  refine wp_label ?_
  go_wp2
  go_loopg [] s.size (fun g wx => ∃ (i f : Nat) (toks : List Tok) (pl : Int), Hid (aheadZ s f i toks = aheadZ s (s.size + 1) 0 []) ∧ s.size < i + f ∧ i ≤ s.size ∧ g = s.size - i ∧ toks.length ≤ i ∧ Hid (CutAt wx c s i pl) ∧ Hid (TakeAt wx t) ∧ Hid (TextAt wx bs s) ∧ Hid (J (toks.map fun y => (y, 0)) wx) ∧ Hid (Below n₀ w₀ wx))
  case atStart => exact ⟨0, s.size + 1, [], 0, rfl, by omega, by omega, by omega, by simp, HCUT, HTAKE, HTEXT, HJ1, HBW⟩
  case round =>
    clear HCUT HTAKE HTEXT HJ1 HBW lc lt
    obtain ⟨i, f, toks, pl, HU, hf, hi, hg, hl, HC, HK, HX2, HJ1, HB⟩ := hrel
    have c0 := HC.out.c0
    have c1 := HC.out.c1
    have cf1 := HC.out.fr 1
    have x0 : wr.cell? ⟨bs, 0, none⟩ = some (.string s) := (blk_cell HX2.out 0).trans rfl
    have hi0 : (0 : Int) ≤ (i : Int) := by omega
    have lcr := HC.out.lt
    by_cases hp : i < s.size
    · obtain ⟨f, rfl⟩ : ∃ k, f = k + 1 := ⟨f - 1, by omega⟩
      have hp1 : (i : Int) < (s.size : Int) := by omega
      have hU := HU.out
      rw [aheadZ_step, if_pos hp] at hU
      have hrg := bt_range s (i : Int)
      have hx : ((s[i]'hp).toNat : Int) = bt s (i : Int) := bt_at s (i : Int) hp
      by_cases hb : blankT (bt s (i : Int)) = true
      · rw [if_pos hb] at hU
        have HU2 := Lib.hid hU
        clear HU hU
        have hw1 : IntKind.i64.wrap ((i : Int) + 1) = (i : Int) + 1 := IntWalk.i64_in _ (by omega)
        have hb4 : bt s (i : Int) = 32 ∨ bt s (i : Int) = 9 ∨ bt s (i : Int) = 10 ∨ bt s (i : Int) = 13 := by
          unfold blankT at hb
          simp only [Bool.or_eq_true, beq_iff_eq] at hb
          omega
        clear hb
        rcases hb4 with e | e | e | e
        all_goals
          rw [e] at hx
          go_wp2
          go_quiet (fail)
          go_wp2
          go_quiet (fail)
          go_wp2
          go_roundg (s.size - (i + 1))
          case measure => omega
          case rel =>
            refine ⟨i + 1, f, toks, pl, HU2, by omega, by omega, rfl, by omega, ?_, ?_, ?_, ?_, ?_⟩
            · rw [show ((i + 1 : Nat) : Int) = (i : Int) + 1 by omega]
              exact CutAt.at (CutAt.drewN HC.out _) _
            · exact blk_far (w := wr.drewN _) (p := ⟨c, 1, none⟩) HK.out (fun e => hne e.symm) _
            · exact blk_far (w := wr.drewN _) (p := ⟨c, 1, none⟩) HX2.out (show bs ≠ c by omega) _
            · exact HJ.out _ _ _ HJ1.out ((Rg.Turn.of_below (pw_below_drewN (Below.refl _ wr) _)).trans (Rg.Turn.setCell (Or.inl rfl) (show CutAt (wr.drewN _) c s i pl from HC.out) gc 1 _))
            · exact (pw_below_drewN HB.out _).setCell (p := ⟨c, 1, none⟩) (show n₀ ≤ c by omega) _
      · rw [if_neg hb] at hU
        have HU2 := Lib.hid hU
        clear HU hU
        have hrange := tokR_range s i hp
        have hcs := take_one (b := c) (pl := pl) hp hs
        have hB0 := fun w => beginning_exact (bt s (i : Int)) hrg.1 hrg.2 w
        have hnb : bt s (i : Int) ≠ 32 ∧ bt s (i : Int) ≠ 9 ∧ bt s (i : Int) ≠ 10 ∧ bt s (i : Int) ≠ 13 := by
          unfold blankT at hb
          simp only [Bool.or_eq_true, beq_iff_eq] at hb
          omega
        obtain ⟨q, hq⟩ : ∃ q, bt s (i : Int) = q := ⟨_, rfl⟩
        obtain ⟨r, hr⟩ : ∃ r, tokR s i = r := ⟨_, rfl⟩
        rw [hq] at hx hcs hB0 hnb
        rw [hr] at hrange hcs
        have HR := Lib.hid hr
        rw [hr] at HU2
        clear hb hq hr hrg
        have n32 : (q == 32) = false := beq_eq_false_iff_ne.2 hnb.1
        have n9 : (q == 9) = false := beq_eq_false_iff_ne.2 hnb.2.1
        have n10 : (q == 10) = false := beq_eq_false_iff_ne.2 hnb.2.2.1
        have n13 : (q == 13) = false := beq_eq_false_iff_ne.2 hnb.2.2.2
        obtain ⟨k, mf, hk5, hkq, hmf, hent0, hcall⟩ := hcs
        have hent : ∀ (args : Array Value) (w : World), (callFunc mf args).run Tryd.prog w = .ok (.enter mf args) w := hent0
        simp only [hkq] at hB0
        clear hkq hent0
        have HCALL := Lib.hid hcall
        clear hcall
        have hk5' : (k : Int) < 5 := by omega
        have kq : wr.cell? ⟨t, k, none⟩ = some (.func (.func mf) #[] #[]) := (blk_cell HK.out k).trans hmf
        have lcw : c < wr.heap.size := HC.out.lt
        have ltw : t < wr.heap.size := (Array.getElem?_eq_some_iff.1 HK.out).1
        have lbw : bs < wr.heap.size := (Array.getElem?_eq_some_iff.1 HX2.out).1
        have ka : ∀ (m : Nat) (o : Obj), ((wr.drewN m).alloc o).cell? ⟨t, k, none⟩ = some (.func (.func mf) #[] #[]) := fun m o => (blk_cell (blk_alloc (w := wr.drewN m) HK.out o) k).trans hmf
        clear hmf
        have kc : ∀ (m : Nat) (o : Obj), ((wr.drewN m).alloc o).cell? ⟨c, 1, none⟩ = some (.int .i64 i) := fun m o => (blk_cell (blk_alloc (w := wr.drewN m) HC.out o) 1).trans rfl
        have kx : ∀ (m : Nat) (o : Obj), ((wr.drewN m).alloc o).cell? ⟨bs, 0, none⟩ = some (.string s) := fun m o => (blk_cell (blk_alloc (w := wr.drewN m) HX2.out o) 0).trans rfl
        go_wp2
        go_quiet (fail)
        go_wp2
        go_quiet (fail)
        go_upto_region 9 with (fail)
        go_cut [5, 6] from 36 to 49 (fun s5 s6 wx => ∃ (g : Nat) (k1 a1 d1 : Int) (tx : ByteArray) (re pl1 : Int), s5 = .pointer (some ⟨g, 0, none⟩) ∧ s6 = .int .i64 re ∧ Hid (wx.heap[g]? = some (.cells #[.int .i64 k1, .int .i64 a1, .int .i64 d1, .string tx] 31 (0, 0))) ∧ Hid (CutAt wx c s i pl1) ∧ Hid (TakeAt wx t) ∧ Hid (Rg.Turn W.heap.size ownK wr wx) ∧ Hid ((r.e = 0 ∧ re = 0 ∧ k1 = r.kind ∧ a1 = i ∧ d1 = r.pos ∧ tx = r.text) ∨ (r.e ≠ 0 ∧ re = r.e ∧ pl1 = r.place)) ∧ wr.heap.size ≤ g)
        case first =>
          go_region_with (first
            | (go_at_call 20; (with_reducible refine (hB0 _).mono ?_); rintro e0 wb ⟨rfl, rfl⟩)
            | (go_at_fn mf; refine (HCALL.out _ (by first | exact HC.out | exact CutAt.alloc (w := (wr.drewN _)) HC.out _) (by first | exact Tabs.of_heap (HT.out _ HB.out) rfl | exact HT.out _ ((pw_below_drewN HB.out _).alloc (show n₀ ≤ wr.heap.size by omega) _))).mono ?_; intro e0 w2 hend; obtain ⟨k1, a1, d1, tx, re, pl1, rfl, hcu, hsay, hm⟩ := hend.any; clear hend; have Hcu := Lib.hid hcu; have HM := Lib.hid hm; have hsz := hm.below.size; (try simp at hsz); first
              | (have hgb : w2.heap[wr.heap.size]? = some (.cells #[.int .i64 0, .int .i64 0, .int .i64 0, .string (⟨#[]⟩ : ByteArray)] 31 (0, 0)) := (hm.same wr.heap.size (by simp) (by omega)).trans (heap_alloc_new _ _); have g_0 : w2.cell? ⟨wr.heap.size, 0, none⟩ = some (.int .i64 0) := (blk_cell hgb 0).trans rfl; have g_1 : w2.cell? ⟨wr.heap.size, 1, none⟩ = some (.int .i64 0) := (blk_cell hgb 1).trans rfl; have g_2 : w2.cell? ⟨wr.heap.size, 2, none⟩ = some (.int .i64 0) := (blk_cell hgb 2).trans rfl; have g_3 : w2.cell? ⟨wr.heap.size, 3, none⟩ = some (.string ⟨#[]⟩) := (blk_cell hgb 3).trans rfl; have g_f0 := blk_frozen hgb 0; have g_f1 := blk_frozen hgb 1; have g_f2 := blk_frozen hgb 2; have g_f3 := blk_frozen hgb 3; have HGB := Lib.hid hgb; clear hgb hcu hm)
              | (clear hcu hm)))
          all_goals
            (go_wp2_with fail)
            go_meet
            first
              | (refine ⟨w2.heap.size, k1, a1, d1, tx, re, pl1, by with_reducible rfl, by with_reducible rfl, ?_, ?_, ?_, ?_, hsay, by omega⟩
                 · exact heap_alloc_new w2 _
                 · exact CutAt.alloc Hcu.out _
                 · exact blk_alloc ((HM.out.same t (show t < wr.heap.size from ltw) (fun e => hne e.symm)).trans HK.out) _
                 · exact ((Rg.Turn.of_below (pw_below_drewN (Below.refl _ wr) _)).trans (HM.out.turn (show CutAt _ c s i pl from HC.out) gc)).trans (Rg.Turn.of_below ((Below.refl _ w2).alloc (Nat.le_refl _) _)))
              | (refine ⟨wr.heap.size, k1, a1, d1, tx, re, pl1, by with_reducible rfl, by with_reducible rfl, ?_, ?_, ?_, ?_, hsay, Nat.le_refl _⟩
                 · exact blk_put (cs' := #[.int .i64 k1, .int .i64 a1, .int .i64 d1, .string tx]) (blk_put (cs' := #[.int .i64 k1, .int .i64 a1, .int .i64 d1, .string (⟨#[]⟩ : ByteArray)]) (blk_put (cs' := #[.int .i64 k1, .int .i64 a1, .int .i64 0, .string (⟨#[]⟩ : ByteArray)]) (blk_put (cs' := #[.int .i64 k1, .int .i64 0, .int .i64 0, .string (⟨#[]⟩ : ByteArray)]) (HGB.out) 0 (.int .i64 k1) rfl) 1 (.int .i64 a1) rfl) 2 (.int .i64 d1) rfl) 3 (.string tx) rfl
                 · exact CutAt.far (CutAt.far (CutAt.far (CutAt.far (Hcu.out) (show ¬ c = wr.heap.size by omega) 0 _) (show ¬ c = wr.heap.size by omega) 1 _) (show ¬ c = wr.heap.size by omega) 2 _) (show ¬ c = wr.heap.size by omega) 3 _
                 · exact blk_far (p := ⟨wr.heap.size, 3, none⟩) (blk_far (p := ⟨wr.heap.size, 2, none⟩) (blk_far (p := ⟨wr.heap.size, 1, none⟩) (blk_far (p := ⟨wr.heap.size, 0, none⟩) ((HM.out.same t (by simp; omega) (fun e => hne e.symm)).trans (blk_alloc (w := wr.drewN _) HK.out _)) (show t ≠ wr.heap.size by omega) _) (show t ≠ wr.heap.size by omega) _) (show t ≠ wr.heap.size by omega) _) (show t ≠ wr.heap.size by omega) _
                 · exact turn_new (turn_new (turn_new (turn_new ((Rg.Turn.of_below ((pw_below_drewN (Below.refl _ wr) _).alloc (Nat.le_refl _) _)).trans (HM.out.turn (blk_alloc (w := wr.drewN _) (show CutAt _ c s i pl from HC.out) _) gc)) (Nat.le_refl _) 0 _) (Nat.le_refl _) 1 _) (Nat.le_refl _) 2 _) (Nat.le_refl _) 3 _)
        case rest =>
          obtain ⟨g, k1, a1, d1, tx, re, pl1, rfl, rfl, HG, HC1, HK1, HTN, HSAY, hgw⟩ := hcut
          clear kq ka kc kx hB0 hent HCALL hk5' hk5 c0 c1 cf1 x0 n32 n9 n10 n13 hnb hx
          have hU := HU2.out
          clear HU2
          rcases HSAY.out with ⟨h0, rfl, rfl, rfl, rfl, rfl⟩ | ⟨h0, rfl, rfl⟩
          · rw [if_pos h0] at hU
            have HU2 := Lib.hid hU
            have hrg := hrange h0
            clear hU h0 HSAY
            have hYY := HY.out (toks.map fun y => (y, 0)) (⟨r.kind, i, r.pos, r.text⟩, 0) wr wc HJ1.out HTN.out (by have hq := items_some HU2.out; rw [List.map_append] at hq; exact hq)
            obtain ⟨fn, tm, asg, bod, hy, hR⟩ := hYY
            simp only [encT] at hy
            have HRR := Lib.hid hR
            have g0 : wc.cell? ⟨g, 0, none⟩ = some (.int .i64 r.kind) := (blk_cell HG.out 0).trans rfl
            have g1 : wc.cell? ⟨g, 1, none⟩ = some (.int .i64 i) := (blk_cell HG.out 1).trans rfl
            have g2 : wc.cell? ⟨g, 2, none⟩ = some (.int .i64 r.pos) := (blk_cell HG.out 2).trans rfl
            have g3 : wc.cell? ⟨g, 3, none⟩ = some (.string r.text) := (blk_cell HG.out 3).trans rfl
            clear hR
            go_upto_region 12 with (fail)
            refine (wpIn_wide (n := n)).1 ?_
            gi_wp2
            refine ⟨fun h => by simp [Fence.wide] at h, ?_⟩
            refine HRR.out.mono ?_
            clear HRR hy g0 g1 g2 g3
            rintro e W2 (⟨rfl, hJ2, hk2⟩ | ⟨rfl, hJx2⟩)
            · have hG2 : W2.heap[g]? = some (.cells #[.int .i64 r.kind, .int .i64 i, .int .i64 r.pos, .string r.text] 31 (0, 0)) := (hk2.2.2 g hgw (blk_lt HG.out)).trans HG.out
              have hC2 : CutAt W2 c s i pl1 := hk2.2.1 c _ _ _ (Or.inl rfl) HC1.out
              have hK2 : TakeAt W2 t := hk2.2.1 t _ _ _ (Or.inr (Or.inl rfl)) HK1.out
              have hX2 : TextAt W2 bs s := hk2.2.1 bs _ _ _ (Or.inr (Or.inr rfl)) (HTN.out.same bs _ HX2.out (Or.inl lbs))
              have hB2 : Below n₀ w₀ W2 := (HB.out.trans (Turn.bel HTN.out hn (by omega))).trans hk2.1
              have g2 : W2.cell? ⟨g, 2, none⟩ = some (.int .i64 r.pos) := (blk_cell hG2 2).trans rfl
              have cz1 := hC2.c1
              have cf1 := hC2.fr 1
              have HCC := Lib.hid hC2
              have HKK := Lib.hid hK2
              have HXX := Lib.hid hX2
              have HBB := Lib.hid hB2
              have HJJ := Lib.hid hJ2
              clear hG2 hC2 hK2 hX2 hB2 hk2 hJ2
              gi_wp2
              go_wp2
              go_roundg (s.size - r.pos)
              case measure => omega
              case rel =>
                refine ⟨r.pos, f, toks ++ [⟨r.kind, i, r.pos, r.text⟩], pl1, HU2, by omega, by omega, rfl, by simp; omega, ?_, ?_, ?_, ?_, ?_⟩
                · exact CutAt.at HCC.out _
                · exact blk_far (p := ⟨c, 1, none⟩) HKK.out (fun e => hne e.symm) _
                · exact blk_far (p := ⟨c, 1, none⟩) HXX.out (show bs ≠ c by omega) _
                · rw [List.map_append]
                  exact HJ.out _ _ _ HJJ.out (Rg.Turn.setCell (Or.inl rfl) HCC.out gc 1 _)
                · exact HBB.out.setCell (p := ⟨c, 1, none⟩) (show n₀ ≤ c by omega) _
            · have HJJ := Lib.hid hJx2
              clear hJx2
              gi_wp2
              go_wp2
              (try rw [Exit.noGoto_ret])
              refine bodyPost_ret (results_none rfl _ _ _) rfl ?_
              rw [← HP.out]
              have hpre := items_some HU2.out
              rw [List.map_append] at hpre
              exact ⟨⟨_, rfl⟩, Or.inr ⟨_, hpre, HJJ.out⟩⟩
          · rw [if_neg h0] at hU
            have HU2 := Lib.hid hU
            have hne0 : (r.e == 0) = false := beq_eq_false_iff_ne.2 h0
            clear hU HSAY
            have hYY := HY.out (toks.map fun y => (y, 0)) (⟨0, r.place, 0, ⟨#[]⟩⟩, r.e) wr wc HJ1.out HTN.out (by show _ <+: _; rw [items_fault HU2.out h0]; exact List.prefix_refl _)
            obtain ⟨fn, tm, asg, bod, hy, hR⟩ := hYY
            simp only [encT] at hy
            have HRR := Lib.hid hR
            have c2 := HC1.out.c2
            clear hR
            go_upto_region 11 with (fail)
            refine (wpIn_wide (n := n)).1 ?_
            gi_wp2
            refine ⟨fun h => by simp [Fence.wide] at h, ?_⟩
            refine HRR.out.mono ?_
            clear HRR hy
            rintro e W2 (⟨rfl, hJ2, hk2⟩ | ⟨rfl, hJx2⟩)
            all_goals
              gi_wp2
              go_wp2
              (try rw [Exit.noGoto_ret])
              refine bodyPost_ret (results_none rfl _ _ _) rfl ?_
              rw [← HP.out]
            · exact ⟨⟨_, rfl⟩, Or.inl ⟨_, items_fault HU2.out h0, hJ2⟩⟩
            · exact ⟨⟨_, rfl⟩, Or.inr ⟨_, by rw [items_fault HU2.out h0]; exact List.prefix_refl _, hJx2⟩⟩
    · have hp1 : ¬ (i : Int) < (s.size : Int) := by omega
      go_wp2
      go_quiet (fail)
      go_wp2
      (try rw [Exit.noGoto_ret])
      go_end0
      rw [← HP.out]
      exact ⟨⟨_, rfl⟩, Or.inl ⟨_, items_done HU.out hp, HJ.out _ _ _ HJ1.out (Rg.Turn.of_below (pw_below_drewN (Below.refl _ wr) _))⟩⟩
end Go.Proofs.YtkfcoikfhpabmaaDoor.U

namespace Go.Proofs.YtkfcoikfhpabmaaDoor.U
open Go.RowKit Go.Proofs.YtkfcoikfhpabmaaDoorW.PrintWords
set_option linter.unusedSimpArgs false
set_option linter.unusedVariables false
attribute [local go_sem] Oper.semAt_some

def tokCells (t : Tok) : List Value := [.int .i64 t.f0, .int .i64 t.f1, .int .i64 t.f2, .string t.f3]
def toksCells (l : List Tok) : List Value := l.flatMap tokCells
theorem toksCells_snoc (l : List Tok) (t : Tok) : toksCells (l ++ [t]) = toksCells l ++ tokCells t := by simp [toksCells]
theorem reps_toks (w : World) (base : Nat) (ok : Nat → Prop) : ∀ (l acc : List Tok) (cs : List Value), Reps (k31.M w base ok) 4 acc cs → Reps (k31.M w base ok) 4 (acc ++ l) (cs ++ toksCells l)
  | [], acc, cs, h => by simpa [toksCells] using h
  | t :: l, acc, cs, h => by
    have h1 := Reps.snoc h (k31_mkM w base ok t) rfl
    have h2 := reps_toks w base ok l (acc ++ [t]) _ h1
    have e1 : acc ++ [t] ++ l = acc ++ t :: l := by simp
    have e2 : toksCells (t :: l) = tokCells t ++ toksCells l := rfl
    rw [e1, List.append_assoc] at h2
    rw [e2]
    exact h2
theorem toks_R {w : World} {base : Nat} {v : Value} {l : List Tok} (h : w.ownsRow base 31 4 v l.length (toksCells l)) : Kd.R k31 31 w base (fun _ => True) v l :=
  ⟨fun _ _ => trivial, toksCells l, h, by have := reps_toks w base (fun k => True ∧ some k ≠ v.ownBlock) l [] [] (Reps.none _ _); rw [List.nil_append, List.nil_append] at this; exact this⟩

/-- three results that lie in cells -/
theorem results_ccc {fn : Func} {p q r : Tmp} {tp tq tr : TypeId} {P : Program} (h : fn.results = #[.cell p tp, .cell q tq, .cell r tr]) (tmps : Array Value) (w : World) (a b c : Addr) (va vb vc : Value)
    (hp : tmps.getD p undef = .pointer (some a)) (hq : tmps.getD q undef = .pointer (some b)) (hr : tmps.getD r undef = .pointer (some c))
    (la : (loadVar tp a).run P w = .ok va w) (lb : (loadVar tq b).run P w = .ok vb w) (lc : (loadVar tr c).run P w = .ok vc w) :
    (results fn tmps).run P w = .ok (.tuple #[va, vb, vc]) w := by
  have hp' : tmps[p]?.getD undef = .pointer (some a) := by simpa using hp
  have hq' : tmps[q]?.getD undef = .pointer (some b) := by simpa using hq
  have hr' : tmps[r]?.getD undef = .pointer (some c) := by simpa using hr
  simp [results, h, hp', hq', hr', asAddr, la, lb, lc]

/-- what a round of Scan has between two tokens; n: the heap's size at the call -/
structure ScI (n : Nat) (w : World) (pre : List (Tok × Int)) (W : World) : Prop where
  bel : Below n w W
  r0 : W.heap[n]? = some (.cells #[.slice none 0 0] 22 (0, 0))
  r1 : W.heap[n + 1]? = some (.cells #[.int .i64 0] 23 (0, 0))
  r2 : W.heap[n + 1 + 1]? = some (.cells #[.int .i64 0] 3 (0, 0))
  lst : ∃ v, W.heap[n + 1 + 1 + 1]? = some (.cells #[v] 22 (0, 0)) ∧ W.ownsRow (n + 5) 31 4 v pre.length (toksCells (pre.map (·.1)))
  ok : ∀ x ∈ pre, x.2 = 0
structure ScX (n : Nat) (w : World) (pre : List (Tok × Int)) (W : World) : Prop where
  bel : Below n w W
  fault : ∃ pre0 x, pre = pre0 ++ [x] ∧ x.2 ≠ 0 ∧ W.heap[n]? = some (.cells #[.slice none 0 0] 22 (0, 0)) ∧ W.heap[n + 1]? = some (.cells #[.int .i64 x.2] 23 (0, 0)) ∧ W.heap[n + 1 + 1]? = some (.cells #[.int .i64 x.1.f1] 3 (0, 0))

theorem not_ownK {t : TypeId} (h : t = 22 ∨ t = 23 ∨ t = 3 ∨ t = 31) : ¬ ownK t := by
  unfold ownK
  rcases h with rfl | rfl | rfl | rfl <;> decide
theorem keepX {B : Nat} {A C : World} (h : Rg.TurnX B ownK A C) {k : Nat} {cs : Array Value} {t : TypeId} {fr : Nat × Nat} (hk : A.heap[k]? = some (.cells cs t fr)) (ht : ¬ ownK t) : C.heap[k]? = some (.cells cs t fr) :=
  h.same k _ hk (Or.inr ⟨cs, t, fr, rfl, ht⟩)
theorem keepRow {B base n : Nat} {v : Value} {xs : List Value} {A C : World} (h : Rg.TurnX B ownK A C) (ho : A.ownsRow base 31 4 v n xs) : C.ownsRow base 31 4 v n xs :=
  own_move ho fun k hk => by
    obtain ⟨cells, hc⟩ := own_typed ho k hk
    rw [hc]
    exact keepX h hc (not_ownK (by simp))
theorem ScI.turn {n B : Nat} {w A C : World} {pre : List (Tok × Int)} (h : ScI n w pre A) (ht : Rg.TurnX B ownK A C) (hB : n ≤ B) (hn : n ≤ w.heap.size) : ScI n w pre C where
  bel := ht.below h.bel hB hn
  r0 := keepX ht h.r0 (not_ownK (by simp))
  r1 := keepX ht h.r1 (not_ownK (by simp))
  r2 := keepX ht h.r2 (not_ownK (by simp))
  lst := by
    obtain ⟨v, h1, h2⟩ := h.lst
    exact ⟨v, keepX ht h1 (not_ownK (by simp)), keepRow ht h2⟩
  ok := h.ok
theorem ScX.turn {n B : Nat} {w A C : World} {pre : List (Tok × Int)} (h : ScX n w pre A) (ht : Rg.TurnX B ownK A C) (hB : n ≤ B) (hn : n ≤ w.heap.size) : ScX n w pre C where
  bel := ht.below h.bel hB hn
  fault := by
    obtain ⟨p, x, h1, h2, h3, h4, h5⟩ := h.fault
    exact ⟨p, x, h1, h2, keepX ht h3 (not_ownK (by simp)), keepX ht h4 (not_ownK (by simp)), keepX ht h5 (not_ownK (by simp))⟩

theorem items_ok {s : ByteArray} {xs : List (Tok × Int)} (h : xs = itemsZ s) (hx : ∀ x ∈ xs, x.2 = 0) : tscanR s = (xs.map (·.1), 0, 0) := by
  unfold tscanR
  unfold itemsZ at h
  by_cases e : (aheadZ s (s.size + 1) 0 []).2.1 = 0
  · rw [if_pos e] at h ⊢
    rw [List.append_nil] at h
    rw [h, List.map_map]
    simp [Function.comp_def]
  · rw [if_neg e] at h
    exact absurd (hx _ (by rw [h]; exact List.mem_append_right _ List.mem_cons_self)) e
theorem items_bad {s : ByteArray} {pre : List (Tok × Int)} {x : Tok × Int} (h : pre ++ [x] <+: itemsZ s) (hx : x.2 ≠ 0) : tscanR s = ([], x.2, x.1.f1) := by
  unfold tscanR
  unfold itemsZ at h
  have hm := h.subset (List.mem_append_right pre (List.mem_singleton.2 rfl))
  rcases List.mem_append.1 hm with hm | hm
  · obtain ⟨t, _, rfl⟩ := List.mem_map.1 hm
    exact absurd rfl hx
  · by_cases e : (aheadZ s (s.size + 1) 0 []).2.1 = 0
    · rw [if_pos e] at hm
      cases hm
    · rw [if_neg e] at hm ⊢
      obtain rfl := List.mem_singleton.1 hm
      rfl

theorem kept_row {n₀ M : Nat} {K : TypeId → Prop} {A C : World} {row : Option Nat} (hb : Below n₀ A C) (hg : A.grownBy C row) (hr : ∀ k, row = some k → k < M ∧ ∃ cs t fr, A.heap[k]? = some (.cells cs t fr) ∧ ¬ K t) : Rg.Kept n₀ K M A C :=
  ⟨hb, fun k cs t fr hk hh => (hg.block k (Array.getElem?_eq_some_iff.1 hh).1 (fun e => by
    obtain ⟨_, cs', t', fr', h1, h2⟩ := hr k e.symm
    rw [hh] at h1
    injection h1 with h1
    injection h1 with _ h3
    exact h2 (h3 ▸ hk))).trans hh, fun k hm hl => hg.block k hl (fun e => by have := (hr k e.symm).1; omega)⟩

set_option maxHeartbeats 8000000 in
set_option maxRecDepth 100000 in
theorem scan_tok (s : ByteArray) (hs : s.size ≤ 1073741824) (R : List Tok × Int × Int) (hR : tscanR s = R) (w : World) (hT : Tabs w) :
    Calls Tryd.prog 8 #[.string s] w fun e w' => ∃ v0_ : Value, e = .returned (.tuple #[v0_, .int .i64 R.2.1, .int .i64 R.2.2]) ∧ Kd.R k31 31 w' w.heap.size (fun _ => True) v0_ R.1 ∧ Below w.heap.size w w' := by
  have HR := Lib.hid hR
  have HT : Hid (∀ W, Below w.heap.size w W → Tabs W) := fun W hb => hT.below hb
  clear hR hT
  obtain ⟨i0, hi, hz0, hz1, hz2⟩ := info_parts (P := Tryd.prog) (e := 31) (z := (.agg #[.int .i64 0, .int .i64 0, .int .i64 0, .string ByteArray.empty])) (size := 4) (bytes := 40) (by kernel_rfl)
  have HI := Lib.hid hi
  have HZ0 := Lib.hid hz0
  have HZ1 := Lib.hid hz1
  have HZ2 := Lib.hid hz2
  clear hi hz0 hz1 hz2
  refine (callsIn_wide (n := 9)).1 ?_
  refine callsIn_of_wp_marks Tryd.func8 rfl trivial ?_ rfl
  refine wpIn_wide.2 ?_
  simp only [Tryd.ntmps8, List.size_toArray, List.length_cons, List.length_nil, Nat.reduceAdd, Nat.reduceSub, Array.replicate_succ, Array.replicate_zero, List.push_toArray, List.append_toArray, List.nil_append, List.cons_append]
  go_wp2_with (go_at_call 13; (with_reducible refine (seq_calls _ _).mono ?_); rintro e0 w1 ⟨rfl, rfl⟩)
  obtain ⟨W0, hW0⟩ : ∃ W0, (((((w.alloc (.cells #[.slice none 0 0] 22)).alloc (.cells #[.int .i64 0] 23)).alloc (.cells #[.int .i64 0] 3)).alloc (.cells #[.slice none 0 0] 22)).alloc (.cells #[.string s] 9)) = W0 := ⟨_, rfl⟩
  have hsz : W0.heap.size = w.heap.size + 5 := by rw [← hW0]; simp
  have I0 : ScI w.heap.size w [] W0 := by
    have g3 := World.alloc_heap_new (((w.alloc (.cells #[.slice none 0 0] 22)).alloc (.cells #[.int .i64 0] 23)).alloc (.cells #[.int .i64 0] 3)) (.cells #[.slice none 0 0] 22)
    have g2 := World.alloc_heap_new ((w.alloc (.cells #[.slice none 0 0] 22)).alloc (.cells #[.int .i64 0] 23)) (.cells #[.int .i64 0] 3)
    have g1 := World.alloc_heap_new (w.alloc (.cells #[.slice none 0 0] 22)) (.cells #[.int .i64 0] 23)
    have g0 := World.alloc_heap_new w (.cells #[.slice none 0 0] 22)
    simp only [World.size_alloc] at g1 g2 g3
    rw [← hW0]
    exact ⟨(((((Below.refl _ w).alloc (Nat.le_refl _) _).alloc (by simp) _).alloc (by simp; omega) _).alloc (by simp; omega) _).alloc (by simp; omega) _,
      blk_alloc (blk_alloc (blk_alloc (blk_alloc g0 _) _) _) _, blk_alloc (blk_alloc (blk_alloc g1 _) _) _, blk_alloc (blk_alloc g2 _) _, ⟨_, blk_alloc g3 _, own_nil _ _ _ _⟩, by simp⟩
  have hbs : TextAt W0 (w.heap.size + 1 + 1 + 1 + 1) s := by
    rw [← hW0]
    have := World.alloc_heap_new ((((w.alloc (.cells #[.slice none 0 0] 22)).alloc (.cells #[.int .i64 0] 23)).alloc (.cells #[.int .i64 0] 3)).alloc (.cells #[.slice none 0 0] 22)) (.cells #[.string s] 9)
    simp only [World.size_alloc] at this
    exact this
  rw [hW0]
  have hseq := seq_in s hs (w.heap.size + 1 + 1 + 1 + 1) w.heap.size W0 hbs (fun W h => HT.out W (I0.bel.trans h))
  clear hW0 hbs
  refine (wpIn_wide (n := 9)).1 ?_
  refine Rg.range_law (gf := 18) (lb := #[.pointer (some ⟨w.heap.size + 1 + 1 + 1 + 1, 0, none⟩)]) rfl (enters_of Tryd.func18 (by kernel_rfl) rfl) hseq ⟨Below.refl _ _, fun _ _ _ _ _ h => h, fun _ _ _ => rfl⟩ (by omega) (fun _ => rfl)
    (ScI w.heap.size w) (fun c pre W => c = .ret ∧ ScX w.heap.size w pre W) (fun pre A C h ht => h.turn ht (by omega) (Nat.le_refl _)) (fun c pre A C h ht => ⟨h.1, h.2.turn ht (by omega) (Nat.le_refl _)⟩) I0
    (fun x a' W => ∃ B, W.heap[B]? = some (.cells #[.int .i64 x.1.f0, .int .i64 x.1.f1, .int .i64 x.1.f2, .string x.1.f3] 31 (0, 0)) ∧ a' = { tmps := #[.string s, undef, .pointer (some ⟨w.heap.size, 0, none⟩), .pointer (some ⟨w.heap.size + 1, 0, none⟩), .pointer (some ⟨w.heap.size + 1 + 1, 0, none⟩), .pointer (some ⟨w.heap.size + 1 + 1 + 1, 0, none⟩), .pointer (some ⟨B, 0, none⟩), .int .i64 x.2, .string s, .func (.func 18) #[] #[.pointer (some ⟨w.heap.size + 1 + 1 + 1 + 1, 0, none⟩)], .agg #[.int .i64 x.1.f0, .int .i64 x.1.f1, .int .i64 x.1.f2, .string x.1.f3], .int .i64 x.2, undef, undef, undef, undef, undef, undef, undef, undef, undef, undef], defers := [] })
    (fun x a' A C ⟨B, h1, h2⟩ ht => ⟨B, keepX ht h1 (not_ownK (by simp)), h2⟩) ?assign ?body ?done ?stop
  case assign =>
    intro l pre x W KK hI hsW hK
    rw [show encT x = #[.agg #[.int .i64 x.1.f0, .int .i64 x.1.f1, .int .i64 x.1.f2, .string x.1.f3], .int .i64 x.2] from rfl]
    have HKK := Lib.hid hK
    clear hK
    gi_wp2
    exact HKK.out _ _ (KeepsOthers.alloc _ _) (Rg.kept_alloc (Nat.le_trans hI.bel.size (Nat.le_refl _)) _) (hI.turn (Rg.turnX_alloc _ _) (Nat.le_refl _) (Nat.le_refl _)) ⟨W.heap.size, heap_alloc_new W _, rfl⟩
  case body =>
    rintro l pre ⟨⟨f0, f1, f2, f3⟩, e⟩ a' W1 W hI1 ht1 hsW hI ⟨B, hB, rfl⟩ hlen
    replace hlen : pre.length < s.size + 1 := by
      have h1 := List.IsPrefix.length_le hlen
      have h2 := items_len s
      rw [List.length_append, List.length_singleton] at h1
      omega
    obtain ⟨v, h3, hrow⟩ := hI1.lst
    have hlow := own_lt hrow
    have hk0 := blk_lt hI1.r0
    have hk1 := blk_lt hI1.r1
    have hk2 := blk_lt hI1.r2
    have hk3 := blk_lt h3
    have g0 := keepX ht1 hI1.r0 (not_ownK (by simp))
    have g1 := keepX ht1 hI1.r1 (not_ownK (by simp))
    have g2 := keepX ht1 hI1.r2 (not_ownK (by simp))
    have g3 := keepX ht1 h3 (not_ownK (by simp))
    have hrowW := keepRow ht1 hrow
    have c0 : W.cell? ⟨w.heap.size, 0, none⟩ = some (.slice none 0 0) := (blk_cell g0 0).trans rfl
    have c1 : W.cell? ⟨w.heap.size + 1, 0, none⟩ = some (.int .i64 0) := (blk_cell g1 0).trans rfl
    have c2 : W.cell? ⟨w.heap.size + 1 + 1, 0, none⟩ = some (.int .i64 0) := (blk_cell g2 0).trans rfl
    have c3 : W.cell? ⟨w.heap.size + 1 + 1 + 1, 0, none⟩ = some v := (blk_cell g3 0).trans rfl
    have fz0 := blk_frozen g0 0
    have fz1 := blk_frozen g1 0
    have fz2 := blk_frozen g2 0
    have fz3 := blk_frozen g3 0
    have b0 : W.cell? ⟨B, 0, none⟩ = some (.int .i64 f0) := (blk_cell hB 0).trans rfl
    have b1 : W.cell? ⟨B, 1, none⟩ = some (.int .i64 f1) := (blk_cell hB 1).trans rfl
    have b2 : W.cell? ⟨B, 2, none⟩ = some (.int .i64 f2) := (blk_cell hB 2).trans rfl
    have b3 : W.cell? ⟨B, 3, none⟩ = some (.string f3) := (blk_cell hB 3).trans rfl
    have hs1 := ht1.size
    have HNE := Lib.hid (own_ne hrowW g3 (by decide))
    have HNE0 := Lib.hid (own_ne hrowW g0 (by decide))
    have HNE1 := Lib.hid (own_ne hrowW g1 (by decide))
    have HNE2 := Lib.hid (own_ne hrowW g2 (by decide))
    have HI1 := Lib.hid hI1
    have HII := Lib.hid hI
    have HT1 := Lib.hid ht1
    have HG0 := Lib.hid g0
    have HG1 := Lib.hid g1
    have HG2 := Lib.hid g2
    have HG3 := Lib.hid g3
    have HBB := Lib.hid hB
    have HROW := Lib.hid hrowW
    have HLOW := Lib.hid hlow
    have hsz1 := hI1.bel.size
    have hszW := hI.bel.size
    clear hI1 hI ht1 g0 g1 g2 g3 hB hrowW hlow hrow h3 hseq I0
    by_cases hx : e = 0
    · subst hx
      gi_wp2_with (gi_at_builtin; refine wpListIn_append_own _ rfl (.tmp 17) (.tmp 19) 22 rfl (w.heap.size + 5) 31 i0 _ 4 40 Tryd.underlying22 HI.out HZ0.out HZ1.out HZ2.out rfl (by decide) v pre.length (toksCells (pre.map (·.1))) rfl ?c0 _ 1 1 [.int .i64 f0, .int .i64 f1, .int .i64 f2, .string f3] rfl rfl ?c1 ?c2 ?c3 ?c4 ?c5 ?_; go_must ((case c0 => exact World.ownsRow.alloc HROW.out _); (case c1 => exact World.news_of_block (cs := #[.int .i64 f0, .int .i64 f1, .int .i64 f2, .string f3]) (t := 31) (fr := (0, 0)) (heap_alloc_new W _)); (case c2 => simp [Value.oneCell']); (case c3 => unfold maxLen; omega); (case c4 => omega); (case c5 => simp; omega); intro v8 w8 hown8 hg8 _; obtain ⟨A8, cp8, rfl⟩ := own_slice hown8; have hb8 := Lib.hid (blk_grown (blk_alloc HG3.out (.cells #[.int .i64 f0, .int .i64 f1, .int .i64 f2, .string f3] 31)) hg8 HNE.out); have c8 : w8.cell? ⟨w.heap.size + 1 + 1 + 1, 0, none⟩ = some v := (blk_cell hb8.out 0).trans rfl; have f8 := blk_frozen hb8.out 0; have HO8 := Lib.hid hown8; have HG8 := Lib.hid hg8; clear hown8 hg8))
      have hA := KeepsOthers.alloc W (.cells #[.int .i64 f0, .int .i64 f1, .int .i64 f2, .string f3] 31)
      have hkA : Rg.Kept w.heap.size ownK W1.heap.size W (W.alloc (.cells #[.int .i64 f0, .int .i64 f1, .int .i64 f2, .string f3] 31)) := Rg.kept_alloc (by omega) _
      have hbA : Below w.heap.size (W.alloc (.cells #[.int .i64 f0, .int .i64 f1, .int .i64 f2, .string f3] 31)) w8 := (Below.refl _ _).grown HG8.out (by simp; omega) (fun k hk => by have := own_base HROW.out k hk; omega)
      have hkB : Rg.Kept w.heap.size ownK W1.heap.size (W.alloc (.cells #[.int .i64 f0, .int .i64 f1, .int .i64 f2, .string f3] 31)) w8 := kept_row hbA HG8.out (fun k hk => ⟨HLOW.out k hk, by obtain ⟨cs, hcs⟩ := own_typed (HROW.out.alloc (.cells #[.int .i64 f0, .int .i64 f1, .int .i64 f2, .string f3] 31)) k hk; exact ⟨cs, _, _, hcs, not_ownK (by simp)⟩⟩)
      have hkC := (hkA.trans hkB).trans (Rg.kept_set (K := ownK) (n₀ := w.heap.size) (M := W1.heap.size) hb8.out (not_ownK (by simp)) (by omega) hk3 0 (.slice A8 (pre.length + 1) cp8))
      refine ⟨(hA.trans (KeepsOthers.of_grownBy HG8.out (fun j o hj ho => by obtain ⟨cs, hcs⟩ := own_typed (HROW.out.alloc (.cells #[.int .i64 f0, .int .i64 f1, .int .i64 f2, .string f3] 31)) j hj; rw [hcs] at ho; cases ho; rfl))).trans (KeepsOthers.setCell _ _ _), hkC, HII.out.bel.trans hkC.1, ?_, ?_, ?_, ⟨_, blk_put hb8.out 0 _ rfl, ?_⟩, ?_⟩
      · exact blk_far (p := ⟨w.heap.size + 1 + 1 + 1, 0, none⟩) (blk_grown (blk_alloc HG0.out _) HG8.out HNE0.out) (by show w.heap.size ≠ w.heap.size + 1 + 1 + 1; omega) _
      · exact blk_far (p := ⟨w.heap.size + 1 + 1 + 1, 0, none⟩) (blk_grown (blk_alloc HG1.out _) HG8.out HNE1.out) (by show w.heap.size + 1 ≠ w.heap.size + 1 + 1 + 1; omega) _
      · exact blk_far (p := ⟨w.heap.size + 1 + 1 + 1, 0, none⟩) (blk_grown (blk_alloc HG2.out _) HG8.out HNE2.out) (by show w.heap.size + 1 + 1 ≠ w.heap.size + 1 + 1 + 1; omega) _
      · rw [List.map_append, List.map_singleton, toksCells_snoc, List.length_append, List.length_singleton]
        exact own_setCell HO8.out (own_ne HO8.out hb8.out (by decide)) _
      · intro y hy
        rcases List.mem_append.1 hy with hy | hy
        · exact HII.out.ok y hy
        · rw [List.mem_singleton.1 hy]
    · gi_wp2
      gi_region
      all_goals
        gi_wp2
        refine ⟨(((KeepsOthers.setCell _ _ _).trans (KeepsOthers.setCell _ _ _)).trans (KeepsOthers.setCell _ _ _)).trans (KeepsOthers.drew _), rfl, ?_, pre, _, rfl, hx, ?_, ?_, ?_⟩
        · exact (((HII.out.bel.setCell (p := ⟨w.heap.size, 0, none⟩) (Nat.le_refl _) _).setCell (p := ⟨w.heap.size + 1, 0, none⟩) (by show w.heap.size ≤ w.heap.size + 1; omega) _).setCell (p := ⟨w.heap.size + 1 + 1, 0, none⟩) (by show w.heap.size ≤ w.heap.size + 1 + 1; omega) _).drew
        · exact blk_far (p := ⟨w.heap.size + 1 + 1, 0, none⟩) (blk_far (p := ⟨w.heap.size + 1, 0, none⟩) (blk_put HG0.out 0 (.slice none 0 0) rfl) (by show w.heap.size ≠ w.heap.size + 1; omega) _) (by show w.heap.size ≠ w.heap.size + 1 + 1; omega) _
        · exact blk_far (p := ⟨w.heap.size + 1 + 1, 0, none⟩) (blk_put (blk_far (p := ⟨w.heap.size, 0, none⟩) HG1.out (by show w.heap.size + 1 ≠ w.heap.size; omega) _) 0 (.int .i64 e) rfl) (by show w.heap.size + 1 ≠ w.heap.size + 1 + 1; omega) _
        · exact blk_put (blk_far (p := ⟨w.heap.size + 1, 0, none⟩) (blk_far (p := ⟨w.heap.size, 0, none⟩) HG2.out (by show w.heap.size + 1 + 1 ≠ w.heap.size; omega) _) (by show w.heap.size + 1 + 1 ≠ w.heap.size + 1; omega) _) 0 (.int .i64 f1) rfl
  case done =>
    rintro D xs W hD hxs hI hdef
    obtain ⟨v, h3, hrow⟩ := hI.lst
    obtain ⟨A8, cp8, rfl⟩ := own_slice hrow
    have c0 : W.cell? ⟨w.heap.size, 0, none⟩ = some (.slice none 0 0) := (blk_cell hI.r0 0).trans rfl
    have c1 : W.cell? ⟨w.heap.size + 1, 0, none⟩ = some (.int .i64 0) := (blk_cell hI.r1 0).trans rfl
    have c2 : W.cell? ⟨w.heap.size + 1 + 1, 0, none⟩ = some (.int .i64 0) := (blk_cell hI.r2 0).trans rfl
    have c3 := (blk_cell h3 0).trans rfl
    have fz0 := blk_frozen hI.r0 0
    have fz1 := blk_frozen hI.r1 0
    have fz2 := blk_frozen hI.r2 0
    have HII := Lib.hid hI
    have HDEF := Lib.hid hdef
    have HROW := Lib.hid hrow
    have H3 := Lib.hid h3
    have HXS := Lib.hid hxs
    clear hI hdef hseq I0 hrow h3 hxs
    go_wp2
    have q0 := blk_far (p := ⟨w.heap.size + 1 + 1, 0, none⟩) (blk_far (p := ⟨w.heap.size + 1, 0, none⟩) (blk_put HII.out.r0 0 (.slice A8 xs.length cp8) rfl) (by show w.heap.size ≠ w.heap.size + 1; omega) (.int .i64 0)) (by show w.heap.size ≠ w.heap.size + 1 + 1; omega) (.int .i64 0)
    have q1 := blk_far (p := ⟨w.heap.size + 1 + 1, 0, none⟩) (blk_put (blk_far (p := ⟨w.heap.size, 0, none⟩) HII.out.r1 (by show w.heap.size + 1 ≠ w.heap.size; omega) (.slice A8 xs.length cp8)) 0 (.int .i64 0) rfl) (by show w.heap.size + 1 ≠ w.heap.size + 1 + 1; omega) (.int .i64 0)
    have q2 := blk_put (blk_far (p := ⟨w.heap.size + 1, 0, none⟩) (blk_far (p := ⟨w.heap.size, 0, none⟩) HII.out.r2 (by show w.heap.size + 1 + 1 ≠ w.heap.size; omega) (.slice A8 xs.length cp8)) (by show w.heap.size + 1 + 1 ≠ w.heap.size + 1; omega) (.int .i64 0)) 0 (.int .i64 0) rfl
    have qb := ((HII.out.bel.setCell (p := ⟨w.heap.size, 0, none⟩) (Nat.le_refl _) (.slice A8 xs.length cp8)).setCell (p := ⟨w.heap.size + 1, 0, none⟩) (by show w.heap.size ≤ w.heap.size + 1; omega) (.int .i64 0)).setCell (p := ⟨w.heap.size + 1 + 1, 0, none⟩) (by show w.heap.size ≤ w.heap.size + 1 + 1; omega) (.int .i64 0)
    have qr := own_setCell (own_setCell (own_setCell HROW.out (own_ne HROW.out HII.out.r0 (by decide)) (p := ⟨w.heap.size, 0, none⟩) (.slice A8 xs.length cp8)) (p := ⟨w.heap.size + 1, 0, none⟩) (own_ne HROW.out HII.out.r1 (by decide)) (.int .i64 0)) (p := ⟨w.heap.size + 1 + 1, 0, none⟩) (own_ne HROW.out HII.out.r2 (by decide)) (.int .i64 0)
    have qd := (((KeepsOthers.setCell W ⟨w.heap.size, 0, none⟩ (.slice A8 xs.length cp8)).trans (KeepsOthers.setCell _ ⟨w.heap.size + 1, 0, none⟩ (.int .i64 0))).trans (KeepsOthers.setCell _ ⟨w.heap.size + 1 + 1, 0, none⟩ (.int .i64 0))).same _ _ HDEF.out rfl
    obtain ⟨W9, hW9⟩ : ∃ x, ((W.setCell ⟨w.heap.size, 0, none⟩ (.slice A8 xs.length cp8)).setCell ⟨w.heap.size + 1, 0, none⟩ (.int .i64 0)).setCell ⟨w.heap.size + 1 + 1, 0, none⟩ (.int .i64 0) = x := ⟨_, rfl⟩
    rw [hW9] at q0 q1 q2 qb qr qd ⊢
    clear hW9
    refine ⟨by simp, .inl ⟨_, _, rfl, run_takeDeferred qd, ?_⟩⟩
    have z0 := (blk_cell ((World.putObj_heap_other (o := .deferred none) (show w.heap.size ≠ D by omega)).trans q0) 0).trans rfl
    have z1 := (blk_cell ((World.putObj_heap_other (o := .deferred none) (show w.heap.size + 1 ≠ D by omega)).trans q1) 0).trans rfl
    have z2 := (blk_cell ((World.putObj_heap_other (o := .deferred none) (show w.heap.size + 1 + 1 ≠ D by omega)).trans q2) 0).trans rfl
    have hi9 := items_ok HXS.out HII.out.ok
    rw [HR.out] at hi9
    rw [hi9]
    refine ⟨_, results_ccc rfl _ _ ⟨w.heap.size, 0, none⟩ ⟨w.heap.size + 1, 0, none⟩ ⟨w.heap.size + 1 + 1, 0, none⟩ (.slice A8 xs.length cp8) (.int .i64 0) (.int .i64 0) rfl rfl rfl (by go_simp) (by go_simp) (by go_simp), _, rfl, ?_, qb.trans (Rg.kept_putObj (K := ownK) (n₀ := w.heap.size) (M := D + 1) D _ (.deferred none) (by omega) (by omega) qd rfl).1⟩
    exact toks_R (by rw [List.length_map]; exact own_weaken (ownsRow_putObj qr _ qd rfl) (by omega))
  case stop =>
    rintro D c pre W hD hpre ⟨rfl, hX⟩ hdef
    obtain ⟨pre0, x, rfl, hx, h0, h1, h2⟩ := hX.fault
    have HDEF := Lib.hid hdef
    have hbel := hX.bel
    clear hdef hseq I0
    gi_wp2
    refine ⟨by simp, .inl ⟨_, _, rfl, run_takeDeferred HDEF.out, ?_⟩⟩
    have z0 := (blk_cell ((World.putObj_heap_other (o := .deferred none) (show w.heap.size ≠ D by omega)).trans h0) 0).trans rfl
    have z1 := (blk_cell ((World.putObj_heap_other (o := .deferred none) (show w.heap.size + 1 ≠ D by omega)).trans h1) 0).trans rfl
    have z2 := (blk_cell ((World.putObj_heap_other (o := .deferred none) (show w.heap.size + 1 + 1 ≠ D by omega)).trans h2) 0).trans rfl
    have hi9 := items_bad hpre hx
    rw [HR.out] at hi9
    rw [hi9]
    refine ⟨_, results_ccc rfl _ _ ⟨w.heap.size, 0, none⟩ ⟨w.heap.size + 1, 0, none⟩ ⟨w.heap.size + 1 + 1, 0, none⟩ (.slice none 0 0) (.int .i64 x.2) (.int .i64 x.1.f1) rfl rfl rfl (by go_simp) (by go_simp) (by go_simp), _, rfl, Kd.R_nil _ _ _ _ _, hbel.trans (Rg.kept_putObj (K := ownK) (n₀ := w.heap.size) (M := D + 1) D _ (.deferred none) (by omega) (by omega) HDEF.out rfl).1⟩

def token_Scan.f (a0 : ByteArray) : Option (List Tok × Int × Int) := if a0.size ≤ 1073741824 then some (tscanR a0) else none
theorem token_Scan.calls (a0 : ByteArray) (r1 : List Tok) (r2 r3 : Int) (w : World) (hT : Tabs w) (h : token_Scan.f a0 = some (r1, r2, r3)) :
    Calls Tryd.prog 8 #[.string a0] w fun e w' => ∃ v0_ : Value, e = .returned (.tuple #[v0_, .int .i64 r2, .int .i64 r3]) ∧ Kd.R k31 31 w' w.heap.size (fun _ => True) v0_ r1 ∧ Below w.heap.size w w' := by
  unfold token_Scan.f at h
  split at h
  · rename_i hs
    exact scan_tok a0 hs (r1, r2, r3) (Option.some.inj h) w hT
  · cases h
end Go.Proofs.YtkfcoikfhpabmaaDoor.U

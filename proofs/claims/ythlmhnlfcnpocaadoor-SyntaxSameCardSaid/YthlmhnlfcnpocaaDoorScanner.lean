/- word's scanner as it lies in memory, and what its own small calls do to it. -/
import Derived.Test.YthlmhnlfcnpocaaDoorU0
import Derived.Deep.AppendLies
import Derived.Deep.RegionLaw
import Derived.RegionTactic
import Derived.WalkLawsBesides
import Derived.WalkSpells
import Derived.StillTactics
import Derived.Laws.Pointers
import Derived.Lib.Hide
import Derived.Laws.OwnMore
import Derived.Lib.OthersKept
import Derived.Outline
namespace Go.Proofs.YthlmhnlfcnpocaaDoor.U
open Go.RowKit Go.Proofs.YthlmhnlfcnpocaaDoorW.PrintWords
set_option linter.unusedSimpArgs false

abbrev Tok := S60
theorem infoTok : (Tryd.prog.info? 60).map (fun i => (i.zero, i.size, i.bytes)) = some (some (.agg #[.int .i64 0, .int .i64 0, .int .i64 0, .string ⟨#[]⟩]), 4, 40) := by kernel_rfl
def tokCells (t : Tok) : List Value := [.int .i64 t.f0, .int .i64 t.f1, .int .i64 t.f2, .string t.f3]
def toksCells (l : List Tok) : List Value := l.flatMap tokCells
theorem toksCells_snoc (l : List Tok) (t : Tok) : toksCells (l ++ [t]) = toksCells l ++ tokCells t := by simp [toksCells]

/-- the scanner's cells -/
def scCells (s : ByteArray) (at_ : Int) (vt vo : Value) (e pl : Int) : Array Value := #[.string s, .int .i64 at_, vt, vo, .int .i64 e, .int .i64 pl]
/-- the scanner: block b; what lies below B was there ahead of the call -/
structure Sc (B b : Nat) (s : ByteArray) (at_ : Int) (toks : List Tok) (op : List Int) (e pl : Int) (vt vo : Value) (W : World) : Prop where
  blk : W.heap[b]? = some (.cells (scCells s at_ vt vo e pl) 53 (0, 0))
  tok : W.ownsRow B 60 4 vt toks.length (toksCells toks)
  opn : W.ownsRow B 3 1 vo op.length (nums .i64 op)
  low : B ≤ b

section
variable {B b : Nat} {s : ByteArray} {at_ : Int} {toks : List Tok} {op : List Int} {e pl : Int} {vt vo : Value} {W : World}
theorem Sc.lt (h : Sc B b s at_ toks op e pl vt vo W) : b < W.heap.size := (Array.getElem?_eq_some_iff.1 h.blk).1
theorem Sc.cells (h : Sc B b s at_ toks op e pl vt vo W) (j : Nat) : W.cell? ⟨b, j, none⟩ = (scCells s at_ vt vo e pl)[j]? := by
  have := cell_of_row W b j (scCells s at_ vt vo e pl) 53 (0, 0) h.blk
  simpa using this
theorem Sc.c0 (h : Sc B b s at_ toks op e pl vt vo W) : W.cell? ⟨b, 0, none⟩ = some (.string s) := h.cells 0
theorem Sc.c1 (h : Sc B b s at_ toks op e pl vt vo W) : W.cell? ⟨b, 1, none⟩ = some (.int .i64 at_) := h.cells 1
theorem Sc.c2 (h : Sc B b s at_ toks op e pl vt vo W) : W.cell? ⟨b, 2, none⟩ = some vt := h.cells 2
theorem Sc.c3 (h : Sc B b s at_ toks op e pl vt vo W) : W.cell? ⟨b, 3, none⟩ = some vo := h.cells 3
theorem Sc.c4 (h : Sc B b s at_ toks op e pl vt vo W) : W.cell? ⟨b, 4, none⟩ = some (.int .i64 e) := h.cells 4
theorem Sc.c5 (h : Sc B b s at_ toks op e pl vt vo W) : W.cell? ⟨b, 5, none⟩ = some (.int .i64 pl) := h.cells 5
theorem Sc.fr (h : Sc B b s at_ toks op e pl vt vo W) (j : Nat) : W.frozen? ⟨b, j, none⟩ = false := frozen_of_row W b j _ _ h.blk
theorem Sc.neT (h : Sc B b s at_ toks op e pl vt vo W) : some b ≠ vt.ownBlock := own_ne h.tok h.blk (by decide)
theorem Sc.neO (h : Sc B b s at_ toks op e pl vt vo W) : some b ≠ vo.ownBlock := own_ne h.opn h.blk (by decide)

/-- what lies there already stays -/
theorem Sc.below {W1 : World} (h : Sc B b s at_ toks op e pl vt vo W) (hb : Below W.heap.size W W1) : Sc B b s at_ toks op e pl vt vo W1 where
  blk := (hb.block b h.lt).trans h.blk
  tok := own_move h.tok fun k hk => hb.block k (own_lt h.tok k hk)
  opn := own_move h.opn fun k hk => hb.block k (own_lt h.opn k hk)
  low := h.low

/-- a cell of the scanner's own is set -/
theorem Sc.at (h : Sc B b s at_ toks op e pl vt vo W) (x : Int) : Sc B b s x toks op e pl vt vo (W.setCell ⟨b, 1, none⟩ (.int .i64 x)) where
  blk := heap_setCell_same W b 1 _ _ _ h.blk
  tok := own_setCell h.tok h.neT _
  opn := own_setCell h.opn h.neO _
  low := h.low
theorem Sc.fault (h : Sc B b s at_ toks op e pl vt vo W) (x : Int) : Sc B b s at_ toks op x pl vt vo (W.setCell ⟨b, 4, none⟩ (.int .i64 x)) where
  blk := heap_setCell_same W b 4 _ _ _ h.blk
  tok := own_setCell h.tok h.neT _
  opn := own_setCell h.opn h.neO _
  low := h.low
theorem Sc.place (h : Sc B b s at_ toks op e pl vt vo W) (x : Int) : Sc B b s at_ toks op e x vt vo (W.setCell ⟨b, 5, none⟩ (.int .i64 x)) where
  blk := heap_setCell_same W b 5 _ _ _ h.blk
  tok := own_setCell h.tok h.neT _
  opn := own_setCell h.opn h.neO _
  low := h.low
/-- the list of tokens has grown, and is laid down -/
theorem Sc.grown {W1 : World} {v1 : Value} {t : Tok} (h : Sc B b s at_ toks op e pl vt vo W) (h1 : W1.ownsRow B 60 4 v1 (toks ++ [t]).length (toksCells (toks ++ [t]))) (hg : W.grownBy W1 vt.ownBlock) : Sc B b s at_ (toks ++ [t]) op e pl v1 vo (W1.setCell ⟨b, 2, none⟩ v1) := by
  have hb : W1.heap[b]? = some (.cells (scCells s at_ vt vo e pl) 53 (0, 0)) := (hg.block b h.lt h.neT).trans h.blk
  have ho : W1.ownsRow B 3 1 vo op.length (nums .i64 op) := h.opn.kept hg (own_type_ne h.opn h.tok (by decide))
  exact ⟨heap_setCell_same W1 b 2 _ _ _ hb, own_setCell h1 (own_ne h1 hb (by decide)) _, own_setCell ho (own_ne ho hb (by decide)) _, h.low⟩
/-- the list of what is open has turned, and is laid down -/
theorem Sc.opens {W1 : World} {v1 : Value} {op1 : List Int} (h : Sc B b s at_ toks op e pl vt vo W) (h1 : W1.ownsRow B 3 1 v1 op1.length (nums .i64 op1)) (hg : W.grownBy W1 vo.ownBlock) : Sc B b s at_ toks op1 e pl vt v1 (W1.setCell ⟨b, 3, none⟩ v1) := by
  have hb : W1.heap[b]? = some (.cells (scCells s at_ vt vo e pl) 53 (0, 0)) := (hg.block b h.lt h.neO).trans h.blk
  have ho : W1.ownsRow B 60 4 vt toks.length (toksCells toks) := h.tok.kept hg (own_type_ne h.tok h.opn (by decide))
  exact ⟨heap_setCell_same W1 b 3 _ _ _ hb, own_setCell ho (own_ne ho hb (by decide)) _, own_setCell h1 (own_ne h1 hb (by decide)) _, h.low⟩
/-- a block of another type is not the scanner's, nor its list's of what is open -/
theorem Sc.apartO {W1 : World} {v1 : Value} (h : Sc B b s at_ toks op e pl vt vo W) (hg : W.grownBy W1 vo.ownBlock) (k : Nat) (cs : Array Value) (t : TypeId) (hk : W.heap[k]? = some (.cells cs t (0, 0))) (h1 : t ≠ 53) (h2 : t ≠ 3) : (W1.setCell ⟨b, 3, none⟩ v1).heap[k]? = W.heap[k]? := by
  have hb : k ≠ b := by
    intro e
    subst e
    rw [h.blk] at hk
    injection hk with hk
    injection hk with _ hk _
    exact h1 hk.symm
  rw [heap_setCell_other W1 ⟨b, 3, none⟩ k _ (fun e => hb e)]
  refine hg.block k (Array.getElem?_eq_some_iff.1 hk).1 ?_
  intro e
  obtain ⟨cells, hc⟩ := own_typed h.opn k e.symm
  rw [hc] at hk
  injection hk with hk
  injection hk with _ hk _
  exact h2 hk.symm
/-- a number of what is open is set -/
theorem Sc.setOpen {g cp : Nat} (h : Sc B b s at_ toks op e pl vt (.slice (some ⟨g, 0, none⟩) op.length cp) W) (m : Nat) (y : Int) : Sc B b s at_ toks (op.set m y) e pl vt (.slice (some ⟨g, 0, none⟩) op.length cp) (W.setCell ⟨g, m, none⟩ (.int .i64 y)) := by
  have hbg : b ≠ g := by
    have := h.neO
    simpa [Value.ownBlock] using this
  have htg : some g ≠ vt.ownBlock := by
    rcases own_type_ne h.tok h.opn (by decide) with h1 | h1
    · rw [h1]
      simp
    · intro e
      exact h1 (by rw [← e]; rfl)
  have hs := (h.opn.stored m (.int .i64 y)).1
  have he : (nums .i64 op).set m (.int .i64 y) = nums .i64 (op.set m y) := by simp [nums, List.map_set]
  rw [he] at hs
  exact ⟨(heap_setCell_other W ⟨g, m, none⟩ b _ hbg).trans h.blk, own_setCell h.tok (p := ⟨g, m, none⟩) htg _, by rw [List.length_set]; exact hs, h.low⟩
/-- what is open last -/
theorem Sc.lastOpen {m : Nat} (h : Sc B b s at_ toks op e pl vt vo W) (hm : op.length = m + 1) : ∃ g cp, vo = .slice (some ⟨g, 0, none⟩) op.length cp ∧ op.length ≤ cp ∧ W.cell? ⟨g, m, none⟩ = some (.int .i64 (op.getD m 0)) ∧ W.frozen? ⟨g, m, none⟩ = false ∧ B ≤ g := by
  obtain ⟨g, cp, rfl⟩ : ∃ g cp, vo = .slice (some ⟨g, 0, none⟩) op.length cp := by
    rcases h.opn.2 with ⟨_, h2⟩ | ⟨g, cap, cur, h2, _⟩
    · omega
    · exact ⟨g, cap, h2⟩
  refine ⟨g, cp, rfl, own_le h.opn, ?_, h.opn.frozenAt m, own_base h.opn g rfl⟩
  rw [h.opn.cellAt m (by omega)]
  have hl : m < op.length := by omega
  simp [nums, List.getD, List.getElem?_eq_getElem hl]
/-- what a builder's writer turns is not the scanner's -/
theorem Sc.others {W1 : World} {d : Nat} (h : Sc B b s at_ toks op e pl vt vo W) (hk : Lib.OthersKept 5 (some d) W W1) (hd : ∃ cs, W.heap[d]? = some (.cells cs 76 (0, 0))) : Sc B b s at_ toks op e pl vt vo W1 := by
  obtain ⟨cs, hd⟩ := hd
  have key : ∀ (k : Nat) (c : Array Value) (t : TypeId), W.heap[k]? = some (.cells c t (0, 0)) → t ≠ 5 → t ≠ 76 → W1.heap[k]? = W.heap[k]? := by
    intro k c t h1 h2 h3
    rw [h1]
    refine hk k _ h1 ?_ ?_
    · intro e
      injection e with e
      subst e
      rw [h1] at hd
      injection hd with hd
      injection hd with _ hd _
      exact h3 hd
    · intro c2 fz e
      injection e with _ e _
      exact h2 e
  refine ⟨(key b _ _ h.blk (by decide) (by decide)).trans h.blk, own_move h.tok ?_, own_move h.opn ?_, h.low⟩
  · intro k hk2
    obtain ⟨c, hc⟩ := own_typed h.tok k hk2
    exact key k c _ hc (by decide) (by decide)
  · intro k hk2
    obtain ⟨c, hc⟩ := own_typed h.opn k hk2
    exact key k c _ hc (by decide) (by decide)
end

set_option maxHeartbeats 1000000 in
set_option maxRecDepth 100000 in
theorem fail_calls {B b : Nat} {s : ByteArray} {at_ : Int} {toks : List Tok} {op : List Int} {e pl : Int} {vt vo : Value} (W : World) (x y : Int) (h : Sc B b s at_ toks op e pl vt vo W) :
    Calls Tryd.prog 37 #[.pointer (some ⟨b, 0, none⟩), .int .i64 x, .int .i64 y] W fun e w' => e = .returned (.tuple #[]) ∧ Sc B b s at_ toks op x y vt vo w' ∧ Below B W w' := by
  have c4 := h.c4
  have c5 := h.c5
  have f4 := h.fr 4
  have f5 := h.fr 5
  have H := Lib.hid h
  clear h
  go_enter Tryd.func37, Tryd.ntmps37
  go_wp2
  go_end0
  exact ⟨rfl, (H.out.fault x).place y, ((Below.refl B W).setCell (p := ⟨b, 4, none⟩) H.out.low _).setCell (p := ⟨b, 5, none⟩) H.out.low _⟩

theorem cell_by {w w1 : World} {b j : Nat} {v : Value} (hb : w1.heap[b]? = w.heap[b]?) (h : w.cell? ⟨b, j, none⟩ = some v) : w1.cell? ⟨b, j, none⟩ = some v := (World.cell?_of_block (a := ⟨b, j, none⟩) hb).trans h
theorem frozen_by {w w1 : World} {b j : Nat} (hb : w1.heap[b]? = w.heap[b]?) (h : w.frozen? ⟨b, j, none⟩ = false) : w1.frozen? ⟨b, j, none⟩ = false := (World.frozen?_of_block (a := ⟨b, j, none⟩) hb).trans h
set_option maxHeartbeats 4000000 in
set_option maxRecDepth 100000 in
theorem token_calls {B b : Nat} {s : ByteArray} {at_ : Int} {toks : List Tok} {op : List Int} {e pl : Int} {vt vo : Value} (W : World) (kind end_ : Int) (text : ByteArray) (h : Sc B b s at_ toks op e pl vt vo W) (hlen : (toks.length + 1) * 40 ≤ 140737488355328) :
    Calls Tryd.prog 36 #[.pointer (some ⟨b, 0, none⟩), .int .i64 kind, .int .i64 end_, .string text] W fun r w' => r = .returned (.tuple #[]) ∧ ∃ v1, Sc B b s end_ (toks ++ [⟨kind, at_, end_, text⟩]) op e pl v1 vo w' ∧ Below B W w' := by
  obtain ⟨i0, hi, hz0, hz1, hz2⟩ := info_parts infoTok
  have c1 := h.c1
  have c2 := h.c2
  have f2 := h.fr 2
  have f1 := h.fr 1
  have hBW : B ≤ W.heap.size := Nat.le_trans h.low (Nat.le_of_lt h.lt)
  have hne := h.neT
  have hbl := h.lt
  have hown := h.tok
  have H := Lib.hid h
  clear h
  have HI := Lib.hid hi
  have HZ0 := Lib.hid hz0
  have HZ1 := Lib.hid hz1
  have HZ2 := Lib.hid hz2
  clear hi hz0 hz1 hz2
  go_enter Tryd.func36, Tryd.ntmps36
  go_wp2_with fail
  go_region_law
    ((refine step_append_lies _ (by rfl) _ _ _ (by rfl) B 60 i0 _ 4 40 Tryd.underlying37 HI.out HZ0.out HZ1.out HZ2.out rfl (by omega) vt toks.length (toksCells toks) (by rfl) (by exact (hown.alloc _).drew)
        ⟨W.heap.size, 0, none⟩ 1 1 [.int .i64 kind, .int .i64 at_, .int .i64 end_, .string text] (by rfl) (by rfl) (World.news_of_block (cs := #[.int .i64 kind, .int .i64 at_, .int .i64 end_, .string text]) (t := 60) (fr := (0, 0)) (heap_alloc_new W _)) (by simp [Value.oneCell'])
        (by omega) (by unfold maxLen; omega) hlen (by simp; omega) (W.heap.size + 1) (by simp) ?_; intro gg cap w1 hown1 hgrow hat hlt; have hb1 : w1.heap[b]? = W.heap[b]? := (hgrow.block b (by simp; omega) hne).trans (Below.heap_alloc W _ b hbl); have c2x := cell_by hb1 c2; have f2x := frozen_by hb1 f2; have c1x := cell_by hb1 c1; have f1x := frozen_by hb1 f1))
  all_goals
    have HS : Sc B b s at_ (toks ++ [⟨kind, at_, end_, text⟩]) op e pl (.slice (some ⟨gg, 0, none⟩) (toks.length + 1) cap) vo (w1.setCell ⟨b, 2, none⟩ (.slice (some ⟨gg, 0, none⟩) (toks.length + 1) cap)) :=
      Sc.grown (t := ⟨kind, at_, end_, text⟩) (H.out.below (((Below.refl _ W).alloc (Nat.le_refl _) _).drew)) (by rw [toksCells_snoc, List.length_append]; exact hown1) hgrow
    have HB : Below B W w1 := (((Below.refl B W).alloc hBW _).drew).grown hgrow (by simp; omega) (fun k hk => own_base hown k hk)
    have HH := Lib.hid HS
    clear HS hown1 hgrow
    go_wp2
    go_end0
    exact ⟨rfl, _, HH.out.at end_, ((HB.setCell (p := ⟨b, 2, none⟩) H.out.low _).setCell (p := ⟨b, 1, none⟩) H.out.low _)⟩

end Go.Proofs.YthlmhnlfcnpocaaDoor.U

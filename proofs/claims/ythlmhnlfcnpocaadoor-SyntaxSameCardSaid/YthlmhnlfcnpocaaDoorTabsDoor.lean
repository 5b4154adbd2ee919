/- The world in which a row's call begins holds what the library's calls want: the tables as laid; and a world for the witness. -/
import Derived.Test.YthlmhnlfcnpocaaDoorTabs
import Derived.Test.YthlmhnlfcnpocaaDoorShelf
import Derived.Test.YthlmhnlfcnpocaaDoorCards
import Derived.Lib.LaidU8T
import Derived.LaidByTextLater
import Derived.MakeChecks
import Derived.WalkKit
import Derived.Lib.LaidTab
import Derived.Test.YthlmhnlfcnpocaaDoorRowAll
import Derived.OpenShut
import Derived.ChangeArms
namespace Go.Proofs.YthlmhnlfcnpocaaDoor
open Go.RowKit

theorem u8x : Go.Proofs.U8Extra Tryd.prog Tryd.lays260_ren := ⟨by kernel_rfl, by kernel_rfl, by kernel_rfl, by kernel_rfl, by kernel_rfl, by kernel_rfl, by kernel_rfl⟩

theorem first_eq : Rows.laid_unicode_utf8_first = Lib.firstData := by kernel_rfl
theorem accept_eq : (Rows.laid_unicode_utf8_acceptRanges : DataW Unit) = Lib.acceptData := by kernel_rfl

theorem tabsOf {W : World} (h : W.ShapedOpen Tryd.prog) (hL : laidMetH Tryd.prog Rows.syntaxKnownRow.laid W) : Tabs W := by
  rw [Go.MakeChecks.laidMetH_plain _ _ _ (by kernel_rfl)] at hL
  have h1 : Lib.VarReads Tryd.prog W "unicode/utf8.acceptRanges" Rows.laid_unicode_utf8_acceptRanges := Lib.laidMet.reads hL (by unfold Rows.syntaxKnownRow; exact .head _)
  have h2 : Lib.VarReads Tryd.prog W "unicode/utf8.first" Rows.laid_unicode_utf8_first := Lib.laidMet.reads hL (by unfold Rows.syntaxKnownRow; exact .tail _ (.tail _ (.head _)))
  rw [accept_eq] at h1
  rw [first_eq] at h2
  exact ⟨Tryd.laysM144.s1_3 W h, Go.Proofs.utf8Tabs_of_readsT (Go.Proofs.U8Types.of260 Tryd.lays260) u8x h2 h1⟩

/-! the table of the marks between two filters, as the row lists it -/
def bindData (b : ByteArray × Int × Int × Int) : DataW Unit := .agg [.lit (.string b.1.data.toList), .lit (.int .i64 b.2.1), .lit (.int .i64 b.2.2.1), .lit (.int .i64 b.2.2.2)]
def bindC (b : ByteArray × Int × Int × Int) : List Value := [.string b.1, .int .i64 b.2.1, .int .i64 b.2.2.1, .int .i64 b.2.2.2]
theorem bind_eq : (Rows.laid_hallmark_syntax_bindings : DataW Unit) = .agg (U.bindsZ.map bindData) := by kernel_rfl
theorem drop_one {cs : List Value} {i : Nat} {v : Value} (h : (cs.drop i).take 1 = [v]) : cs[i]? = some v := by
  have := congrArg (·[0]?) h
  simpa [List.getElem?_take, List.getElem?_drop] using this
theorem list4 {α : Type} : ∀ (l : List α), l.length = 4 → ∃ a b c d, l = [a, b, c, d]
  | [a, b, c, d], _ => ⟨a, b, c, d, rfl⟩
set_option maxRecDepth 100000 in
theorem bind_struct {W : World} {fuel : Nat} {cs : List Value} {b : ByteArray × Int × Int × Int} {p : List MemPlace} (h : DataW.trod (fun _ => ()) Tryd.prog W 0 (fun _ => true) false fuel 68 cs = some (bindData b, p)) : cs = bindC b := by
  have ht : Tryd.prog.underlying 68 = some (.struct ((match Tryd.prog.underlying 68 with | some (.struct fs) => fs | _ => #[]))) := by kernel_rfl
  obtain ⟨fs, hfs⟩ : ∃ fs, (match Tryd.prog.underlying 68 with | some (.struct fs) => fs | _ => (#[] : Array Field)) = fs := ⟨_, rfl⟩
  rw [hfs] at ht
  have h0 : fs[0]?.map (fun f => (f.type, f.offset)) = some (9, 0) := by rw [← hfs]; kernel_rfl
  have h1 : fs[1]?.map (fun f => (f.type, f.offset)) = some (3, 1) := by rw [← hfs]; kernel_rfl
  have h2 : fs[2]?.map (fun f => (f.type, f.offset)) = some (3, 2) := by rw [← hfs]; kernel_rfl
  have h3 : fs[3]?.map (fun f => (f.type, f.offset)) = some (3, 3) := by rw [← hfs]; kernel_rfl
  clear hfs
  have c9 : Tryd.prog.cellsOf 9 = 1 := by kernel_rfl
  have c3 : Tryd.prog.cellsOf 3 = 1 := by kernel_rfl
  have cb : Tryd.prog.cellsOf 68 = 4 := by kernel_rfl
  have us : Tryd.prog.underlying 9 = some .string := by kernel_rfl
  have ui : Tryd.prog.underlying 3 = some (.int .i64) := by kernel_rfl
  obtain ⟨xs, n, rfl, hx, hl, hxl, hall⟩ := DataW.trod_struct ht h
  have hxs : xs.map (·.1) = [.lit (.string b.1.data.toList), .lit (.int .i64 b.2.1), .lit (.int .i64 b.2.2.1), .lit (.int .i64 b.2.2.2)] := by
    have := congrArg Prod.fst hx
    simpa [bindData] using this.symm
  have hx4 : xs.length = 4 := by
    have := congrArg List.length hxs
    simpa using this
  obtain ⟨x0, x1, x2, x3, rfl⟩ := list4 xs hx4
  simp only [List.map_cons, List.map_nil, List.cons.injEq, and_true] at hxs
  obtain ⟨y0, y1, y2, y3⟩ := hxs
  have get : ∀ (i : Nat) (t o : Nat), fs[i]?.map (fun f => (f.type, f.offset)) = some (t, o) → DataW.trod (fun _ => ()) Tryd.prog W 0 (fun _ => true) false n t ((cs.drop o).take (Tryd.prog.cellsOf t)) = [x0, x1, x2, x3][i]? := by
    intro i t o hi
    obtain ⟨f, hf, he⟩ := Option.map_eq_some_iff.1 hi
    injection he with e1 e2
    subst e1 e2
    exact hall i f hf
  have g0 := get 0 _ _ h0
  have g1 := get 1 _ _ h1
  have g2 := get 2 _ _ h2
  have g3 := get 3 _ _ h3
  rw [c9] at g0
  rw [c3] at g1 g2 g3
  obtain ⟨s0, e0, rfl, _⟩ := DataW.trod_string us g0
  obtain ⟨n1, e1, rfl, _⟩ := DataW.trod_int ui g1
  obtain ⟨n2, e2, rfl, _⟩ := DataW.trod_int ui g2
  obtain ⟨n3, e3, rfl, _⟩ := DataW.trod_int ui g3
  have z0 : s0 = b.1 := by
    simp only [DataW.lit.injEq, Lit.string.injEq] at y0
    exact ByteArray.ext (Array.ext' y0)
  simp only [DataW.lit.injEq, Lit.int.injEq, true_and] at y1 y2 y3
  subst z0 y1 y2 y3
  rw [cb] at hl
  have d0 := drop_one e0
  have d1 := drop_one e1
  have d2 := drop_one e2
  have d3 := drop_one e3
  obtain ⟨a0, a1, a2, a3, rfl⟩ := list4 cs hl
  simp only [List.getElem?_cons_zero, List.getElem?_cons_succ, Option.some.injEq] at d0 d1 d2 d3
  rw [d0, d1, d2, d3]
  rfl
theorem flat4 : ∀ (L : List (ByteArray × Int × Int × Int)) (cs : List Value), cs.length = L.length * 4 → (∀ (i : Nat) (hi : i < L.length), (cs.drop (i * 4)).take 4 = bindC L[i]) → cs = L.flatMap bindC
  | [], cs, hl, _ => by
    rw [List.length_nil, Nat.zero_mul] at hl
    rw [List.length_eq_zero_iff.1 hl]
    rfl
  | b :: L, cs, hl, h => by
    have h0 := h 0 (by simp)
    rw [Nat.zero_mul, List.drop_zero] at h0
    have := flat4 L (cs.drop 4) (by rw [List.length_drop, hl, List.length_cons]; omega) (fun i hi => by
      have := h (i + 1) (by simpa using hi)
      rw [List.drop_drop, show 4 + i * 4 = (i + 1) * 4 by omega]
      simpa using this)
    rw [← List.take_append_drop 4 cs, h0, this]
    rfl
theorem binOf {W : World} (hL : laidMetH Tryd.prog Rows.syntaxKnownRow.laid W) : U.BinAt W := by
  rw [Go.MakeChecks.laidMetH_plain _ _ _ (by kernel_rfl)] at hL
  have h1 : Lib.VarReads Tryd.prog W "hallmark/syntax.bindings" Rows.laid_hallmark_syntax_bindings := Lib.laidMet.reads hL (by unfold Rows.syntaxKnownRow; exact .tail _ (.head _))
  rw [bind_eq] at h1
  obtain ⟨g, t, cs, fuel, p, hg, ht, hv, hd⟩ := h1
  have hg0 : Tryd.prog.globalNamed "hallmark/syntax.bindings" = some 0 := by kernel_rfl
  obtain rfl := Option.some.inj (hg0.symm.trans hg)
  have ht0 : (Tryd.prog.globals[0]?).map (·.type) = some 87 := by kernel_rfl
  obtain rfl := Option.some.inj (ht0.symm.trans ht)
  obtain ⟨xs, m, rfl, hx, hl, hxl, hall⟩ := DataW.trod_array (n := 23) (e := 68) (by kernel_rfl) hd
  have hxs : xs.map (·.1) = U.bindsZ.map bindData := by
    have := congrArg Prod.fst hx
    simpa using this.symm
  have cb : Tryd.prog.cellsOf 68 = 4 := by kernel_rfl
  have ca : Tryd.prog.cellsOf 87 = 92 := by kernel_rfl
  have hbl : U.bindsZ.length = 23 := rfl
  have hcs : cs.toList = U.bindsZ.flatMap bindC := by
    refine flat4 _ _ (by rw [hl, ca, hbl]) (fun i hi => ?_)
    have h2 := hall i (by omega)
    rw [cb] at h2
    obtain ⟨x, hxi⟩ : ∃ x, xs[i]? = some x := ⟨xs[i]'(by omega), List.getElem?_eq_getElem (by omega)⟩
    rw [hxi] at h2
    have h3 : x.1 = bindData U.bindsZ[i] := by
      have := congrArg (·[i]?) hxs
      simp only [List.getElem?_map, hxi, Option.map_some, List.getElem?_eq_getElem hi] at this
      exact Option.some.inj this
    obtain ⟨x1, x2⟩ := x
    simp only at h3
    subst h3
    exact bind_struct h2
  unfold World.var? at hv
  rw [hg0, Option.bind_some] at hv
  split at hv
  · rename_i cs' T fz hh
    obtain rfl := Option.some.inj hv
    refine ⟨T, fz, ?_⟩
    rw [hh]
    have : cs' = U.bindCells.toArray := by
      apply Array.ext'
      rw [hcs]
      rfl
    rw [this]
  · cases hv

namespace Tabs0
/-- an object whose cells are these -/
def put (cs : List Value) : Obj → Obj
  | .cells _ t frozen => .cells cs.toArray t frozen
  | o => o
noncomputable def tabHeap (h : Array Obj) : Array Obj :=
  ((h.modify 0 (put U.bindCells)).modify 1 (put (Lib.firstTab.map fun c => Value.int .u8 c))).modify 2 (put (([128, 191, 160, 191, 128, 159, 144, 191, 128, 143, 0, 0, 0, 0, 0, 0, 0, 0, 0, 0, 0, 0, 0, 0, 0, 0, 0, 0, 0, 0, 0, 0] : List Int).map fun c => Value.int .u8 c))
noncomputable def laidWorld (os : Os) : World :=
  { World.holding Tryd.prog os ⟨#[], #[], []⟩ with heap := tabHeap (World.holding Tryd.prog os ⟨#[], #[], []⟩).heap }
theorem laid_try (os : Os) : laidMet Tryd.prog Rows.syntaxKnownRow.laid ((laidWorld os).forCall (fun _ _ => 0) ⟨#[], #[], []⟩).memory :=
  laidMet_of_run' 8 (by kernel_rfl) (by kernel_rfl)
end Tabs0
end Go.Proofs.YthlmhnlfcnpocaaDoor

/- SyntaxBrackets: a filter's text in brackets is read as the same filter, or nests too deep. -/
import Derived.Test.YthlmhnlfcnpocaaDoorParseAll
import Derived.Test.YthlmhnlfcnpocaaDoorSame17
import Derived.Test.YthlmhnlfcnpocaaDoorShift
namespace Go.Proofs.YthlmhnlfcnpocaaDoor.U
open Go.RowKit Go.Proofs.YthlmhnlfcnpocaaDoorW.PrintWords
set_option linter.unusedSimpArgs false
set_option linter.unusedVariables false

section
variable {ops : Array Oper} {rest : List Oper} {o : Oper} {a : Act} {w : World} {Q : Exit → Act → World → Prop}
/-- a filter is read out of a variable, where the operation is wanted -/
theorem ld_nodeG (hgd : Region.wanted o (yielded ops a.tmps) = true) (x : Operand) (ho : o.op = .load 28 x) (g : Nat) (hx : a.eval x = .pointer (some ⟨g, 0, none⟩)) (cs : Array Value) (hg : w.heap[g]? = some (.cells cs 28 (0, 0))) (hs : cs.size = 10)
    (h : wpList Tryd.prog ops Q rest (a.put o.dst (.agg cs)) w) : wpList Tryd.prog ops Q (o :: rest) a w := by
  obtain ⟨l, hu⟩ := nodeU
  refine wpList_step fun K hK => ?_
  rw [if_pos hgd]
  unfold Oper.wp execOp
  simp only [ho, hx, Instr.loadAt, Instr.sureAddr, Sem.run_bind, Sem.run_pure, Result.andThen_ok, run_loadVar_row w g 28 28 cs (0, 0) _ hg hu rfl (by rw [nodeZ, hs])]
  exact hK _ _ h
end
theorem one_more (s : ByteArray) : ((⟨#[40]⟩ : ByteArray) ++ s).size = s.size + 1 := by
  rw [ByteArray.size_append, Nat.add_comm]
  rfl
theorem triple {α β γ : Type} (x : α × β × γ) : ∃ a b c, x = (a, b, c) := ⟨x.1, x.2.1, x.2.2, rfl⟩
set_option maxHeartbeats 8000000 in
set_option maxRecDepth 100000 in
theorem brackets_calls (s : ByteArray) (hs : s.size ≤ 1048576) (W : World) (hT : Tabs W) (hB : BinAt W) : Calls Tryd.prog 3 #[.string s] W fun e w' => e = .returned (.bool true) ∧ Below W.heap.size W w' := by
  have HT := Lib.hid hT
  have HB := Lib.hid hB
  have hz : (((⟨#[40]⟩ : ByteArray) ++ s) ++ (⟨#[10, 41]⟩ : ByteArray)).size = s.size + 3 := (br_of s).size
  have hz1 : ((⟨#[40]⟩ : ByteArray) ++ s).size = s.size + 1 := one_more s
  have hsz0 : s.size ≤ 1073741824 := by omega
  obtain ⟨n1, e1, a1, h1⟩ := triple (parseZ s)
  obtain ⟨n2, e2, a2, h2⟩ := triple (parseZ (((⟨#[40]⟩ : ByteArray) ++ s) ++ (⟨#[10, 41]⟩ : ByteArray)))
  have H1 := Lib.hid h1
  have H2 := Lib.hid h2
  have hcase := bracket_cases s hsz0 n1 n2 e1 a1 e2 a2 h1 h2
  clear hT hB h1 h2
  rcases hcase with hne | ⟨rfl, hcase⟩
  · have hb : (e1 == 0) = false := beq_eq_false_iff_ne.2 hne
    go_enter Tryd.func3, Tryd.ntmps3
    go_wp2_with (first
      | (go_at_call 6; (with_reducible refine (parse_calls s hsz0 _ HT.out HB.out).mono ?_); rintro e0 w1 ⟨c, rfl, hn, hb1⟩; rw [H1.out] at hn ⊢; have hsz := hn.size; have hone := hn.one; have Hb1 := Lib.hid hb1; clear hn hb1)
      | (refine st_nodeO rfl _ _ rfl w1.heap.size c rfl rfl zeroN (heap_alloc_new w1 (.cells zeroN 28 (0, 0))) hsz rfl hone ?_; intro w2 hw2; obtain ⟨hb2, hr2, hz2⟩ := laid_node hw2; have Hb2 := Lib.hid (below_join Hb1.out hb2); clear hw2 hb2 hr2)
      | (go_at_call 6; (with_reducible refine (parse_calls (((⟨#[40]⟩ : ByteArray) ++ s) ++ (⟨#[10, 41]⟩ : ByteArray)) (by rw [hz]; omega) _ (HT.out.below Hb2.out) (HB.out.below Hb2.out)).mono ?_); rintro e0 w3 ⟨c3, rfl, hn, hb3⟩; rw [H2.out] at hn ⊢; have hsz3 := hn.size; have hone3 := hn.one; have Hb3 := Lib.hid (below_join Hb2.out hb3); clear hn hb3)
      | (refine st_nodeO rfl _ _ rfl w3.heap.size c3 rfl rfl zeroN (heap_alloc_new w3 (.cells zeroN 28 (0, 0))) hsz3 rfl hone3 ?_; intro w4 hw4; obtain ⟨hb4, -, -⟩ := laid_node hw4; have Hb4 := Lib.hid (below_join Hb3.out hb4); clear hw4 hb4)
      | (go_at_call 8; (with_reducible refine (works_calls _ (HT.out.below Hb4.out) (HB.out.below Hb4.out)).mono ?_); rintro e0 w7 ⟨rfl, hb10⟩; have Hb10 := Lib.hid (below_join Hb4.out hb10); clear hb10))
    go_ret
    exact ⟨rfl, Hb10.out⟩
  · rcases hcase with ⟨rfl, hal⟩ | rfl
    · have HA := Lib.hid hal
      clear hal
      go_enter Tryd.func3, Tryd.ntmps3
      go_wp2_with (first
        | (go_at_call 6; (with_reducible refine (parse_calls s hsz0 _ HT.out HB.out).mono ?_); rintro e0 w1 ⟨c, rfl, hn, hb1⟩; rw [H1.out] at hn ⊢; have Hn1 := Lib.hid hn; have hsz := hn.size; have hone := hn.one; have Hb1 := Lib.hid hb1; clear hn hb1)
        | (refine st_nodeO rfl _ _ rfl w1.heap.size c rfl rfl zeroN (heap_alloc_new w1 (.cells zeroN 28 (0, 0))) hsz rfl hone ?_; intro w2 hw2; obtain ⟨hb2, hr2, hz2⟩ := laid_node hw2; have Hb2 := Lib.hid (below_join Hb1.out hb2); have Hb2' := Lib.hid hb2; have Hr2 := Lib.hid hr2; clear hw2 hb2 hr2)
        | (go_at_call 6; (with_reducible refine (parse_calls (((⟨#[40]⟩ : ByteArray) ++ s) ++ (⟨#[10, 41]⟩ : ByteArray)) (by rw [hz]; omega) _ (HT.out.below Hb2.out) (HB.out.below Hb2.out)).mono ?_); rintro e0 w3 ⟨c3, rfl, hn, hb3⟩; rw [H2.out] at hn ⊢; have Hn2 := Lib.hid hn; have hsz3 := hn.size; have hone3 := hn.one; have Hb3' := Lib.hid hb3; have Hb3 := Lib.hid (below_join Hb2.out hb3); clear hn hb3)
        | (refine st_nodeO rfl _ _ rfl w3.heap.size c3 rfl rfl zeroN (heap_alloc_new w3 (.cells zeroN 28 (0, 0))) hsz3 rfl hone3 ?_; intro w4 hw4; obtain ⟨hb4, hr4, -⟩ := laid_node hw4; have Hb4 := Lib.hid (below_join Hb3.out hb4); have HR1 := Lib.hid (row_below (row_below Hr2.out Hb3'.out) hb4); have HR2 := Lib.hid hr4; have HN1 := Lib.hid (Hn1.out.carry (F' := fun _ => True) fun k _ hk => ⟨trivial, (((below_join Hb2'.out (below_join Hb3'.out hb4)).block k hk))⟩); have HN2 := Lib.hid (Hn2.out.carry (F' := fun _ => True) fun k _ hk => ⟨trivial, hb4.block k hk⟩); clear hw4 hb4 hr4)
        | (refine ld_nodeG (by rfl) _ rfl w1.heap.size rfl c HR1.out hsz ?_)
        | (refine ld_nodeG (by rfl) _ rfl w3.heap.size rfl c3 HR2.out hsz3 ?_)
        | (go_at_call 7; (with_reducible refine (same_true _ n1 n2 (Nat.le_refl _) HA.out _ _ _ c c3 HN1.out HN2.out).mono ?_); rintro e0 w5 ⟨rfl, hb5⟩; have Hb5 := Lib.hid (below_join Hb4.out hb5); clear hb5)
        | (go_at_call 8; (with_reducible refine (works_calls _ (HT.out.below Hb5.out) (HB.out.below Hb5.out)).mono ?_); rintro e0 w7 ⟨rfl, hb10⟩; have Hb10 := Lib.hid (below_join Hb5.out hb10); clear hb10))
      go_ret
      exact ⟨rfl, Hb10.out⟩
    · go_enter Tryd.func3, Tryd.ntmps3
      go_wp2_with (first
        | (go_at_call 6; (with_reducible refine (parse_calls s hsz0 _ HT.out HB.out).mono ?_); rintro e0 w1 ⟨c, rfl, hn, hb1⟩; rw [H1.out] at hn ⊢; have hsz := hn.size; have hone := hn.one; have Hb1 := Lib.hid hb1; clear hn hb1)
        | (refine st_nodeO rfl _ _ rfl w1.heap.size c rfl rfl zeroN (heap_alloc_new w1 (.cells zeroN 28 (0, 0))) hsz rfl hone ?_; intro w2 hw2; obtain ⟨hb2, hr2, hz2⟩ := laid_node hw2; have Hb2 := Lib.hid (below_join Hb1.out hb2); clear hw2 hb2 hr2)
        | (go_at_call 6; (with_reducible refine (parse_calls (((⟨#[40]⟩ : ByteArray) ++ s) ++ (⟨#[10, 41]⟩ : ByteArray)) (by rw [hz]; omega) _ (HT.out.below Hb2.out) (HB.out.below Hb2.out)).mono ?_); rintro e0 w3 ⟨c3, rfl, hn, hb3⟩; rw [H2.out] at hn ⊢; have hsz3 := hn.size; have hone3 := hn.one; have Hb3 := Lib.hid (below_join Hb2.out hb3); clear hn hb3)
        | (refine st_nodeO rfl _ _ rfl w3.heap.size c3 rfl rfl zeroN (heap_alloc_new w3 (.cells zeroN 28 (0, 0))) hsz3 rfl hone3 ?_; intro w4 hw4; obtain ⟨hb4, -, -⟩ := laid_node hw4; have Hb4 := Lib.hid (below_join Hb3.out hb4); clear hw4 hb4)
        | (go_at_call 8; (with_reducible refine (works_calls _ (HT.out.below Hb4.out) (HB.out.below Hb4.out)).mono ?_); rintro e0 w7 ⟨rfl, hb10⟩; have Hb10 := Lib.hid (below_join Hb4.out hb10); clear hb10))
      go_ret
      exact ⟨rfl, Hb10.out⟩
end Go.Proofs.YthlmhnlfcnpocaaDoor.U

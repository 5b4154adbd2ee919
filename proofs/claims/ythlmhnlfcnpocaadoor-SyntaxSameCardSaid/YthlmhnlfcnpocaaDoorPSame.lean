/- SyntaxSame: of any two filters the program's Same answers as the reference's, either way round; each is like itself. -/
import Derived.Test.YthlmhnlfcnpocaaDoorGenC
import Derived.Test.YthlmhnlfcnpocaaDoorGenE
import Derived.Test.YthlmhnlfcnpocaaDoorParseAll
namespace Go.Proofs.YthlmhnlfcnpocaaDoor.U
open Go.RowKit Go.Proofs.YthlmhnlfcnpocaaDoorW.PrintWords
set_option linter.unusedSimpArgs false
set_option linter.unusedVariables false

theorem dec_symm {α : Type} [DecidableEq α] (x y : α) : decide (x = y) = decide (y = x) := decide_eq_decide.2 ⟨Eq.symm, Eq.symm⟩
mutual
theorem sameV_symm : ∀ x y : GV, sameV x y = sameV y x
  | .mk k n t is ks, .mk k' n' t' is' ks' => by rw [sameV, sameV, sameVL_symm is is', dec_symm k, dec_symm n, dec_symm t, dec_symm is.length, dec_symm ks]
theorem sameVL_symm : ∀ x y : List GV, sameVL x y = sameVL y x
  | [], [] => rfl
  | [], _ :: _ => rfl
  | _ :: _, [] => rfl
  | x :: l, y :: m => by rw [sameVL, sameVL, sameV_symm x y, sameVL_symm l m]
end
mutual
theorem sameN_symm : ∀ x y : GN, sameN x y = sameN y x
  | .mk op _ t v ns l, .mk op' _ t' v' ns' l' => by rw [sameN, sameN, sameNL_symm l l', sameV_symm v v', dec_symm op, dec_symm t, dec_symm ns, dec_symm l.length]
theorem sameNL_symm : ∀ x y : List GN, sameNL x y = sameNL y x
  | [], [] => rfl
  | [], _ :: _ => rfl
  | _ :: _, [] => rfl
  | x :: l, y :: m => by rw [sameNL, sameNL, sameN_symm x y, sameNL_symm l m]
end
mutual
theorem sameV_refl : ∀ x : GV, sameV x x = true
  | .mk k n t is ks => by rw [sameV, sameVL_refl is]; simp
theorem sameVL_refl : ∀ x : List GV, sameVL x x = true
  | [] => rfl
  | x :: l => by rw [sameVL, sameV_refl x, sameVL_refl l]; rfl
end
mutual
theorem sameN_refl : ∀ x : GN, sameN x x = true
  | .mk op _ t v ns l => by rw [sameN, sameNL_refl l, sameV_refl v]; simp
theorem sameNL_refl : ∀ x : List GN, sameNL x x = true
  | [] => rfl
  | x :: l => by rw [sameNL, sameN_refl x, sameNL_refl l]; rfl
end
/-- what a call leaves of the two filters' boxes -/
theorem keep {W w w' : World} {A B : Obj} {g h : Nat} (hS : w.heap[g]? = some A ∧ w.heap[h]? = some B ∧ Below W.heap.size W w) (hb : Below w.heap.size w w') : w'.heap[g]? = some A ∧ w'.heap[h]? = some B ∧ Below W.heap.size W w' :=
  ⟨(hb.block _ (Array.getElem?_eq_some_iff.1 hS.1).1).trans hS.1, (hb.block _ (Array.getElem?_eq_some_iff.1 hS.2.1).1).trans hS.2.1, hS.2.2.trans (hb.mono hS.2.2.size)⟩
theorem works_at {W : World} (hT : Hid (Tabs W)) (hB : Hid (BinAt W)) (W' : World) (hb : Below W.heap.size W W') : Calls Tryd.prog 8 #[] W' fun e w' => e = .returned (.bool true) ∧ Below W'.heap.size W' w' :=
  works_calls W' (hT.out.below hb) (hB.out.below hb)
set_option maxHeartbeats 16000000 in
set_option maxRecDepth 100000 in
theorem same_law (x y : GN) (W : World) (cx cy : List Value) (hx : RN W cx x) (hy : RN W cy y) (hT : Tabs W) (hB : BinAt W) :
    Calls Tryd.prog 5 #[.agg cx.toArray, .agg cy.toArray] W fun e w' => e = .returned (.bool true) ∧ Below W.heap.size W w' := by
  have HT := Lib.hid hT
  have HB := Lib.hid hB
  have c1 := fun (W' : World) (hb : Below W.heap.size W W') => synSame_calls _ x y (Nat.le_refl _) W' cx cy (hx.move hb) (hy.move hb)
  have c2 := fun (W' : World) (hb : Below W.heap.size W W') => refSame_calls _ x y (Nat.le_refl _) W' cx cy (hx.move hb) (hy.move hb)
  have c3 := fun (W' : World) (hb : Below W.heap.size W W') => synSame_calls _ y x (Nat.le_refl _) W' cy cx (hy.move hb) (hx.move hb)
  have c4 := fun (W' : World) (hb : Below W.heap.size W W') => synSame_calls _ x x (Nat.le_refl _) W' cx cx (hx.move hb) (hx.move hb)
  rw [sameN_symm y x] at c3
  rw [sameN_refl] at c4
  have hsx : cx.toArray.size = 10 := by rw [List.size_toArray]; exact hx.len
  have hsy : cy.toArray.size = 10 := by rw [List.size_toArray]; exact hy.len
  generalize sameN x y = b at c1 c2 c3
  generalize cx.toArray = CX at *
  generalize cy.toArray = CY at *
  have C1 := Lib.hid c1
  have C2 := Lib.hid c2
  have C3 := Lib.hid c3
  have C4 := Lib.hid c4
  have hW : ∀ A B : Obj, Below W.heap.size W ((W.alloc A).alloc B) := fun A B => Below.alloc (Below.alloc (Below.refl _ W) (Nat.le_refl _) _) (by simp) _
  have hA : ∀ A B : Obj, ((W.alloc A).alloc B).heap[W.heap.size]? = some A ∧ ((W.alloc A).alloc B).heap[W.heap.size + 1]? = some B ∧ ((W.alloc A).alloc B).heap.size = W.heap.size + 2 := fun A B => by
    obtain ⟨_, e1, e2⟩ := two_box (Below.refl _ ((W.alloc A).alloc B))
    exact ⟨e1, e2, by simp⟩
  clear hx hy c1 c2 c3 c4 hT hB
  go_enter Tryd.func5, Tryd.ntmps5
  go_wp2_with fail
  refine region_T (fun w' => w'.heap[W.heap.size]? = some (.cells CX 28 (0, 0)) ∧ w'.heap[W.heap.size + 1]? = some (.cells CY 28 (0, 0)) ∧ Below W.heap.size W w') (fun _ => false) 25 rfl (by kernel_rfl) ?_
  have hS : ((W.alloc (.cells CX 28 (0, 0))).alloc (.cells CY 28 (0, 0))).drew.heap[W.heap.size]? = some (.cells CX 28 (0, 0)) ∧ ((W.alloc (.cells CX 28 (0, 0))).alloc (.cells CY 28 (0, 0))).drew.heap[W.heap.size + 1]? = some (.cells CY 28 (0, 0)) ∧ Below W.heap.size W ((W.alloc (.cells CX 28 (0, 0))).alloc (.cells CY 28 (0, 0))).drew := ⟨(hA _ _).1, (hA _ _).2.1, (hW _ _).drew⟩
  generalize ((W.alloc (.cells CX 28 (0, 0))).alloc (.cells CY 28 (0, 0))).drew = w0 at *
  refine anyT_take (i := 0) (oi := _) (v := (.agg CX)) (d := (some 5)) rfl rfl (by kernel_rfl) (by kernel_rfl) rfl (by kernel_rfl) (by kernel_rfl) (fun _ _ _ h => h) (yl_node _ rfl (by rfl) W.heap.size rfl CX (fun _ h => h.1) hsx) hS ?_
  try simp only [Act.put, List.setIfInBounds_toArray, List.set_cons_zero, List.set_cons_succ]
  refine anyT_take (i := 1) (oi := _) (v := (.agg CY)) (d := (some 6)) rfl rfl (by kernel_rfl) (by kernel_rfl) rfl (by kernel_rfl) (by kernel_rfl) (fun _ _ _ h => h) (yl_node _ rfl (by rfl) (W.heap.size + 1) rfl CY (fun _ h => h.2.1) hsy) hS ?_
  try simp only [Act.put, List.setIfInBounds_toArray, List.set_cons_zero, List.set_cons_succ]
  refine anyT_take (i := 3) (oi := _) (v := (.agg CX)) (d := (some 8)) rfl rfl (by kernel_rfl) (by kernel_rfl) rfl (by kernel_rfl) (by kernel_rfl) (fun _ _ _ h => h) (yl_node _ rfl (by rfl) W.heap.size rfl CX (fun _ h => h.1) hsx) hS ?_
  try simp only [Act.put, List.setIfInBounds_toArray, List.set_cons_zero, List.set_cons_succ]
  refine anyT_take (i := 4) (oi := _) (v := (.agg CY)) (d := (some 9)) rfl rfl (by kernel_rfl) (by kernel_rfl) rfl (by kernel_rfl) (by kernel_rfl) (fun _ _ _ h => h) (yl_node _ rfl (by rfl) (W.heap.size + 1) rfl CY (fun _ h => h.2.1) hsy) hS ?_
  try simp only [Act.put, List.setIfInBounds_toArray, List.set_cons_zero, List.set_cons_succ]
  refine anyT_step (i := 2) (oi := _) rfl (by kernel_rfl) (by rfl) (fun K hK => ?_)
  go_simp
  refine (C1.out _ hS.2.2).mono ?_
  rintro e1 w1 ⟨rfl, hb1⟩
  have hS1 := keep hS hb1
  refine hK.out _ _ (fun h => hS1) ?_
  clear hK K hb1 hS
  have hS := hS1
  clear hS1
  try simp only [Act.put, List.setIfInBounds_toArray, List.set_cons_zero, List.set_cons_succ]
  refine anyT_step (i := 5) (oi := _) rfl (by kernel_rfl) (by rfl) (fun K hK => ?_)
  go_simp
  refine (C2.out _ hS.2.2).mono ?_
  rintro e2 w2 ⟨rfl, hb2⟩
  have hS2 := keep hS hb2
  refine hK.out _ _ (fun h => hS2) ?_
  clear hK K hb2 hS
  have hS := hS2
  clear hS2
  try simp only [Act.put, List.setIfInBounds_toArray, List.set_cons_zero, List.set_cons_succ]
  refine anyT_take (i := 6) (oi := _) (v := (.bool true)) (d := (some 11)) rfl rfl (by kernel_rfl) (by kernel_rfl) rfl (by kernel_rfl) (by kernel_rfl) (fun _ _ _ h => h) (Or.inl ⟨by rfl, fun w hS => by go_simp⟩) hS ?_
  try simp only [Act.put, List.setIfInBounds_toArray, List.set_cons_zero, List.set_cons_succ]
  refine anyT_take (i := 7) (oi := _) (v := (.bool true)) (d := (some 12)) rfl rfl (by kernel_rfl) (by kernel_rfl) rfl (by kernel_rfl) (by kernel_rfl) (fun _ _ _ h => h) (Or.inl ⟨by rfl, fun w hS => by go_simp⟩) hS ?_
  try simp only [Act.put, List.setIfInBounds_toArray, List.set_cons_zero, List.set_cons_succ]
  refine anyT_take (i := 8) (oi := _) (v := (.agg CY)) (d := (some 13)) rfl rfl (by kernel_rfl) (by kernel_rfl) rfl (by kernel_rfl) (by kernel_rfl) (fun _ _ _ h => h) (yl_node _ rfl (by rfl) (W.heap.size + 1) rfl CY (fun _ h => h.2.1) hsy) hS ?_
  try simp only [Act.put, List.setIfInBounds_toArray, List.set_cons_zero, List.set_cons_succ]
  refine anyT_take (i := 9) (oi := _) (v := (.agg CX)) (d := (some 14)) rfl rfl (by kernel_rfl) (by kernel_rfl) rfl (by kernel_rfl) (by kernel_rfl) (fun _ _ _ h => h) (yl_node _ rfl (by rfl) W.heap.size rfl CX (fun _ h => h.1) hsx) hS ?_
  try simp only [Act.put, List.setIfInBounds_toArray, List.set_cons_zero, List.set_cons_succ]
  refine anyT_take (i := 11) (oi := _) (v := (.agg CX)) (d := (some 16)) rfl rfl (by kernel_rfl) (by kernel_rfl) rfl (by kernel_rfl) (by kernel_rfl) (fun _ _ _ h => h) (yl_node _ rfl (by rfl) W.heap.size rfl CX (fun _ h => h.1) hsx) hS ?_
  try simp only [Act.put, List.setIfInBounds_toArray, List.set_cons_zero, List.set_cons_succ]
  refine anyT_take (i := 12) (oi := _) (v := (.agg CY)) (d := (some 17)) rfl rfl (by kernel_rfl) (by kernel_rfl) rfl (by kernel_rfl) (by kernel_rfl) (fun _ _ _ h => h) (yl_node _ rfl (by rfl) (W.heap.size + 1) rfl CY (fun _ h => h.2.1) hsy) hS ?_
  try simp only [Act.put, List.setIfInBounds_toArray, List.set_cons_zero, List.set_cons_succ]
  refine anyT_step (i := 10) (oi := _) rfl (by kernel_rfl) (by rfl) (fun K hK => ?_)
  go_simp
  refine (C3.out _ hS.2.2).mono ?_
  rintro e3 w3 ⟨rfl, hb3⟩
  have hS3 := keep hS hb3
  refine hK.out _ _ (fun h => hS3) ?_
  clear hK K hb3 hS
  have hS := hS3
  clear hS3
  try simp only [Act.put, List.setIfInBounds_toArray, List.set_cons_zero, List.set_cons_succ]
  refine anyT_step (i := 13) (oi := _) rfl (by kernel_rfl) (by rfl) (fun K hK => ?_)
  go_simp
  refine (C1.out _ hS.2.2).mono ?_
  rintro e4 w4 ⟨rfl, hb4⟩
  have hS4 := keep hS hb4
  refine hK.out _ _ (fun h => hS4) ?_
  clear hK K hb4 hS
  have hS := hS4
  clear hS4
  try simp only [Act.put, List.setIfInBounds_toArray, List.set_cons_zero, List.set_cons_succ]
  refine anyT_take (i := 14) (oi := _) (v := (.bool true)) (d := (some 19)) rfl rfl (by kernel_rfl) (by kernel_rfl) rfl (by kernel_rfl) (by kernel_rfl) (fun _ _ _ h => h) (Or.inl ⟨by rfl, fun w hS => by go_simp⟩) hS ?_
  try simp only [Act.put, List.setIfInBounds_toArray, List.set_cons_zero, List.set_cons_succ]
  refine anyT_take (i := 15) (oi := _) (v := (.bool true)) (d := (some 20)) rfl rfl (by kernel_rfl) (by kernel_rfl) rfl (by kernel_rfl) (by kernel_rfl) (fun _ _ _ h => h) (Or.inl ⟨by rfl, fun w hS => by go_simp⟩) hS ?_
  try simp only [Act.put, List.setIfInBounds_toArray, List.set_cons_zero, List.set_cons_succ]
  refine anyT_take (i := 16) (oi := _) (v := (.bool true)) (d := (some 21)) rfl rfl (by kernel_rfl) (by kernel_rfl) rfl (by kernel_rfl) (by kernel_rfl) (fun _ _ _ h => h) (Or.inl ⟨by rfl, fun w hS => by go_simp⟩) hS ?_
  try simp only [Act.put, List.setIfInBounds_toArray, List.set_cons_zero, List.set_cons_succ]
  refine anyT_take (i := 17) (oi := _) (v := (.agg CX)) (d := (some 22)) rfl rfl (by kernel_rfl) (by kernel_rfl) rfl (by kernel_rfl) (by kernel_rfl) (fun _ _ _ h => h) (yl_node _ rfl (by rfl) W.heap.size rfl CX (fun _ h => h.1) hsx) hS ?_
  try simp only [Act.put, List.setIfInBounds_toArray, List.set_cons_zero, List.set_cons_succ]
  refine anyT_take (i := 18) (oi := _) (v := (.agg CX)) (d := (some 23)) rfl rfl (by kernel_rfl) (by kernel_rfl) rfl (by kernel_rfl) (by kernel_rfl) (fun _ _ _ h => h) (yl_node _ rfl (by rfl) W.heap.size rfl CX (fun _ h => h.1) hsx) hS ?_
  try simp only [Act.put, List.setIfInBounds_toArray, List.set_cons_zero, List.set_cons_succ]
  refine anyT_step (i := 19) (oi := _) rfl (by kernel_rfl) (by rfl) (fun K hK => ?_)
  go_simp
  refine (C4.out _ hS.2.2).mono ?_
  rintro e5 w5 ⟨rfl, hb5⟩
  have hS5 := keep hS hb5
  refine hK.out _ _ (fun h => hS5) ?_
  clear hK K hb5 hS
  have hS := hS5
  clear hS5
  try simp only [Act.put, List.setIfInBounds_toArray, List.set_cons_zero, List.set_cons_succ]
  refine anyT_take (i := 20) (oi := _) (v := (.bool true)) (d := (some 25)) rfl rfl (by kernel_rfl) (by kernel_rfl) rfl (by kernel_rfl) (by kernel_rfl) (fun _ _ _ h => h) (Or.inl ⟨by rfl, fun w hS => by go_simp⟩) hS ?_
  try simp only [Act.put, List.setIfInBounds_toArray, List.set_cons_zero, List.set_cons_succ]
  refine anyT_take (i := 21) (oi := _) (v := (.bool true)) (d := (some 26)) rfl rfl (by kernel_rfl) (by kernel_rfl) rfl (by kernel_rfl) (by kernel_rfl) (fun _ _ _ h => h) (Or.inl ⟨by rfl, fun w hS => by go_simp⟩) hS ?_
  try simp only [Act.put, List.setIfInBounds_toArray, List.set_cons_zero, List.set_cons_succ]
  refine anyT_step (i := 22) (oi := _) rfl (by kernel_rfl) (by rfl) (fun K hK => ?_)
  go_simp
  refine (works_at HT HB _ hS.2.2).mono ?_
  rintro e6 w6 ⟨rfl, hb6⟩
  have hS6 := keep hS hb6
  refine hK.out _ _ (fun h => hS6) ?_
  clear hK K hb6 hS
  have hS := hS6
  clear hS6
  try simp only [Act.put, List.setIfInBounds_toArray, List.set_cons_zero, List.set_cons_succ]
  refine anyT_take (i := 23) (oi := _) (v := (.bool true)) (d := (some 28)) rfl rfl (by kernel_rfl) (by kernel_rfl) rfl (by kernel_rfl) (by kernel_rfl) (fun _ _ _ h => h) (Or.inl ⟨by rfl, fun w hS => by go_simp⟩) hS ?_
  try simp only [Act.put, List.setIfInBounds_toArray, List.set_cons_zero, List.set_cons_succ]
  refine anyT_take (i := 24) (oi := _) (v := (.bool true)) (d := (some 4)) rfl rfl (by kernel_rfl) (by kernel_rfl) rfl (by kernel_rfl) (by kernel_rfl) (fun _ _ _ h => h) (Or.inl ⟨by rfl, fun w hS => by go_simp⟩) hS ?_
  try simp only [Act.put, List.setIfInBounds_toArray, List.set_cons_zero, List.set_cons_succ]
  refine anyT_done (by kernel_rfl) ?_ _
  go_wp2
  go_ret
  exact ⟨rfl, hS.2.2⟩
end Go.Proofs.YthlmhnlfcnpocaaDoor.U

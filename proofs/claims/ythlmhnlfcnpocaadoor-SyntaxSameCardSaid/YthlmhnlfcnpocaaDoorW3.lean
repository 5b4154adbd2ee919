/- The walks of syntax's parser: branch. Printed by wip/gensyn.py. -/
import Derived.Test.YthlmhnlfcnpocaaDoorRowAll
import Derived.Test.YthlmhnlfcnpocaaDoorSynAll
namespace Go.Proofs.YthlmhnlfcnpocaaDoor.U
open Go.RowKit Go.Proofs.YthlmhnlfcnpocaaDoorW.PrintWords
set_option linter.unusedSimpArgs false
set_option linter.unusedVariables false

set_option maxHeartbeats 8000000 in
set_option maxRecDepth 100000 in
theorem branch_calls {p : Nat} {vw : Value} {ws : List Tok} {en : Int} {rc : PC → Nat → Int → PR SN} (RC : RcOk p vw ws en rc) {i : Nat} {o : Int} (W : World) (b : Nat) (a : Int) (hb : W.heap[b]? = some (.cells (ndCells 28 a ⟨#[]⟩ 0 ⟨#[]⟩ ⟨#[]⟩ (.slice none 0 0) (.slice none 0 0)) 28 (0, 0))) (r : Except (Int × Int) (SN × Nat × Int)) (hr : branchZ ws en rc a i o = some r) (h : Rw p vw ws en i o W) :
    Calls Tryd.prog 87 #[.pointer (some ⟨p, 0, none⟩), .pointer (some ⟨b, 0, none⟩)] W (EndsB p vw ws en W b r) := by
  have S0 := Lib.hid ((St.startB h b _ hb (by simp [ndCells])).toNil 28)
  clear h hb
  have hok := OkR.nil W.heap.size 10
  go_enter Tryd.func87, Tryd.ntmps87
  rw [branchZ_eq] at hr
  go_wp2_with fail
  have S1 : Hid (St p vw ws en W (fun k => k = p ∨ k = b) (W.heap.size ≤ ·) ([(b, 28, (ndCells 28 a ⟨#[]⟩ 0 ⟨#[]⟩ ⟨#[]⟩ (.slice none 0 0) (.slice none 0 0)))] ++ own 28 (.slice none 0 0) #[]) ([].zip []) i o _) := Lib.hid (S0.out)
  clear S0
  refine region_cut (α := Array Value × SN × Nat × Nat × Nat × Nat × Array Value) (GivesB p b W r) (fun x => (⟨#[(.pointer (some ⟨p, 0, none⟩)), (.pointer (some ⟨b, 0, none⟩)), undef, undef, undef, undef, (.pointer (some ⟨b, 0, none⟩)), (.pointer (some ⟨b, 0, none⟩)), (.pointer (some ⟨b, 9, none⟩)), (.slice none 0 0), (.pointer (some ⟨p, 0, none⟩)), (.agg x.1), (.int .i64 0), (.slice (some ⟨x.2.2.2.1, 0, none⟩) 1 1), (.slice (some ⟨x.2.2.2.2.1, 0, none⟩) 1 x.2.2.2.2.2.1), (.pointer (some ⟨x.2.2.2.2.1, 0, none⟩)), (.pointer (some ⟨b, 0, none⟩)), (.pointer (some ⟨b, 9, none⟩)), undef, undef, undef, undef, undef, undef, undef, undef, undef, undef, undef, undef, undef, undef, undef, undef, undef, undef, undef, undef, undef, undef, undef, undef, undef, undef, undef, undef, undef, undef, undef, undef, undef, undef, undef, undef, undef, undef, undef, undef, undef, undef, undef, undef, undef, undef, undef, undef, undef, undef, undef, undef, undef, undef, undef, undef, undef, undef, undef, undef, undef, undef, undef, undef, undef, undef, undef, undef, undef, undef, undef, undef, undef, undef, undef, undef, undef, undef, undef, undef, undef, undef, undef, undef, undef, undef, undef], []⟩ : Act)) (fun x w' => Hid (br1 ws en rc a x.2.1 x.2.2.1 o = some r) ∧ Hid (x.1.size = 10 ∧ x.1.all (·.oneCell') = true) ∧ Hid (St p vw ws en W (fun k => k = p ∨ k = b) (W.heap.size ≤ ·) ([(b, 28, (ndCells 28 a ⟨#[]⟩ 0 ⟨#[]⟩ ⟨#[]⟩ (.slice none 0 0) (.slice (some ⟨x.2.2.2.2.1, 0, none⟩) 1 x.2.2.2.2.2.1)))] ++ own 28 (.slice (some ⟨x.2.2.2.2.1, 0, none⟩) 1 x.2.2.2.2.2.1) x.2.2.2.2.2.2) ([x.1].zip [x.2.1]) x.2.2.1 o w') ∧ Hid (OkR W.heap.size 10 (.slice (some ⟨x.2.2.2.2.1, 0, none⟩) 1 x.2.2.2.2.2.1) x.2.2.2.2.2.2 1 (flat [x.1]))) (fun c a w hd h => by obtain ⟨x, rfl, rfl, hk⟩ := h; exact ⟨hd, rfl, hk⟩) ?_ ?_
  ·
    refine region_T (fun w => w.cell? ⟨b, 9, none⟩ = some (.slice none 0 0)) (fun j => decide (9 ≤ j)) 14 rfl (by kernel_rfl) ?_
    have S2 := Lib.hid (S1.out.drawn (w' := World.drew _) ⟨1, rfl⟩)
    refine anyT_take (i := 0) (oi := _) (v := (.pointer (some ⟨b, 0, none⟩))) (d := (some 6)) rfl rfl (by kernel_rfl) (by kernel_rfl) rfl (by kernel_rfl) (by kernel_rfl) (fun _ _ _ h => h) (Or.inl ⟨by rfl, fun _ _ => rfl⟩) (S2.out.cell _ _ _ (.head _) 9 (.slice none 0 0) rfl) ?_
    try simp only [Act.put, List.setIfInBounds_toArray, List.set_cons_zero, List.set_cons_succ]
    refine anyT_take (i := 1) (oi := _) (v := (.pointer (some ⟨b, 0, none⟩))) (d := (some 7)) rfl rfl (by kernel_rfl) (by kernel_rfl) rfl (by kernel_rfl) (by kernel_rfl) (fun _ _ _ h => h) (Or.inl ⟨by rfl, fun w hS => by go_simp⟩) (S2.out.cell _ _ _ (.head _) 9 (.slice none 0 0) rfl) ?_
    try simp only [Act.put, List.setIfInBounds_toArray, List.set_cons_zero, List.set_cons_succ]
    refine anyT_take (i := 2) (oi := _) (v := (.pointer (some ⟨b, 9, none⟩))) (d := (some 8)) rfl rfl (by kernel_rfl) (by kernel_rfl) rfl (by kernel_rfl) (by kernel_rfl) (fun _ _ _ h => h) (Or.inl ⟨by rfl, fun w hS => by go_simp⟩) (S2.out.cell _ _ _ (.head _) 9 (.slice none 0 0) rfl) ?_
    try simp only [Act.put, List.setIfInBounds_toArray, List.set_cons_zero, List.set_cons_succ]
    refine anyT_take (i := 3) (oi := _) (v := (.slice none 0 0)) (d := (some 9)) rfl rfl (by kernel_rfl) (by kernel_rfl) rfl (by kernel_rfl) (by kernel_rfl) (fun _ _ _ h => h) (yl_cell 26 _ rfl (by rfl) (by kernel_rfl) _ _ rfl _ (fun _ h => h)) (S2.out.cell _ _ _ (.head _) 9 (.slice none 0 0) rfl) ?_
    try simp only [Act.put, List.setIfInBounds_toArray, List.set_cons_zero, List.set_cons_succ]
    refine anyT_take (i := 4) (oi := _) (v := (.pointer (some ⟨p, 0, none⟩))) (d := (some 10)) rfl rfl (by kernel_rfl) (by kernel_rfl) rfl (by kernel_rfl) (by kernel_rfl) (fun _ _ _ h => h) (Or.inl ⟨by rfl, fun _ _ => rfl⟩) (S2.out.cell _ _ _ (.head _) 9 (.slice none 0 0) rfl) ?_
    try simp only [Act.put, List.setIfInBounds_toArray, List.set_cons_zero, List.set_cons_succ]
    refine anyT_take (i := 6) (oi := _) (v := (.int .i64 0)) (d := (some 12)) rfl rfl (by kernel_rfl) (by kernel_rfl) rfl (by kernel_rfl) (by kernel_rfl) (fun _ _ _ h => h) (Or.inl ⟨by rfl, fun w hS => (by first | (go_simp; done) | (go_simp; rfl))⟩) (S2.out.cell _ _ _ (.head _) 9 (.slice none 0 0) rfl) ?_
    try simp only [Act.put, List.setIfInBounds_toArray, List.set_cons_zero, List.set_cons_succ]
    refine anyT_two (i := 5) (j := 7) (oi := _) (oj := _) rfl rfl (by kernel_rfl) (by rfl) (by rfl) (fun K hK => ?_) (fun K hK => ?_)
    ·
      go_simp
      rcases PR.cases hr with ⟨x6, hz, rfl⟩ | ⟨n3, i4, o5, hz, hr'⟩
      · refine (RC.pipe _ _ _ _ hz S2.out.row).mono ?_
        rintro _ _ ⟨rfl, hk⟩
        exact ⟨rfl, ⟨_, rfl, rfl, S2.out.kep.trans (hk.toq S2.out.mp)⟩⟩
      replace hr := hr'
      clear hr'
      have ho := (RC.even _ _ _ _ _ _ hz).symm
      subst ho
      refine (RC.pipe _ _ _ _ hz S2.out.row).mono ?_
      rintro _ w8 ⟨⟨_, rfl, hn⟩, hrw, hk⟩
      obtain ⟨c7, rfl, S9⟩ := S2.out.made hrw hk hn
      replace S9 := Lib.hid S9
      have hszc7 := S9.out.fst.size
      have honec7 := S9.out.fst.one
      clear hrw hk hn
      clear hz
      refine hK.out _ _ (fun h => (S9.out.cell _ _ _ (.head _) 9 (.slice none 0 0) rfl)) ?_
      clear hK K
      try simp only [Act.put, List.setIfInBounds_toArray, List.set_cons_zero, List.set_cons_succ]
      refine anyT_step (i := 7) (oi := _) rfl (by kernel_rfl) (by rfl) (fun K hK => ?_)
      refine wp_bs_nodes 1 _ rfl [(ndCells 0 0 ⟨#[]⟩ 0 ⟨#[]⟩ ⟨#[]⟩ (.slice none 0 0) (.slice none 0 0))] rfl (by intro c hc; simp only [List.mem_cons, List.not_mem_nil, or_false] at hc; rcases hc with rfl <;> first | assumption | rfl) rfl (by decide) (by decide) ?_
      intro cur2 hcur2
      have S10 := Lib.hid (S9.out.allocAt (w8.heap.size) (by simp) 28 cur2)
      clear S9
      refine hK.out (Act.put _ (some 13) _) _ (fun h => (S10.out.cell _ _ _ (.tail _ (.head _)) 9 (.slice none 0 0) rfl)) ?_
      clear hK K
      try simp only [Act.put, List.setIfInBounds_toArray, List.set_cons_zero, List.set_cons_succ]
      refine anyT_step (i := 8) (oi := _) rfl (by kernel_rfl) (by rfl) (fun K hK => ?_)
      refine wp_app (L := [(w8.heap.size, 28, cur2), (b, 28, (ndCells 28 a ⟨#[]⟩ 0 ⟨#[]⟩ ⟨#[]⟩ (.slice none 0 0) (.slice none 0 0)))]) S10.out hok infoNode nodesU rfl (by decide) (by decide) _ _ rfl rfl _ 1 _ rfl cur2 (S10.out.blk _ _ _ (.head _)) (flat [(ndCells 0 0 ⟨#[]⟩ 0 ⟨#[]⟩ ⟨#[]⟩ (.slice none 0 0) (.slice none 0 0))]) (by simp [flat, ndCells]) (news_at hcur2) (all_one (by simp [ndCells, Value.oneCell'])) (by decide) (by decide) (fun g11 cap12 w13 cur14 S15 hok16 => ?_)
      replace S15 := Lib.hid S15.tl
      refine hK.out (Act.put _ (some 14) _) _ (fun h => (S15.out.cell _ _ _ (.head _) 9 (.slice none 0 0) rfl)) ?_
      clear hK K
      try simp only [Act.put, List.setIfInBounds_toArray, List.set_cons_zero, List.set_cons_succ]
      refine anyT_takeP (i := 9) (oi := _) (v := (.pointer (some ⟨g11, 0, none⟩))) (d := (some 15)) rfl rfl (by kernel_rfl) rfl (by kernel_rfl) (by kernel_rfl) (fun _ _ _ h => h) (Or.inl ⟨by rfl, fun w hS => by first | (go_simp; done) | (go_simp; rfl)⟩) ?_
      try simp only [Act.put, List.setIfInBounds_toArray, List.set_cons_zero, List.set_cons_succ]
      refine anyT_takeP (i := 11) (oi := _) (v := (.pointer (some ⟨b, 0, none⟩))) (d := (some 16)) rfl rfl (by kernel_rfl) rfl (by kernel_rfl) (by kernel_rfl) (fun _ _ _ h => h) (Or.inl ⟨by rfl, fun w hS => by first | (go_simp; done) | (go_simp; rfl)⟩) ?_
      try simp only [Act.put, List.setIfInBounds_toArray, List.set_cons_zero, List.set_cons_succ]
      refine anyT_takeP (i := 12) (oi := _) (v := (.pointer (some ⟨b, 9, none⟩))) (d := (some 17)) rfl rfl (by kernel_rfl) rfl (by kernel_rfl) (by kernel_rfl) (fun _ _ _ h => h) (Or.inl ⟨by rfl, fun w hS => by first | (go_simp; done) | (go_simp; rfl)⟩) ?_
      try simp only [Act.put, List.setIfInBounds_toArray, List.set_cons_zero, List.set_cons_succ]
      refine anyT_two (i := 10) (j := 13) (oi := _) (oj := _) rfl rfl (by kernel_rfl) (by rfl) (by rfl) (fun K hK => ?_) (fun K hK => ?_)
      ·
        refine wp_elem (L := [(b, 28, (ndCells 28 a ⟨#[]⟩ 0 ⟨#[]⟩ ⟨#[]⟩ (.slice none 0 0) (.slice none 0 0)))]) (n := 0) S15.out hok16 rfl hok.1 hszc7 honec7 _ _ rfl rfl rfl (fun w17 cur18 S19 hok20 => ?_)
        replace S19 := Lib.hid S19
        refine hK.out (Act.put _ none _) _ (fun h => by cases h) ?_
        clear hK K
        try simp only [Act.put, List.setIfInBounds_toArray, List.set_cons_zero, List.set_cons_succ]
        refine anyT_step (i := 13) (oi := _) rfl (by kernel_rfl) (by rfl) (fun K hK => ?_)
        refine wp_st_cell _ _ _ rfl (by kernel_rfl) (b) 9 (.slice (some ⟨g11, 0, none⟩) 1 cap12) rfl rfl rfl _ _ (S19.out.blk _ _ _ (.head _)) (by simp [ndCells]) ?_
        refine hK.out (Act.put _ none _) _ (fun h => by cases h) ?_
        clear hK K
        try simp only [Act.put, List.setIfInBounds_toArray, List.set_cons_zero, List.set_cons_succ]
        have S21 : Hid (St p vw ws en W (fun k => k = p ∨ k = b) (W.heap.size ≤ ·) ([(b, 28, (ndCells 28 a ⟨#[]⟩ 0 ⟨#[]⟩ ⟨#[]⟩ (.slice none 0 0) (.slice (some ⟨g11, 0, none⟩) 1 cap12)))] ++ own 28 (.slice (some ⟨g11, 0, none⟩) 1 cap12) cur18) ((c7, n3) :: [].zip []) i4 o _) := Lib.hid (S19.out.setCell 0 _ _ _ rfl 9 (.slice (some ⟨g11, 0, none⟩) 1 cap12) (ndCells 28 a ⟨#[]⟩ 0 ⟨#[]⟩ ⟨#[]⟩ (.slice none 0 0) (.slice (some ⟨g11, 0, none⟩) 1 cap12)) rfl)
        clear S19
        generalize w17.setCell ⟨b, 9, none⟩ (.slice (some ⟨g11, 0, none⟩) 1 cap12) = w22 at S21 ⊢
        refine anyT_done (by kernel_rfl) ?_ _
        have S23 := Lib.hid (St.snoc (vs := []) (l := []) S21.out rfl)
        clear S21
        have hok24 : OkR W.heap.size 10 (.slice (some ⟨g11, 0, none⟩) 1 cap12) cur18 1 (flat [c7]) := by
          have e := hok20
          first | (rw [← flat_append] at e; exact e) | exact e
        refine ⟨(c7, n3, i4, w8.heap.size, g11, cap12, cur18), rfl, Lib.hid hr, Lib.hid ⟨hszc7, honec7⟩, S23, Lib.hid hok24⟩
      ·
        refine wp_st_cell _ _ _ rfl (by kernel_rfl) (b) 9 (.slice (some ⟨g11, 0, none⟩) 1 cap12) rfl rfl rfl _ _ (S15.out.blk _ _ _ (.head _)) (by simp [ndCells]) ?_
        refine hK.out (Act.put _ none _) _ (fun h => by cases h) ?_
        clear hK K
        try simp only [Act.put, List.setIfInBounds_toArray, List.set_cons_zero, List.set_cons_succ]
        have S25 : Hid (St p vw ws en W (fun k => k = p ∨ k = b) (W.heap.size ≤ ·) ([(b, 28, (ndCells 28 a ⟨#[]⟩ 0 ⟨#[]⟩ ⟨#[]⟩ (.slice none 0 0) (.slice (some ⟨g11, 0, none⟩) 1 cap12)))] ++ own 28 (.slice (some ⟨g11, 0, none⟩) 1 cap12) cur14) ((c7, n3) :: [].zip []) i4 o _) := Lib.hid (S15.out.setCell 0 _ _ _ rfl 9 (.slice (some ⟨g11, 0, none⟩) 1 cap12) (ndCells 28 a ⟨#[]⟩ 0 ⟨#[]⟩ ⟨#[]⟩ (.slice none 0 0) (.slice (some ⟨g11, 0, none⟩) 1 cap12)) rfl)
        refine anyT_step (i := 10) (oi := _) rfl (by kernel_rfl) (by rfl) (fun K hK => ?_)
        refine wp_elem (L := [(b, 28, (ndCells 28 a ⟨#[]⟩ 0 ⟨#[]⟩ ⟨#[]⟩ (.slice none 0 0) (.slice (some ⟨g11, 0, none⟩) 1 cap12)))]) (n := 0) S25.out hok16 rfl hok.1 hszc7 honec7 _ _ rfl rfl rfl (fun w26 cur27 S28 hok29 => ?_)
        replace S28 := Lib.hid S28
        refine hK.out (Act.put _ none _) _ (fun h => by cases h) ?_
        clear hK K
        try simp only [Act.put, List.setIfInBounds_toArray, List.set_cons_zero, List.set_cons_succ]
        refine anyT_done (by kernel_rfl) ?_ _
        have S30 := Lib.hid (St.snoc (vs := []) (l := []) S28.out rfl)
        clear S28
        have hok31 : OkR W.heap.size 10 (.slice (some ⟨g11, 0, none⟩) 1 cap12) cur27 1 (flat [c7]) := by
          have e := hok29
          first | (rw [← flat_append] at e; exact e) | exact e
        refine ⟨(c7, n3, i4, w8.heap.size, g11, cap12, cur27), rfl, Lib.hid hr, Lib.hid ⟨hszc7, honec7⟩, S30, Lib.hid hok31⟩
    ·
      refine wp_bs_nodes 1 _ rfl [(ndCells 0 0 ⟨#[]⟩ 0 ⟨#[]⟩ ⟨#[]⟩ (.slice none 0 0) (.slice none 0 0))] rfl (by intro c hc; simp only [List.mem_cons, List.not_mem_nil, or_false] at hc; rcases hc with rfl <;> first | assumption | rfl) rfl (by decide) (by decide) ?_
      intro cur2 hcur2
      have S32 := Lib.hid (S2.out.allocAt (W.heap.size) (by simp) 28 cur2)
      refine hK.out (Act.put _ (some 13) _) _ (fun h => (S32.out.cell _ _ _ (.tail _ (.head _)) 9 (.slice none 0 0) rfl)) ?_
      clear hK K
      try simp only [Act.put, List.setIfInBounds_toArray, List.set_cons_zero, List.set_cons_succ]
      refine anyT_step (i := 5) (oi := _) rfl (by kernel_rfl) (by rfl) (fun K hK => ?_)
      go_simp
      rcases PR.cases hr with ⟨x36, hz, rfl⟩ | ⟨n33, i34, o35, hz, hr'⟩
      · refine (RC.pipe _ _ _ _ hz S32.out.row).mono ?_
        rintro _ _ ⟨rfl, hk⟩
        exact ⟨rfl, ⟨_, rfl, rfl, S32.out.kep.trans (hk.toq S32.out.mp)⟩⟩
      replace hr := hr'
      clear hr'
      have ho := (RC.even _ _ _ _ _ _ hz).symm
      subst ho
      refine (RC.pipe _ _ _ _ hz S32.out.row).mono ?_
      rintro _ w38 ⟨⟨_, rfl, hn⟩, hrw, hk⟩
      obtain ⟨c37, rfl, S39⟩ := S32.out.made hrw hk hn
      replace S39 := Lib.hid S39
      have hszc37 := S39.out.fst.size
      have honec37 := S39.out.fst.one
      clear hrw hk hn
      clear S32
      clear hz
      refine hK.out _ _ (fun h => (S39.out.cell _ _ _ (.tail _ (.head _)) 9 (.slice none 0 0) rfl)) ?_
      clear hK K
      try simp only [Act.put, List.setIfInBounds_toArray, List.set_cons_zero, List.set_cons_succ]
      refine anyT_step (i := 8) (oi := _) rfl (by kernel_rfl) (by rfl) (fun K hK => ?_)
      refine wp_app (L := [(W.heap.size, 28, cur2), (b, 28, (ndCells 28 a ⟨#[]⟩ 0 ⟨#[]⟩ ⟨#[]⟩ (.slice none 0 0) (.slice none 0 0)))]) S39.out hok infoNode nodesU rfl (by decide) (by decide) _ _ rfl rfl _ 1 _ rfl cur2 (S39.out.blk _ _ _ (.head _)) (flat [(ndCells 0 0 ⟨#[]⟩ 0 ⟨#[]⟩ ⟨#[]⟩ (.slice none 0 0) (.slice none 0 0))]) (by simp [flat, ndCells]) (news_at hcur2) (all_one (by simp [ndCells, Value.oneCell'])) (by decide) (by decide) (fun g40 cap41 w42 cur43 S44 hok45 => ?_)
      replace S44 := Lib.hid S44.tl
      refine hK.out (Act.put _ (some 14) _) _ (fun h => (S44.out.cell _ _ _ (.head _) 9 (.slice none 0 0) rfl)) ?_
      clear hK K
      try simp only [Act.put, List.setIfInBounds_toArray, List.set_cons_zero, List.set_cons_succ]
      refine anyT_takeP (i := 9) (oi := _) (v := (.pointer (some ⟨g40, 0, none⟩))) (d := (some 15)) rfl rfl (by kernel_rfl) rfl (by kernel_rfl) (by kernel_rfl) (fun _ _ _ h => h) (Or.inl ⟨by rfl, fun w hS => by first | (go_simp; done) | (go_simp; rfl)⟩) ?_
      try simp only [Act.put, List.setIfInBounds_toArray, List.set_cons_zero, List.set_cons_succ]
      refine anyT_takeP (i := 11) (oi := _) (v := (.pointer (some ⟨b, 0, none⟩))) (d := (some 16)) rfl rfl (by kernel_rfl) rfl (by kernel_rfl) (by kernel_rfl) (fun _ _ _ h => h) (Or.inl ⟨by rfl, fun w hS => by first | (go_simp; done) | (go_simp; rfl)⟩) ?_
      try simp only [Act.put, List.setIfInBounds_toArray, List.set_cons_zero, List.set_cons_succ]
      refine anyT_takeP (i := 12) (oi := _) (v := (.pointer (some ⟨b, 9, none⟩))) (d := (some 17)) rfl rfl (by kernel_rfl) rfl (by kernel_rfl) (by kernel_rfl) (fun _ _ _ h => h) (Or.inl ⟨by rfl, fun w hS => by first | (go_simp; done) | (go_simp; rfl)⟩) ?_
      try simp only [Act.put, List.setIfInBounds_toArray, List.set_cons_zero, List.set_cons_succ]
      refine anyT_two (i := 10) (j := 13) (oi := _) (oj := _) rfl rfl (by kernel_rfl) (by rfl) (by rfl) (fun K hK => ?_) (fun K hK => ?_)
      ·
        refine wp_elem (L := [(b, 28, (ndCells 28 a ⟨#[]⟩ 0 ⟨#[]⟩ ⟨#[]⟩ (.slice none 0 0) (.slice none 0 0)))]) (n := 0) S44.out hok45 rfl hok.1 hszc37 honec37 _ _ rfl rfl rfl (fun w46 cur47 S48 hok49 => ?_)
        replace S48 := Lib.hid S48
        refine hK.out (Act.put _ none _) _ (fun h => by cases h) ?_
        clear hK K
        try simp only [Act.put, List.setIfInBounds_toArray, List.set_cons_zero, List.set_cons_succ]
        refine anyT_step (i := 13) (oi := _) rfl (by kernel_rfl) (by rfl) (fun K hK => ?_)
        refine wp_st_cell _ _ _ rfl (by kernel_rfl) (b) 9 (.slice (some ⟨g40, 0, none⟩) 1 cap41) rfl rfl rfl _ _ (S48.out.blk _ _ _ (.head _)) (by simp [ndCells]) ?_
        refine hK.out (Act.put _ none _) _ (fun h => by cases h) ?_
        clear hK K
        try simp only [Act.put, List.setIfInBounds_toArray, List.set_cons_zero, List.set_cons_succ]
        have S50 : Hid (St p vw ws en W (fun k => k = p ∨ k = b) (W.heap.size ≤ ·) ([(b, 28, (ndCells 28 a ⟨#[]⟩ 0 ⟨#[]⟩ ⟨#[]⟩ (.slice none 0 0) (.slice (some ⟨g40, 0, none⟩) 1 cap41)))] ++ own 28 (.slice (some ⟨g40, 0, none⟩) 1 cap41) cur47) ((c37, n33) :: [].zip []) i34 o _) := Lib.hid (S48.out.setCell 0 _ _ _ rfl 9 (.slice (some ⟨g40, 0, none⟩) 1 cap41) (ndCells 28 a ⟨#[]⟩ 0 ⟨#[]⟩ ⟨#[]⟩ (.slice none 0 0) (.slice (some ⟨g40, 0, none⟩) 1 cap41)) rfl)
        clear S48
        generalize w46.setCell ⟨b, 9, none⟩ (.slice (some ⟨g40, 0, none⟩) 1 cap41) = w51 at S50 ⊢
        refine anyT_done (by kernel_rfl) ?_ _
        have S52 := Lib.hid (St.snoc (vs := []) (l := []) S50.out rfl)
        clear S50
        have hok53 : OkR W.heap.size 10 (.slice (some ⟨g40, 0, none⟩) 1 cap41) cur47 1 (flat [c37]) := by
          have e := hok49
          first | (rw [← flat_append] at e; exact e) | exact e
        refine ⟨(c37, n33, i34, W.heap.size, g40, cap41, cur47), rfl, Lib.hid hr, Lib.hid ⟨hszc37, honec37⟩, S52, Lib.hid hok53⟩
      ·
        refine wp_st_cell _ _ _ rfl (by kernel_rfl) (b) 9 (.slice (some ⟨g40, 0, none⟩) 1 cap41) rfl rfl rfl _ _ (S44.out.blk _ _ _ (.head _)) (by simp [ndCells]) ?_
        refine hK.out (Act.put _ none _) _ (fun h => by cases h) ?_
        clear hK K
        try simp only [Act.put, List.setIfInBounds_toArray, List.set_cons_zero, List.set_cons_succ]
        have S54 : Hid (St p vw ws en W (fun k => k = p ∨ k = b) (W.heap.size ≤ ·) ([(b, 28, (ndCells 28 a ⟨#[]⟩ 0 ⟨#[]⟩ ⟨#[]⟩ (.slice none 0 0) (.slice (some ⟨g40, 0, none⟩) 1 cap41)))] ++ own 28 (.slice (some ⟨g40, 0, none⟩) 1 cap41) cur43) ((c37, n33) :: [].zip []) i34 o _) := Lib.hid (S44.out.setCell 0 _ _ _ rfl 9 (.slice (some ⟨g40, 0, none⟩) 1 cap41) (ndCells 28 a ⟨#[]⟩ 0 ⟨#[]⟩ ⟨#[]⟩ (.slice none 0 0) (.slice (some ⟨g40, 0, none⟩) 1 cap41)) rfl)
        refine anyT_step (i := 10) (oi := _) rfl (by kernel_rfl) (by rfl) (fun K hK => ?_)
        refine wp_elem (L := [(b, 28, (ndCells 28 a ⟨#[]⟩ 0 ⟨#[]⟩ ⟨#[]⟩ (.slice none 0 0) (.slice (some ⟨g40, 0, none⟩) 1 cap41)))]) (n := 0) S54.out hok45 rfl hok.1 hszc37 honec37 _ _ rfl rfl rfl (fun w55 cur56 S57 hok58 => ?_)
        replace S57 := Lib.hid S57
        refine hK.out (Act.put _ none _) _ (fun h => by cases h) ?_
        clear hK K
        try simp only [Act.put, List.setIfInBounds_toArray, List.set_cons_zero, List.set_cons_succ]
        refine anyT_done (by kernel_rfl) ?_ _
        have S59 := Lib.hid (St.snoc (vs := []) (l := []) S57.out rfl)
        clear S57
        have hok60 : OkR W.heap.size 10 (.slice (some ⟨g40, 0, none⟩) 1 cap41) cur56 1 (flat [c37]) := by
          have e := hok58
          first | (rw [← flat_append] at e; exact e) | exact e
        refine ⟨(c37, n33, i34, W.heap.size, g40, cap41, cur56), rfl, Lib.hid hr, Lib.hid ⟨hszc37, honec37⟩, S59, Lib.hid hok60⟩
  ·
    rintro ⟨c61, n62, i63, b64, g65, cap66, cur67⟩ w68 ⟨hr, hcc, S70, hok69⟩
    replace hr := hr.out
    have hszc61 := hcc.out.1
    have honec61 := hcc.out.2
    replace hok69 := hok69.out
    clear hcc
    dsimp only at hr hok69 hszc61 honec61 S70 ⊢
    unfold br1 at hr
    go_wp2_with fail
    rcases PR.cases hr with ⟨x72, hz, rfl⟩ | ⟨u73, i74, o75, hz, hr'⟩
    · refine (want_calls _ ⟨#[116, 104, 101, 110]⟩ _ hz S70.out.row).mono ?_
      rintro _ _ ⟨rfl, hk⟩
      exact ⟨rfl, ⟨rfl, S70.out.kep.trans (hk.toq S70.out.mp)⟩⟩
    replace hr := hr'
    clear hr'
    refine (want_calls _ ⟨#[116, 104, 101, 110]⟩ _ hz S70.out.row).mono ?_
    rintro _ w71 ⟨⟨_, rfl, rfl⟩, hrw, hk⟩
    obtain ⟨rfl, rfl⟩ := wantZ_ok hz
    have S76 := Lib.hid (S70.out.call hrw hk)
    clear S70
    clear hrw hk hz
    go_wp2_with fail
    refine region_cut (α := Array Value × SN × Nat × Nat × Nat × Nat × Array Value) (GivesB p b W r) (fun x => (⟨#[(.pointer (some ⟨p, 0, none⟩)), (.pointer (some ⟨b, 0, none⟩)), undef, undef, undef, undef, (.pointer (some ⟨b, 0, none⟩)), (.pointer (some ⟨b, 0, none⟩)), (.pointer (some ⟨b, 9, none⟩)), (.slice none 0 0), (.pointer (some ⟨p, 0, none⟩)), (.agg c61), (.int .i64 0), (.slice (some ⟨b64, 0, none⟩) 1 1), (.slice (some ⟨g65, 0, none⟩) 1 cap66), (.pointer (some ⟨g65, 0, none⟩)), (.pointer (some ⟨b, 0, none⟩)), (.pointer (some ⟨b, 9, none⟩)), (.pointer (some ⟨p, 0, none⟩)), (.pointer (some ⟨p, 0, none⟩)), (.pointer (some ⟨p, 0, none⟩)), (.tuple #[]), (.pointer (some ⟨b, 0, none⟩)), (.pointer (some ⟨b, 0, none⟩)), (.pointer (some ⟨b, 9, none⟩)), (.slice (some ⟨g65, 0, none⟩) 1 cap66), (.pointer (some ⟨p, 0, none⟩)), (.agg x.1), (.int .i64 1), (.slice (some ⟨x.2.2.2.1, 0, none⟩) 1 1), (.slice (some ⟨x.2.2.2.2.1, 0, none⟩) 2 x.2.2.2.2.2.1), (.pointer (some ⟨x.2.2.2.2.1, 10, none⟩)), (.pointer (some ⟨b, 0, none⟩)), (.pointer (some ⟨b, 9, none⟩)), undef, undef, undef, undef, undef, undef, undef, undef, undef, undef, undef, undef, undef, undef, undef, undef, undef, undef, undef, undef, undef, undef, undef, undef, undef, undef, undef, undef, undef, undef, undef, undef, undef, undef, undef, undef, undef, undef, undef, undef, undef, undef, undef, undef, undef, undef, undef, undef, undef, undef, undef, undef, undef, undef, undef, undef, undef, undef, undef, undef, undef, undef, undef, undef, undef, undef, undef, undef, undef, undef, undef], []⟩ : Act)) (fun x w' => Hid (br2 ws en rc a n62 x.2.1 x.2.2.1 o = some r) ∧ Hid (x.1.size = 10 ∧ x.1.all (·.oneCell') = true) ∧ Hid (St p vw ws en W (fun k => k = p ∨ k = b) (W.heap.size ≤ ·) ([(b, 28, (ndCells 28 a ⟨#[]⟩ 0 ⟨#[]⟩ ⟨#[]⟩ (.slice none 0 0) (.slice (some ⟨x.2.2.2.2.1, 0, none⟩) 2 x.2.2.2.2.2.1)))] ++ own 28 (.slice (some ⟨x.2.2.2.2.1, 0, none⟩) 2 x.2.2.2.2.2.1) x.2.2.2.2.2.2) ([c61, x.1].zip [n62, x.2.1]) x.2.2.1 o w') ∧ Hid (OkR W.heap.size 10 (.slice (some ⟨x.2.2.2.2.1, 0, none⟩) 2 x.2.2.2.2.2.1) x.2.2.2.2.2.2 2 (flat [c61, x.1]))) (fun c a w hd h => by obtain ⟨x, rfl, rfl, hk⟩ := h; exact ⟨hd, rfl, hk⟩) ?_ ?_
    ·
      refine region_T (fun w => w.cell? ⟨b, 9, none⟩ = some (.slice (some ⟨g65, 0, none⟩) 1 cap66)) (fun j => decide (9 ≤ j)) 14 rfl (by kernel_rfl) ?_
      have S77 := Lib.hid (S76.out.drawn (w' := World.drew _) ⟨1, rfl⟩)
      refine anyT_take (i := 0) (oi := _) (v := (.pointer (some ⟨b, 0, none⟩))) (d := (some 22)) rfl rfl (by kernel_rfl) (by kernel_rfl) rfl (by kernel_rfl) (by kernel_rfl) (fun _ _ _ h => h) (Or.inl ⟨by rfl, fun _ _ => rfl⟩) (S77.out.cell _ _ _ (.head _) 9 (.slice (some ⟨g65, 0, none⟩) 1 cap66) rfl) ?_
      try simp only [Act.put, List.setIfInBounds_toArray, List.set_cons_zero, List.set_cons_succ]
      refine anyT_take (i := 1) (oi := _) (v := (.pointer (some ⟨b, 0, none⟩))) (d := (some 23)) rfl rfl (by kernel_rfl) (by kernel_rfl) rfl (by kernel_rfl) (by kernel_rfl) (fun _ _ _ h => h) (Or.inl ⟨by rfl, fun w hS => by go_simp⟩) (S77.out.cell _ _ _ (.head _) 9 (.slice (some ⟨g65, 0, none⟩) 1 cap66) rfl) ?_
      try simp only [Act.put, List.setIfInBounds_toArray, List.set_cons_zero, List.set_cons_succ]
      refine anyT_take (i := 2) (oi := _) (v := (.pointer (some ⟨b, 9, none⟩))) (d := (some 24)) rfl rfl (by kernel_rfl) (by kernel_rfl) rfl (by kernel_rfl) (by kernel_rfl) (fun _ _ _ h => h) (Or.inl ⟨by rfl, fun w hS => by go_simp⟩) (S77.out.cell _ _ _ (.head _) 9 (.slice (some ⟨g65, 0, none⟩) 1 cap66) rfl) ?_
      try simp only [Act.put, List.setIfInBounds_toArray, List.set_cons_zero, List.set_cons_succ]
      refine anyT_take (i := 3) (oi := _) (v := (.slice (some ⟨g65, 0, none⟩) 1 cap66)) (d := (some 25)) rfl rfl (by kernel_rfl) (by kernel_rfl) rfl (by kernel_rfl) (by kernel_rfl) (fun _ _ _ h => h) (yl_cell 26 _ rfl (by rfl) (by kernel_rfl) _ _ rfl _ (fun _ h => h)) (S77.out.cell _ _ _ (.head _) 9 (.slice (some ⟨g65, 0, none⟩) 1 cap66) rfl) ?_
      try simp only [Act.put, List.setIfInBounds_toArray, List.set_cons_zero, List.set_cons_succ]
      refine anyT_take (i := 4) (oi := _) (v := (.pointer (some ⟨p, 0, none⟩))) (d := (some 26)) rfl rfl (by kernel_rfl) (by kernel_rfl) rfl (by kernel_rfl) (by kernel_rfl) (fun _ _ _ h => h) (Or.inl ⟨by rfl, fun _ _ => rfl⟩) (S77.out.cell _ _ _ (.head _) 9 (.slice (some ⟨g65, 0, none⟩) 1 cap66) rfl) ?_
      try simp only [Act.put, List.setIfInBounds_toArray, List.set_cons_zero, List.set_cons_succ]
      refine anyT_take (i := 6) (oi := _) (v := (.int .i64 1)) (d := (some 28)) rfl rfl (by kernel_rfl) (by kernel_rfl) rfl (by kernel_rfl) (by kernel_rfl) (fun _ _ _ h => h) (Or.inl ⟨by rfl, fun w hS => (by first | (go_simp; done) | (go_simp; rfl))⟩) (S77.out.cell _ _ _ (.head _) 9 (.slice (some ⟨g65, 0, none⟩) 1 cap66) rfl) ?_
      try simp only [Act.put, List.setIfInBounds_toArray, List.set_cons_zero, List.set_cons_succ]
      refine anyT_two (i := 5) (j := 7) (oi := _) (oj := _) rfl rfl (by kernel_rfl) (by rfl) (by rfl) (fun K hK => ?_) (fun K hK => ?_)
      ·
        go_simp
        rcases PR.cases hr with ⟨x81, hz, rfl⟩ | ⟨n78, i79, o80, hz, hr'⟩
        · refine (RC.pipe _ _ _ _ hz S77.out.row).mono ?_
          rintro _ _ ⟨rfl, hk⟩
          exact ⟨rfl, ⟨_, rfl, rfl, S77.out.kep.trans (hk.toq S77.out.mp)⟩⟩
        replace hr := hr'
        clear hr'
        have ho := (RC.even _ _ _ _ _ _ hz).symm
        subst ho
        refine (RC.pipe _ _ _ _ hz S77.out.row).mono ?_
        rintro _ w83 ⟨⟨_, rfl, hn⟩, hrw, hk⟩
        obtain ⟨c82, rfl, S84⟩ := S77.out.made hrw hk hn
        replace S84 := Lib.hid S84
        have hszc82 := S84.out.fst.size
        have honec82 := S84.out.fst.one
        clear hrw hk hn
        clear hz
        refine hK.out _ _ (fun h => (S84.out.cell _ _ _ (.head _) 9 (.slice (some ⟨g65, 0, none⟩) 1 cap66) rfl)) ?_
        clear hK K
        try simp only [Act.put, List.setIfInBounds_toArray, List.set_cons_zero, List.set_cons_succ]
        refine anyT_step (i := 7) (oi := _) rfl (by kernel_rfl) (by rfl) (fun K hK => ?_)
        refine wp_bs_nodes 1 _ rfl [(ndCells 0 0 ⟨#[]⟩ 0 ⟨#[]⟩ ⟨#[]⟩ (.slice none 0 0) (.slice none 0 0))] rfl (by intro c hc; simp only [List.mem_cons, List.not_mem_nil, or_false] at hc; rcases hc with rfl <;> first | assumption | rfl) rfl (by decide) (by decide) ?_
        intro cur2 hcur2
        have S85 := Lib.hid (S84.out.allocAt (w83.heap.size) (by simp) 28 cur2)
        clear S84
        refine hK.out (Act.put _ (some 29) _) _ (fun h => (S85.out.cell _ _ _ (.tail _ (.head _)) 9 (.slice (some ⟨g65, 0, none⟩) 1 cap66) rfl)) ?_
        clear hK K
        try simp only [Act.put, List.setIfInBounds_toArray, List.set_cons_zero, List.set_cons_succ]
        refine anyT_step (i := 8) (oi := _) rfl (by kernel_rfl) (by rfl) (fun K hK => ?_)
        refine wp_app (L := [(w83.heap.size, 28, cur2), (b, 28, (ndCells 28 a ⟨#[]⟩ 0 ⟨#[]⟩ ⟨#[]⟩ (.slice none 0 0) (.slice (some ⟨g65, 0, none⟩) 1 cap66)))]) S85.out hok69 infoNode nodesU rfl (by decide) (by decide) _ _ rfl rfl _ 1 _ rfl cur2 (S85.out.blk _ _ _ (.head _)) (flat [(ndCells 0 0 ⟨#[]⟩ 0 ⟨#[]⟩ ⟨#[]⟩ (.slice none 0 0) (.slice none 0 0))]) (by simp [flat, ndCells]) (news_at hcur2) (all_one (by simp [ndCells, Value.oneCell'])) (by decide) (by decide) (fun g86 cap87 w88 cur89 S90 hok91 => ?_)
        replace S90 := Lib.hid S90.tl
        refine hK.out (Act.put _ (some 30) _) _ (fun h => (S90.out.cell _ _ _ (.head _) 9 (.slice (some ⟨g65, 0, none⟩) 1 cap66) rfl)) ?_
        clear hK K
        try simp only [Act.put, List.setIfInBounds_toArray, List.set_cons_zero, List.set_cons_succ]
        refine anyT_takeP (i := 9) (oi := _) (v := (.pointer (some ⟨g86, 10, none⟩))) (d := (some 31)) rfl rfl (by kernel_rfl) rfl (by kernel_rfl) (by kernel_rfl) (fun _ _ _ h => h) (Or.inl ⟨by rfl, fun w hS => by first | (go_simp; done) | (go_simp; rfl)⟩) ?_
        try simp only [Act.put, List.setIfInBounds_toArray, List.set_cons_zero, List.set_cons_succ]
        refine anyT_takeP (i := 11) (oi := _) (v := (.pointer (some ⟨b, 0, none⟩))) (d := (some 32)) rfl rfl (by kernel_rfl) rfl (by kernel_rfl) (by kernel_rfl) (fun _ _ _ h => h) (Or.inl ⟨by rfl, fun w hS => by first | (go_simp; done) | (go_simp; rfl)⟩) ?_
        try simp only [Act.put, List.setIfInBounds_toArray, List.set_cons_zero, List.set_cons_succ]
        refine anyT_takeP (i := 12) (oi := _) (v := (.pointer (some ⟨b, 9, none⟩))) (d := (some 33)) rfl rfl (by kernel_rfl) rfl (by kernel_rfl) (by kernel_rfl) (fun _ _ _ h => h) (Or.inl ⟨by rfl, fun w hS => by first | (go_simp; done) | (go_simp; rfl)⟩) ?_
        try simp only [Act.put, List.setIfInBounds_toArray, List.set_cons_zero, List.set_cons_succ]
        refine anyT_two (i := 10) (j := 13) (oi := _) (oj := _) rfl rfl (by kernel_rfl) (by rfl) (by rfl) (fun K hK => ?_) (fun K hK => ?_)
        ·
          refine wp_elem (L := [(b, 28, (ndCells 28 a ⟨#[]⟩ 0 ⟨#[]⟩ ⟨#[]⟩ (.slice none 0 0) (.slice (some ⟨g65, 0, none⟩) 1 cap66)))]) (n := 1) S90.out hok91 rfl hok69.1 hszc82 honec82 _ _ rfl rfl rfl (fun w92 cur93 S94 hok95 => ?_)
          replace S94 := Lib.hid S94
          refine hK.out (Act.put _ none _) _ (fun h => by cases h) ?_
          clear hK K
          try simp only [Act.put, List.setIfInBounds_toArray, List.set_cons_zero, List.set_cons_succ]
          refine anyT_step (i := 13) (oi := _) rfl (by kernel_rfl) (by rfl) (fun K hK => ?_)
          refine wp_st_cell _ _ _ rfl (by kernel_rfl) (b) 9 (.slice (some ⟨g86, 0, none⟩) 2 cap87) rfl rfl rfl _ _ (S94.out.blk _ _ _ (.head _)) (by simp [ndCells]) ?_
          refine hK.out (Act.put _ none _) _ (fun h => by cases h) ?_
          clear hK K
          try simp only [Act.put, List.setIfInBounds_toArray, List.set_cons_zero, List.set_cons_succ]
          have S96 : Hid (St p vw ws en W (fun k => k = p ∨ k = b) (W.heap.size ≤ ·) ([(b, 28, (ndCells 28 a ⟨#[]⟩ 0 ⟨#[]⟩ ⟨#[]⟩ (.slice none 0 0) (.slice (some ⟨g86, 0, none⟩) 2 cap87)))] ++ own 28 (.slice (some ⟨g86, 0, none⟩) 2 cap87) cur93) ((c82, n78) :: [c61].zip [n62]) i79 o _) := Lib.hid (S94.out.setCell 0 _ _ _ rfl 9 (.slice (some ⟨g86, 0, none⟩) 2 cap87) (ndCells 28 a ⟨#[]⟩ 0 ⟨#[]⟩ ⟨#[]⟩ (.slice none 0 0) (.slice (some ⟨g86, 0, none⟩) 2 cap87)) rfl)
          clear S94
          generalize w92.setCell ⟨b, 9, none⟩ (.slice (some ⟨g86, 0, none⟩) 2 cap87) = w97 at S96 ⊢
          refine anyT_done (by kernel_rfl) ?_ _
          have S98 := Lib.hid (St.snoc (vs := [c61]) (l := [n62]) S96.out rfl)
          clear S96
          have hok99 : OkR W.heap.size 10 (.slice (some ⟨g86, 0, none⟩) 2 cap87) cur93 2 (flat [c61, c82]) := by
            have e := hok95
            first | (rw [← flat_append] at e; exact e) | exact e
          refine ⟨(c82, n78, i79, w83.heap.size, g86, cap87, cur93), rfl, Lib.hid hr, Lib.hid ⟨hszc82, honec82⟩, S98, Lib.hid hok99⟩
        ·
          refine wp_st_cell _ _ _ rfl (by kernel_rfl) (b) 9 (.slice (some ⟨g86, 0, none⟩) 2 cap87) rfl rfl rfl _ _ (S90.out.blk _ _ _ (.head _)) (by simp [ndCells]) ?_
          refine hK.out (Act.put _ none _) _ (fun h => by cases h) ?_
          clear hK K
          try simp only [Act.put, List.setIfInBounds_toArray, List.set_cons_zero, List.set_cons_succ]
          have S100 : Hid (St p vw ws en W (fun k => k = p ∨ k = b) (W.heap.size ≤ ·) ([(b, 28, (ndCells 28 a ⟨#[]⟩ 0 ⟨#[]⟩ ⟨#[]⟩ (.slice none 0 0) (.slice (some ⟨g86, 0, none⟩) 2 cap87)))] ++ own 28 (.slice (some ⟨g86, 0, none⟩) 2 cap87) cur89) ((c82, n78) :: [c61].zip [n62]) i79 o _) := Lib.hid (S90.out.setCell 0 _ _ _ rfl 9 (.slice (some ⟨g86, 0, none⟩) 2 cap87) (ndCells 28 a ⟨#[]⟩ 0 ⟨#[]⟩ ⟨#[]⟩ (.slice none 0 0) (.slice (some ⟨g86, 0, none⟩) 2 cap87)) rfl)
          refine anyT_step (i := 10) (oi := _) rfl (by kernel_rfl) (by rfl) (fun K hK => ?_)
          refine wp_elem (L := [(b, 28, (ndCells 28 a ⟨#[]⟩ 0 ⟨#[]⟩ ⟨#[]⟩ (.slice none 0 0) (.slice (some ⟨g86, 0, none⟩) 2 cap87)))]) (n := 1) S100.out hok91 rfl hok69.1 hszc82 honec82 _ _ rfl rfl rfl (fun w101 cur102 S103 hok104 => ?_)
          replace S103 := Lib.hid S103
          refine hK.out (Act.put _ none _) _ (fun h => by cases h) ?_
          clear hK K
          try simp only [Act.put, List.setIfInBounds_toArray, List.set_cons_zero, List.set_cons_succ]
          refine anyT_done (by kernel_rfl) ?_ _
          have S105 := Lib.hid (St.snoc (vs := [c61]) (l := [n62]) S103.out rfl)
          clear S103
          have hok106 : OkR W.heap.size 10 (.slice (some ⟨g86, 0, none⟩) 2 cap87) cur102 2 (flat [c61, c82]) := by
            have e := hok104
            first | (rw [← flat_append] at e; exact e) | exact e
          refine ⟨(c82, n78, i79, w83.heap.size, g86, cap87, cur102), rfl, Lib.hid hr, Lib.hid ⟨hszc82, honec82⟩, S105, Lib.hid hok106⟩
      ·
        refine wp_bs_nodes 1 _ rfl [(ndCells 0 0 ⟨#[]⟩ 0 ⟨#[]⟩ ⟨#[]⟩ (.slice none 0 0) (.slice none 0 0))] rfl (by intro c hc; simp only [List.mem_cons, List.not_mem_nil, or_false] at hc; rcases hc with rfl <;> first | assumption | rfl) rfl (by decide) (by decide) ?_
        intro cur2 hcur2
        have S107 := Lib.hid (S77.out.allocAt (w71.heap.size) (by simp) 28 cur2)
        refine hK.out (Act.put _ (some 29) _) _ (fun h => (S107.out.cell _ _ _ (.tail _ (.head _)) 9 (.slice (some ⟨g65, 0, none⟩) 1 cap66) rfl)) ?_
        clear hK K
        try simp only [Act.put, List.setIfInBounds_toArray, List.set_cons_zero, List.set_cons_succ]
        refine anyT_step (i := 5) (oi := _) rfl (by kernel_rfl) (by rfl) (fun K hK => ?_)
        go_simp
        rcases PR.cases hr with ⟨x111, hz, rfl⟩ | ⟨n108, i109, o110, hz, hr'⟩
        · refine (RC.pipe _ _ _ _ hz S107.out.row).mono ?_
          rintro _ _ ⟨rfl, hk⟩
          exact ⟨rfl, ⟨_, rfl, rfl, S107.out.kep.trans (hk.toq S107.out.mp)⟩⟩
        replace hr := hr'
        clear hr'
        have ho := (RC.even _ _ _ _ _ _ hz).symm
        subst ho
        refine (RC.pipe _ _ _ _ hz S107.out.row).mono ?_
        rintro _ w113 ⟨⟨_, rfl, hn⟩, hrw, hk⟩
        obtain ⟨c112, rfl, S114⟩ := S107.out.made hrw hk hn
        replace S114 := Lib.hid S114
        have hszc112 := S114.out.fst.size
        have honec112 := S114.out.fst.one
        clear hrw hk hn
        clear S107
        clear hz
        refine hK.out _ _ (fun h => (S114.out.cell _ _ _ (.tail _ (.head _)) 9 (.slice (some ⟨g65, 0, none⟩) 1 cap66) rfl)) ?_
        clear hK K
        try simp only [Act.put, List.setIfInBounds_toArray, List.set_cons_zero, List.set_cons_succ]
        refine anyT_step (i := 8) (oi := _) rfl (by kernel_rfl) (by rfl) (fun K hK => ?_)
        refine wp_app (L := [(w71.heap.size, 28, cur2), (b, 28, (ndCells 28 a ⟨#[]⟩ 0 ⟨#[]⟩ ⟨#[]⟩ (.slice none 0 0) (.slice (some ⟨g65, 0, none⟩) 1 cap66)))]) S114.out hok69 infoNode nodesU rfl (by decide) (by decide) _ _ rfl rfl _ 1 _ rfl cur2 (S114.out.blk _ _ _ (.head _)) (flat [(ndCells 0 0 ⟨#[]⟩ 0 ⟨#[]⟩ ⟨#[]⟩ (.slice none 0 0) (.slice none 0 0))]) (by simp [flat, ndCells]) (news_at hcur2) (all_one (by simp [ndCells, Value.oneCell'])) (by decide) (by decide) (fun g115 cap116 w117 cur118 S119 hok120 => ?_)
        replace S119 := Lib.hid S119.tl
        refine hK.out (Act.put _ (some 30) _) _ (fun h => (S119.out.cell _ _ _ (.head _) 9 (.slice (some ⟨g65, 0, none⟩) 1 cap66) rfl)) ?_
        clear hK K
        try simp only [Act.put, List.setIfInBounds_toArray, List.set_cons_zero, List.set_cons_succ]
        refine anyT_takeP (i := 9) (oi := _) (v := (.pointer (some ⟨g115, 10, none⟩))) (d := (some 31)) rfl rfl (by kernel_rfl) rfl (by kernel_rfl) (by kernel_rfl) (fun _ _ _ h => h) (Or.inl ⟨by rfl, fun w hS => by first | (go_simp; done) | (go_simp; rfl)⟩) ?_
        try simp only [Act.put, List.setIfInBounds_toArray, List.set_cons_zero, List.set_cons_succ]
        refine anyT_takeP (i := 11) (oi := _) (v := (.pointer (some ⟨b, 0, none⟩))) (d := (some 32)) rfl rfl (by kernel_rfl) rfl (by kernel_rfl) (by kernel_rfl) (fun _ _ _ h => h) (Or.inl ⟨by rfl, fun w hS => by first | (go_simp; done) | (go_simp; rfl)⟩) ?_
        try simp only [Act.put, List.setIfInBounds_toArray, List.set_cons_zero, List.set_cons_succ]
        refine anyT_takeP (i := 12) (oi := _) (v := (.pointer (some ⟨b, 9, none⟩))) (d := (some 33)) rfl rfl (by kernel_rfl) rfl (by kernel_rfl) (by kernel_rfl) (fun _ _ _ h => h) (Or.inl ⟨by rfl, fun w hS => by first | (go_simp; done) | (go_simp; rfl)⟩) ?_
        try simp only [Act.put, List.setIfInBounds_toArray, List.set_cons_zero, List.set_cons_succ]
        refine anyT_two (i := 10) (j := 13) (oi := _) (oj := _) rfl rfl (by kernel_rfl) (by rfl) (by rfl) (fun K hK => ?_) (fun K hK => ?_)
        ·
          refine wp_elem (L := [(b, 28, (ndCells 28 a ⟨#[]⟩ 0 ⟨#[]⟩ ⟨#[]⟩ (.slice none 0 0) (.slice (some ⟨g65, 0, none⟩) 1 cap66)))]) (n := 1) S119.out hok120 rfl hok69.1 hszc112 honec112 _ _ rfl rfl rfl (fun w121 cur122 S123 hok124 => ?_)
          replace S123 := Lib.hid S123
          refine hK.out (Act.put _ none _) _ (fun h => by cases h) ?_
          clear hK K
          try simp only [Act.put, List.setIfInBounds_toArray, List.set_cons_zero, List.set_cons_succ]
          refine anyT_step (i := 13) (oi := _) rfl (by kernel_rfl) (by rfl) (fun K hK => ?_)
          refine wp_st_cell _ _ _ rfl (by kernel_rfl) (b) 9 (.slice (some ⟨g115, 0, none⟩) 2 cap116) rfl rfl rfl _ _ (S123.out.blk _ _ _ (.head _)) (by simp [ndCells]) ?_
          refine hK.out (Act.put _ none _) _ (fun h => by cases h) ?_
          clear hK K
          try simp only [Act.put, List.setIfInBounds_toArray, List.set_cons_zero, List.set_cons_succ]
          have S125 : Hid (St p vw ws en W (fun k => k = p ∨ k = b) (W.heap.size ≤ ·) ([(b, 28, (ndCells 28 a ⟨#[]⟩ 0 ⟨#[]⟩ ⟨#[]⟩ (.slice none 0 0) (.slice (some ⟨g115, 0, none⟩) 2 cap116)))] ++ own 28 (.slice (some ⟨g115, 0, none⟩) 2 cap116) cur122) ((c112, n108) :: [c61].zip [n62]) i109 o _) := Lib.hid (S123.out.setCell 0 _ _ _ rfl 9 (.slice (some ⟨g115, 0, none⟩) 2 cap116) (ndCells 28 a ⟨#[]⟩ 0 ⟨#[]⟩ ⟨#[]⟩ (.slice none 0 0) (.slice (some ⟨g115, 0, none⟩) 2 cap116)) rfl)
          clear S123
          generalize w121.setCell ⟨b, 9, none⟩ (.slice (some ⟨g115, 0, none⟩) 2 cap116) = w126 at S125 ⊢
          refine anyT_done (by kernel_rfl) ?_ _
          have S127 := Lib.hid (St.snoc (vs := [c61]) (l := [n62]) S125.out rfl)
          clear S125
          have hok128 : OkR W.heap.size 10 (.slice (some ⟨g115, 0, none⟩) 2 cap116) cur122 2 (flat [c61, c112]) := by
            have e := hok124
            first | (rw [← flat_append] at e; exact e) | exact e
          refine ⟨(c112, n108, i109, w71.heap.size, g115, cap116, cur122), rfl, Lib.hid hr, Lib.hid ⟨hszc112, honec112⟩, S127, Lib.hid hok128⟩
        ·
          refine wp_st_cell _ _ _ rfl (by kernel_rfl) (b) 9 (.slice (some ⟨g115, 0, none⟩) 2 cap116) rfl rfl rfl _ _ (S119.out.blk _ _ _ (.head _)) (by simp [ndCells]) ?_
          refine hK.out (Act.put _ none _) _ (fun h => by cases h) ?_
          clear hK K
          try simp only [Act.put, List.setIfInBounds_toArray, List.set_cons_zero, List.set_cons_succ]
          have S129 : Hid (St p vw ws en W (fun k => k = p ∨ k = b) (W.heap.size ≤ ·) ([(b, 28, (ndCells 28 a ⟨#[]⟩ 0 ⟨#[]⟩ ⟨#[]⟩ (.slice none 0 0) (.slice (some ⟨g115, 0, none⟩) 2 cap116)))] ++ own 28 (.slice (some ⟨g115, 0, none⟩) 2 cap116) cur118) ((c112, n108) :: [c61].zip [n62]) i109 o _) := Lib.hid (S119.out.setCell 0 _ _ _ rfl 9 (.slice (some ⟨g115, 0, none⟩) 2 cap116) (ndCells 28 a ⟨#[]⟩ 0 ⟨#[]⟩ ⟨#[]⟩ (.slice none 0 0) (.slice (some ⟨g115, 0, none⟩) 2 cap116)) rfl)
          refine anyT_step (i := 10) (oi := _) rfl (by kernel_rfl) (by rfl) (fun K hK => ?_)
          refine wp_elem (L := [(b, 28, (ndCells 28 a ⟨#[]⟩ 0 ⟨#[]⟩ ⟨#[]⟩ (.slice none 0 0) (.slice (some ⟨g115, 0, none⟩) 2 cap116)))]) (n := 1) S129.out hok120 rfl hok69.1 hszc112 honec112 _ _ rfl rfl rfl (fun w130 cur131 S132 hok133 => ?_)
          replace S132 := Lib.hid S132
          refine hK.out (Act.put _ none _) _ (fun h => by cases h) ?_
          clear hK K
          try simp only [Act.put, List.setIfInBounds_toArray, List.set_cons_zero, List.set_cons_succ]
          refine anyT_done (by kernel_rfl) ?_ _
          have S134 := Lib.hid (St.snoc (vs := [c61]) (l := [n62]) S132.out rfl)
          clear S132
          have hok135 : OkR W.heap.size 10 (.slice (some ⟨g115, 0, none⟩) 2 cap116) cur131 2 (flat [c61, c112]) := by
            have e := hok133
            first | (rw [← flat_append] at e; exact e) | exact e
          refine ⟨(c112, n108, i109, w71.heap.size, g115, cap116, cur131), rfl, Lib.hid hr, Lib.hid ⟨hszc112, honec112⟩, S134, Lib.hid hok135⟩
    ·
      rintro ⟨c136, n137, i138, b139, g140, cap141, cur142⟩ w143 ⟨hr, hcc, S145, hok144⟩
      replace hr := hr.out
      have hszc136 := hcc.out.1
      have honec136 := hcc.out.2
      replace hok144 := hok144.out
      clear hcc
      dsimp only at hr hok144 hszc136 honec136 S145 ⊢
      unfold br2 at hr
      go_wp2_with fail
      refine (place_calls _ S145.out.row).mono ?_
      rintro _ w146 ⟨rfl, hd⟩
      have S147 := Lib.hid (S145.out.drawn hd)
      clear S145
      clear hd
      go_wp2_with fail
      have S148 := Lib.hid (S147.out.waste (.cells #[.string ⟨#[101, 108, 105, 102]⟩] 9))
      clear S147
      cases hb149 : isZ ws i138 ⟨#[101, 108, 105, 102]⟩ with
      | true =>
        rw [if_pos hb149] at hr
        refine (take_calls _ _ ⟨#[101, 108, 105, 102]⟩ _ true hb149 (cell_top _ _ _ _ (by simp)) S148.out.row).mono ?_
        rintro _ w150 ⟨rfl, hrw, hk⟩
        replace hrw : Rw p vw ws en (i138 + 1) _ _ := hrw
        have S151 := Lib.hid (S148.out.call hrw hk)
        clear hrw hk
        go_wp2_with fail
        have S152 : Hid (St p vw ws en W (fun k => k = p ∨ k = b) (W.heap.size ≤ ·) ([(w150.heap.size, 28, (ndCells 28 (placeZ ws en i138) ⟨#[]⟩ 0 ⟨#[]⟩ ⟨#[]⟩ (.slice none 0 0) (.slice none 0 0))), (b, 28, (ndCells 28 a ⟨#[]⟩ 0 ⟨#[]⟩ ⟨#[]⟩ (.slice none 0 0) (.slice (some ⟨g140, 0, none⟩) 2 cap141)))] ++ own 28 (.slice (some ⟨g140, 0, none⟩) 2 cap141) cur142) ([c61, c136].zip [n62, n137]) (i138 + 1) o _) := Lib.hid (S151.out.allocAt (w150.heap.size) (by simp) 28 (ndCells 28 (placeZ ws en i138) ⟨#[]⟩ 0 ⟨#[]⟩ ⟨#[]⟩ (.slice none 0 0) (.slice none 0 0)))
        clear S151
        rcases PR.cases hr with ⟨xx, hz, rfl⟩ | ⟨n9, i9, o9, hz, hr'⟩
        · refine (RC.branch _ _ _ _ _ _ hz S152.out.row (S152.out.blk _ _ _ (.head _))).mono ?_
          rintro _ _ ⟨rfl, hk⟩
          exact ⟨rfl, rfl, S152.out.keqB (.head _) hk⟩
        replace hr := hr'
        clear hr'
        have ho := (RC.even _ _ _ _ _ _ hz).symm
        subst ho
        cases hr
        refine (RC.branch _ _ _ _ _ _ hz S152.out.row (S152.out.blk _ _ _ (.head _))).mono ?_
        rintro _ w9 ⟨rfl, hrw, hk, c9, hb9, hn9⟩
        replace hrw : Rw p vw ws en i9 o w9 := hrw
        have S153 : Hid (St p vw ws en W (fun k => k = p ∨ k = b) (W.heap.size ≤ ·) ([(w150.heap.size, 28, c9), (b, 28, (ndCells 28 a ⟨#[]⟩ 0 ⟨#[]⟩ ⟨#[]⟩ (.slice none 0 0) (.slice (some ⟨g140, 0, none⟩) 2 cap141)))] ++ own 28 (.slice (some ⟨g140, 0, none⟩) 2 cap141) cur142) ((c9, n9) :: ([c61, c136].zip [n62, n137])) i9 o _) := Lib.hid (S152.out.callB 0 _ _ _ _ _ rfl hrw hk hb9 hn9)
        clear S152
        clear hrw hk hb9 hn9
        have hszc9 := S153.out.fst.size
        have honec9 := S153.out.fst.one
        go_wp2_with fail
        refine region_T (fun _ => True) (fun j => j == 3) 4 rfl (by kernel_rfl) ?_
        have S154 := Lib.hid (S153.out.drawn (w' := World.drew _) ⟨1, rfl⟩)
        clear S153
        refine anyT_step (i := 0) (oi := _) rfl (by kernel_rfl) (by rfl) (fun K hK => ?_)
        go_simp
        refine hK.out _ _ (fun h => trivial) ?_
        clear hK K
        try simp only [Act.put, List.setIfInBounds_toArray, List.set_cons_zero, List.set_cons_succ]
        refine anyT_two (i := 1) (j := 2) (oi := _) (oj := _) rfl rfl (by kernel_rfl) (by rfl) (by rfl) (fun K hK => ?_) (fun K hK => ?_)
        ·
          go_simp
          refine hK.out _ _ (fun h => trivial) ?_
          clear hK K
          try simp only [Act.put, List.setIfInBounds_toArray, List.set_cons_zero, List.set_cons_succ]
          refine anyT_step (i := 2) (oi := _) rfl (by kernel_rfl) (by rfl) (fun K hK => ?_)
          go_simp
          refine hK.out _ _ (fun h => trivial) ?_
          clear hK K
          try simp only [Act.put, List.setIfInBounds_toArray, List.set_cons_zero, List.set_cons_succ]
          refine anyT_step (i := 3) (oi := _) rfl (by kernel_rfl) (by rfl) (fun K hK => ?_)
          go_simp
          refine hK.out _ _ (fun h => by cases h) ?_
          clear hK K
          try simp only [Act.put, List.setIfInBounds_toArray, List.set_cons_zero, List.set_cons_succ]
          refine anyT_done (by kernel_rfl) ?_ _
          have SB := Lib.hid (S154.out.waste (.cells #[.bool false] 4))
          obtain ⟨wB, hwB⟩ : ∃ wB, wB = World.drew (World.alloc w9 (.cells #[.bool false] 4)) := ⟨_, rfl⟩
          rw [show World.alloc (World.drew w9) (.cells #[.bool false] 4) = wB from hwB.symm] at SB
          rw [← hwB]
          clear hwB
          have S155 : Hid (St p vw ws en W (fun k => k = p ∨ k = b) (W.heap.size ≤ ·) ([(w150.heap.size, 28, c9), (b, 28, (ndCells 28 a ⟨#[]⟩ 0 ⟨#[]⟩ ⟨#[]⟩ (.slice none 0 0) (.slice (some ⟨g140, 0, none⟩) 2 cap141)))] ++ own 28 (.slice (some ⟨g140, 0, none⟩) 2 cap141) cur142) ((c9, n9) :: ([c61, c136].zip [n62, n137])) i9 o _) := Lib.hid (SB.out)
          clear SB
          go_wp2_with fail
          refine region_T (fun w => w.cell? ⟨b, 9, none⟩ = some (.slice (some ⟨g140, 0, none⟩) 2 cap141) ∧ w.heap[w150.heap.size]? = some (.cells c9 28 (0, 0))) (fun j => j == 10) 11 rfl (by kernel_rfl) ?_
          have S156 := Lib.hid (S155.out.drawn (w' := World.drew _) ⟨1, rfl⟩)
          clear S155
          refine anyT_take (i := 0) (oi := _) (v := (.pointer (some ⟨b, 0, none⟩))) (d := (some 73)) rfl rfl (by kernel_rfl) (by kernel_rfl) rfl (by kernel_rfl) (by kernel_rfl) (fun _ _ _ h => h) (Or.inl ⟨by rfl, fun _ _ => rfl⟩) ⟨(S156.out.cell _ _ _ (.tail _ (.head _)) 9 (.slice (some ⟨g140, 0, none⟩) 2 cap141) rfl), (S156.out.blk _ _ _ (.head _))⟩ ?_
          try simp only [Act.put, List.setIfInBounds_toArray, List.set_cons_zero, List.set_cons_succ]
          refine anyT_take (i := 1) (oi := _) (v := (.pointer (some ⟨b, 0, none⟩))) (d := (some 74)) rfl rfl (by kernel_rfl) (by kernel_rfl) rfl (by kernel_rfl) (by kernel_rfl) (fun _ _ _ h => h) (Or.inl ⟨by rfl, fun _ _ => rfl⟩) ⟨(S156.out.cell _ _ _ (.tail _ (.head _)) 9 (.slice (some ⟨g140, 0, none⟩) 2 cap141) rfl), (S156.out.blk _ _ _ (.head _))⟩ ?_
          try simp only [Act.put, List.setIfInBounds_toArray, List.set_cons_zero, List.set_cons_succ]
          refine anyT_take (i := 2) (oi := _) (v := (.pointer (some ⟨b, 0, none⟩))) (d := (some 75)) rfl rfl (by kernel_rfl) (by kernel_rfl) rfl (by kernel_rfl) (by kernel_rfl) (fun _ _ _ h => h) (Or.inl ⟨by rfl, fun w hS => by go_simp⟩) ⟨(S156.out.cell _ _ _ (.tail _ (.head _)) 9 (.slice (some ⟨g140, 0, none⟩) 2 cap141) rfl), (S156.out.blk _ _ _ (.head _))⟩ ?_
          try simp only [Act.put, List.setIfInBounds_toArray, List.set_cons_zero, List.set_cons_succ]
          refine anyT_take (i := 3) (oi := _) (v := (.pointer (some ⟨b, 9, none⟩))) (d := (some 76)) rfl rfl (by kernel_rfl) (by kernel_rfl) rfl (by kernel_rfl) (by kernel_rfl) (fun _ _ _ h => h) (Or.inl ⟨by rfl, fun w hS => by go_simp⟩) ⟨(S156.out.cell _ _ _ (.tail _ (.head _)) 9 (.slice (some ⟨g140, 0, none⟩) 2 cap141) rfl), (S156.out.blk _ _ _ (.head _))⟩ ?_
          try simp only [Act.put, List.setIfInBounds_toArray, List.set_cons_zero, List.set_cons_succ]
          refine anyT_take (i := 4) (oi := _) (v := (.slice (some ⟨g140, 0, none⟩) 2 cap141)) (d := (some 77)) rfl rfl (by kernel_rfl) (by kernel_rfl) rfl (by kernel_rfl) (by kernel_rfl) (fun _ _ _ h => h) (yl_cell 26 _ rfl (by rfl) (by kernel_rfl) _ _ rfl _ (fun _ h => h.1)) ⟨(S156.out.cell _ _ _ (.tail _ (.head _)) 9 (.slice (some ⟨g140, 0, none⟩) 2 cap141) rfl), (S156.out.blk _ _ _ (.head _))⟩ ?_
          try simp only [Act.put, List.setIfInBounds_toArray, List.set_cons_zero, List.set_cons_succ]
          refine anyT_take (i := 5) (oi := _) (v := (.agg c9)) (d := (some 78)) rfl rfl (by kernel_rfl) (by kernel_rfl) rfl (by kernel_rfl) (by kernel_rfl) (fun _ _ _ h => h) (yl_node _ rfl (by rfl) _ rfl _ (fun _ h => h.2) hszc9) ⟨(S156.out.cell _ _ _ (.tail _ (.head _)) 9 (.slice (some ⟨g140, 0, none⟩) 2 cap141) rfl), (S156.out.blk _ _ _ (.head _))⟩ ?_
          try simp only [Act.put, List.setIfInBounds_toArray, List.set_cons_zero, List.set_cons_succ]
          refine anyT_step (i := 6) (oi := _) rfl (by kernel_rfl) (by rfl) (fun K hK => ?_)
          refine wp_bs_nodes 1 _ rfl [c9] rfl (by intro c hc; simp only [List.mem_cons, List.not_mem_nil, or_false] at hc; rcases hc with rfl <;> first | assumption | rfl) rfl (by decide) (by decide) ?_
          intro cur2 hcur2
          have S157 := Lib.hid (S156.out.waste (.cells cur2 28))
          clear S156
          refine hK.out (Act.put _ (some 79) _) _ (fun h => ⟨(S157.out.cell _ _ _ (.tail _ (.head _)) 9 (.slice (some ⟨g140, 0, none⟩) 2 cap141) rfl), (S157.out.blk _ _ _ (.head _))⟩) ?_
          clear hK K
          try simp only [Act.put, List.setIfInBounds_toArray, List.set_cons_zero, List.set_cons_succ]
          have S158 : Hid (St p vw ws en W (fun k => k = p ∨ k = b) (W.heap.size ≤ ·) ([(w150.heap.size, 28, c9), (b, 28, (ndCells 28 a ⟨#[]⟩ 0 ⟨#[]⟩ ⟨#[]⟩ (.slice none 0 0) (.slice (some ⟨g140, 0, none⟩) 2 cap141)))] ++ own 28 (.slice (some ⟨g140, 0, none⟩) 2 cap141) cur142) ((c9, n9) :: ([c61, c136].zip [n62, n137])) i9 o _) := Lib.hid (S157.out)
          clear S157
          refine anyT_step (i := 7) (oi := _) rfl (by kernel_rfl) (by rfl) (fun K hK => ?_)
          refine wp_app S158.out hok144 infoNode nodesU rfl (by decide) (by decide) _ _ rfl rfl _ 1 _ rfl cur2 (heap_alloc_new _ _) (flat [c9]) (by simp [flat, hszc9]) (news_at hcur2) (all_one honec9) (by decide) (by first | omega | (simp only [List.length_append, List.length_cons, List.length_nil]; omega)) (fun g159 cap160 w161 cur162 S163 hok164 => ?_)
          replace S163 := Lib.hid S163
          refine hK.out (Act.put _ (some 80) _) _ (fun h => ⟨(S163.out.cell _ _ _ (.tail _ (.head _)) 9 (.slice (some ⟨g140, 0, none⟩) 2 cap141) rfl), (S163.out.blk _ _ _ (.head _))⟩) ?_
          clear hK K
          try simp only [Act.put, List.setIfInBounds_toArray, List.set_cons_zero, List.set_cons_succ]
          refine anyT_step (i := 8) (oi := _) rfl (by kernel_rfl) (by rfl) (fun K hK => ?_)
          go_simp
          refine hK.out _ _ (fun h => ⟨(S163.out.cell _ _ _ (.tail _ (.head _)) 9 (.slice (some ⟨g140, 0, none⟩) 2 cap141) rfl), (S163.out.blk _ _ _ (.head _))⟩) ?_
          clear hK K
          try simp only [Act.put, List.setIfInBounds_toArray, List.set_cons_zero, List.set_cons_succ]
          refine anyT_step (i := 9) (oi := _) rfl (by kernel_rfl) (by rfl) (fun K hK => ?_)
          go_simp
          refine hK.out _ _ (fun h => ⟨(S163.out.cell _ _ _ (.tail _ (.head _)) 9 (.slice (some ⟨g140, 0, none⟩) 2 cap141) rfl), (S163.out.blk _ _ _ (.head _))⟩) ?_
          clear hK K
          try simp only [Act.put, List.setIfInBounds_toArray, List.set_cons_zero, List.set_cons_succ]
          refine anyT_step (i := 10) (oi := _) rfl (by kernel_rfl) (by rfl) (fun K hK => ?_)
          refine wp_st_cell _ _ _ rfl (by kernel_rfl) (b) 9 (.slice (some ⟨g159, 0, none⟩) 3 cap160) rfl rfl rfl _ _ (S163.out.blk _ _ _ (.tail _ (.head _))) (by simp [ndCells]) ?_
          refine hK.out (Act.put _ none _) _ (fun h => by cases h) ?_
          clear hK K
          try simp only [Act.put, List.setIfInBounds_toArray, List.set_cons_zero, List.set_cons_succ]
          have S165 : Hid (St p vw ws en W (fun k => k = p ∨ k = b) (W.heap.size ≤ ·) ([(w150.heap.size, 28, c9), (b, 28, (ndCells 28 a ⟨#[]⟩ 0 ⟨#[]⟩ ⟨#[]⟩ (.slice none 0 0) (.slice (some ⟨g159, 0, none⟩) 3 cap160)))] ++ own 28 (.slice (some ⟨g159, 0, none⟩) 3 cap160) cur162) ((c9, n9) :: ([c61, c136].zip [n62, n137])) i9 o _) := Lib.hid (S163.out.setCell 1 _ _ _ rfl 9 (.slice (some ⟨g159, 0, none⟩) 3 cap160) (ndCells 28 a ⟨#[]⟩ 0 ⟨#[]⟩ ⟨#[]⟩ (.slice none 0 0) (.slice (some ⟨g159, 0, none⟩) 3 cap160)) rfl)
          clear S163
          refine anyT_done (by kernel_rfl) ?_ _
          go_wp2_with fail
          have S166 := Lib.hid (St.snoc (vs := [c61, c136]) (l := [n62, n137]) (St.tl S165.out) rfl)
          clear S165
          have hok167 : OkR W.heap.size 10 (.slice (some ⟨g159, 0, none⟩) 3 cap160) cur162 3 (flat [c61, c136, c9]) := by
            have e := hok164
            first | (rw [← flat_append] at e; exact e) | exact e
          have S168 := Lib.hid (St.shut (L := [(b, 28, (ndCells 28 a ⟨#[]⟩ 0 ⟨#[]⟩ ⟨#[]⟩ (.slice none 0 0) (.slice (some ⟨g159, 0, none⟩) 3 cap160)))]) S166.out [c61, c136, c9] [n62, n137, n9] rfl hok167 (fun z hz => hz) 28 a ⟨#[]⟩)
          clear S166
          first
            | (refine bodyPost_ret (results_none rfl _ _ _) rfl ?_; exact ⟨rfl, S168.out.finB (.head _)⟩)
            | (refine bodyPost_end (results_none rfl _ _ _) rfl ?_; exact ⟨rfl, S168.out.finB (.head _)⟩)
        ·
          go_simp
          refine hK.out _ _ (fun h => trivial) ?_
          clear hK K
          try simp only [Act.put, List.setIfInBounds_toArray, List.set_cons_zero, List.set_cons_succ]
          refine anyT_step (i := 1) (oi := _) rfl (by kernel_rfl) (by rfl) (fun K hK => ?_)
          go_simp
          refine hK.out _ _ (fun h => trivial) ?_
          clear hK K
          try simp only [Act.put, List.setIfInBounds_toArray, List.set_cons_zero, List.set_cons_succ]
          refine anyT_step (i := 3) (oi := _) rfl (by kernel_rfl) (by rfl) (fun K hK => ?_)
          go_simp
          refine hK.out _ _ (fun h => by cases h) ?_
          clear hK K
          try simp only [Act.put, List.setIfInBounds_toArray, List.set_cons_zero, List.set_cons_succ]
          refine anyT_done (by kernel_rfl) ?_ _
          have SB := Lib.hid (S154.out.waste (.cells #[.bool true] 4))
          obtain ⟨wB, hwB⟩ : ∃ wB, wB = World.drew (World.alloc w9 (.cells #[.bool true] 4)) := ⟨_, rfl⟩
          rw [show World.alloc (World.drew w9) (.cells #[.bool true] 4) = wB from hwB.symm] at SB
          rw [← hwB]
          clear hwB
          have S169 : Hid (St p vw ws en W (fun k => k = p ∨ k = b) (W.heap.size ≤ ·) ([(w150.heap.size, 28, c9), (b, 28, (ndCells 28 a ⟨#[]⟩ 0 ⟨#[]⟩ ⟨#[]⟩ (.slice none 0 0) (.slice (some ⟨g140, 0, none⟩) 2 cap141)))] ++ own 28 (.slice (some ⟨g140, 0, none⟩) 2 cap141) cur142) ((c9, n9) :: ([c61, c136].zip [n62, n137])) i9 o _) := Lib.hid (SB.out)
          clear SB
          go_wp2_with (first
            | (refine ld_cell rfl _ _ rfl (by kernel_rfl) _ _ rfl _ (S169.out.cell _ _ _ (.tail _ (.head _)) 9 (.slice (some ⟨g140, 0, none⟩) 2 cap141) rfl) ?_)
            | (refine bs_nodes rfl 1 _ rfl [(ndCells 0 0 ⟨#[]⟩ 0 ⟨#[]⟩ ⟨#[]⟩ (.slice none 0 0) (.slice none 0 0))] rfl (by intro c hc; simp only [List.mem_cons, List.not_mem_nil, or_false] at hc; rcases hc with rfl <;> first | assumption | rfl) rfl (by decide) (by decide) ?_; intro cur2 hcur2; have S170 := Lib.hid (S169.out.allocAt (wB.heap.size) (by simp) 28 cur2))
            | (refine wpList_plain rfl fun K hK => ?_; refine wp_app (L := [(wB.heap.size, 28, cur2), (w150.heap.size, 28, c9), (b, 28, (ndCells 28 a ⟨#[]⟩ 0 ⟨#[]⟩ ⟨#[]⟩ (.slice none 0 0) (.slice (some ⟨g140, 0, none⟩) 2 cap141)))]) S170.out hok144 infoNode nodesU rfl (by decide) (by decide) _ _ rfl rfl _ 1 _ rfl cur2 (S170.out.blk _ _ _ (.head _)) (flat [(ndCells 0 0 ⟨#[]⟩ 0 ⟨#[]⟩ ⟨#[]⟩ (.slice none 0 0) (.slice none 0 0))]) (by simp [flat, ndCells]) (news_at hcur2) (all_one (by simp [ndCells, Value.oneCell'])) (by decide) (by decide) (fun gz capz wz curz SZ hokz => ?_); refine hK _ _ ?_; clear hK K; replace SZ := Lib.hid SZ.tl)
            | (refine st_cellO rfl _ _ _ rfl (by kernel_rfl) (b) 9 (.slice (some ⟨gz, 0, none⟩) 3 capz) rfl rfl rfl _ _ (SZ.out.blk _ _ _ (.tail _ (.head _))) (by simp [ndCells]) ?_; intro wy hwN; have SY : Hid (St p vw ws en W (fun k => k = p ∨ k = b) (W.heap.size ≤ ·) ([(w150.heap.size, 28, c9), (b, 28, (ndCells 28 a ⟨#[]⟩ 0 ⟨#[]⟩ ⟨#[]⟩ (.slice none 0 0) (.slice (some ⟨gz, 0, none⟩) 3 capz)))] ++ own 28 (.slice (some ⟨gz, 0, none⟩) 3 capz) curz) ((c9, n9) :: ([c61, c136].zip [n62, n137])) i9 o wy) := Lib.hid (St.setCellO SZ.out 1 _ _ _ rfl 9 (.slice (some ⟨gz, 0, none⟩) 3 capz) (ndCells 28 a ⟨#[]⟩ 0 ⟨#[]⟩ ⟨#[]⟩ (.slice none 0 0) (.slice (some ⟨gz, 0, none⟩) 3 capz)) rfl hwN); clear hwN)
            | (refine ld_node rfl _ rfl _ rfl _ (SY.out.blk _ _ _ (.head _)) hszc9 ?_)
            | (refine wpList_plain rfl fun K hK => ?_; refine wp_elem (L := [(w150.heap.size, 28, c9), (b, 28, (ndCells 28 a ⟨#[]⟩ 0 ⟨#[]⟩ ⟨#[]⟩ (.slice none 0 0) (.slice (some ⟨gz, 0, none⟩) 3 capz)))]) (n := 2) SY.out hokz rfl hok144.1 hszc9 honec9 _ _ rfl rfl rfl (fun wx curx SX hokx => ?_); refine hK _ _ ?_; clear hK K; replace SX := Lib.hid SX))
          have S171 := Lib.hid (St.snoc (vs := [c61, c136]) (l := [n62, n137]) (St.tl SX.out) rfl)
          clear SX
          have hok172 : OkR W.heap.size 10 (.slice (some ⟨gz, 0, none⟩) 3 capz) curx 3 (flat [c61, c136, c9]) := by
            have e := hokx
            first | (rw [← flat_append] at e; exact e) | exact e
          have S173 := Lib.hid (St.shut (L := [(b, 28, (ndCells 28 a ⟨#[]⟩ 0 ⟨#[]⟩ ⟨#[]⟩ (.slice none 0 0) (.slice (some ⟨gz, 0, none⟩) 3 capz)))]) S171.out [c61, c136, c9] [n62, n137, n9] rfl hok172 (fun z hz => hz) 28 a ⟨#[]⟩)
          clear S171
          first
            | (refine bodyPost_ret (results_none rfl _ _ _) rfl ?_; exact ⟨rfl, S173.out.finB (.head _)⟩)
            | (refine bodyPost_end (results_none rfl _ _ _) rfl ?_; exact ⟨rfl, S173.out.finB (.head _)⟩)
      | false =>
        rw [if_neg (by rw [hb149]; decide)] at hr
        refine (take_calls _ _ ⟨#[101, 108, 105, 102]⟩ _ false hb149 (cell_top _ _ _ _ (by simp)) S148.out.row).mono ?_
        rintro _ w174 ⟨rfl, hrw, hk⟩
        replace hrw : Rw p vw ws en i138 _ _ := hrw
        have S175 := Lib.hid (S148.out.call hrw hk)
        clear hrw hk
        go_wp2_with fail
        have S176 := Lib.hid (S175.out.waste (.cells #[.string ⟨#[101, 108, 115, 101]⟩] 9))
        clear S175
        cases hb177 : isZ ws i138 ⟨#[101, 108, 115, 101]⟩ with
        | true =>
          rw [if_pos hb177] at hr
          refine (take_calls _ _ ⟨#[101, 108, 115, 101]⟩ _ true hb177 (cell_top _ _ _ _ (by simp)) S176.out.row).mono ?_
          rintro _ w178 ⟨rfl, hrw, hk⟩
          replace hrw : Rw p vw ws en (i138 + 1) _ _ := hrw
          have S179 := Lib.hid (S176.out.call hrw hk)
          clear hrw hk
          go_wp2_with fail
          refine region_T (fun w => w.cell? ⟨b, 9, none⟩ = some (.slice (some ⟨g140, 0, none⟩) 2 cap141)) (fun j => decide (9 ≤ j)) 14 rfl (by kernel_rfl) ?_
          have S180 := Lib.hid (S179.out.drawn (w' := World.drew _) ⟨1, rfl⟩)
          clear S179
          refine anyT_take (i := 0) (oi := _) (v := (.pointer (some ⟨b, 0, none⟩))) (d := (some 89)) rfl rfl (by kernel_rfl) (by kernel_rfl) rfl (by kernel_rfl) (by kernel_rfl) (fun _ _ _ h => h) (Or.inl ⟨by rfl, fun _ _ => rfl⟩) (S180.out.cell _ _ _ (.head _) 9 (.slice (some ⟨g140, 0, none⟩) 2 cap141) rfl) ?_
          try simp only [Act.put, List.setIfInBounds_toArray, List.set_cons_zero, List.set_cons_succ]
          refine anyT_take (i := 1) (oi := _) (v := (.pointer (some ⟨b, 0, none⟩))) (d := (some 90)) rfl rfl (by kernel_rfl) (by kernel_rfl) rfl (by kernel_rfl) (by kernel_rfl) (fun _ _ _ h => h) (Or.inl ⟨by rfl, fun w hS => by go_simp⟩) (S180.out.cell _ _ _ (.head _) 9 (.slice (some ⟨g140, 0, none⟩) 2 cap141) rfl) ?_
          try simp only [Act.put, List.setIfInBounds_toArray, List.set_cons_zero, List.set_cons_succ]
          refine anyT_take (i := 2) (oi := _) (v := (.pointer (some ⟨b, 9, none⟩))) (d := (some 91)) rfl rfl (by kernel_rfl) (by kernel_rfl) rfl (by kernel_rfl) (by kernel_rfl) (fun _ _ _ h => h) (Or.inl ⟨by rfl, fun w hS => by go_simp⟩) (S180.out.cell _ _ _ (.head _) 9 (.slice (some ⟨g140, 0, none⟩) 2 cap141) rfl) ?_
          try simp only [Act.put, List.setIfInBounds_toArray, List.set_cons_zero, List.set_cons_succ]
          refine anyT_take (i := 3) (oi := _) (v := (.slice (some ⟨g140, 0, none⟩) 2 cap141)) (d := (some 92)) rfl rfl (by kernel_rfl) (by kernel_rfl) rfl (by kernel_rfl) (by kernel_rfl) (fun _ _ _ h => h) (yl_cell 26 _ rfl (by rfl) (by kernel_rfl) _ _ rfl _ (fun _ h => h)) (S180.out.cell _ _ _ (.head _) 9 (.slice (some ⟨g140, 0, none⟩) 2 cap141) rfl) ?_
          try simp only [Act.put, List.setIfInBounds_toArray, List.set_cons_zero, List.set_cons_succ]
          refine anyT_take (i := 4) (oi := _) (v := (.pointer (some ⟨p, 0, none⟩))) (d := (some 93)) rfl rfl (by kernel_rfl) (by kernel_rfl) rfl (by kernel_rfl) (by kernel_rfl) (fun _ _ _ h => h) (Or.inl ⟨by rfl, fun _ _ => rfl⟩) (S180.out.cell _ _ _ (.head _) 9 (.slice (some ⟨g140, 0, none⟩) 2 cap141) rfl) ?_
          try simp only [Act.put, List.setIfInBounds_toArray, List.set_cons_zero, List.set_cons_succ]
          refine anyT_take (i := 6) (oi := _) (v := (.int .i64 2)) (d := (some 95)) rfl rfl (by kernel_rfl) (by kernel_rfl) rfl (by kernel_rfl) (by kernel_rfl) (fun _ _ _ h => h) (Or.inl ⟨by rfl, fun w hS => (by first | (go_simp; done) | (go_simp; rfl))⟩) (S180.out.cell _ _ _ (.head _) 9 (.slice (some ⟨g140, 0, none⟩) 2 cap141) rfl) ?_
          try simp only [Act.put, List.setIfInBounds_toArray, List.set_cons_zero, List.set_cons_succ]
          refine anyT_two (i := 5) (j := 7) (oi := _) (oj := _) rfl rfl (by kernel_rfl) (by rfl) (by rfl) (fun K hK => ?_) (fun K hK => ?_)
          ·
            go_simp
            rcases PR.cases hr with ⟨x184, hz, rfl⟩ | ⟨n181, i182, o183, hz, hr'⟩
            · refine (RC.pipe _ _ _ _ hz S180.out.row).mono ?_
              rintro _ _ ⟨rfl, hk⟩
              exact ⟨rfl, ⟨rfl, S180.out.kep.trans (hk.toq S180.out.mp)⟩⟩
            replace hr := hr'
            clear hr'
            have ho := (RC.even _ _ _ _ _ _ hz).symm
            subst ho
            refine (RC.pipe _ _ _ _ hz S180.out.row).mono ?_
            rintro _ w186 ⟨⟨_, rfl, hn⟩, hrw, hk⟩
            obtain ⟨c185, rfl, S187⟩ := S180.out.made hrw hk hn
            replace S187 := Lib.hid S187
            have hszc185 := S187.out.fst.size
            have honec185 := S187.out.fst.one
            clear hrw hk hn
            clear hz
            refine hK.out _ _ (fun h => (S187.out.cell _ _ _ (.head _) 9 (.slice (some ⟨g140, 0, none⟩) 2 cap141) rfl)) ?_
            clear hK K
            try simp only [Act.put, List.setIfInBounds_toArray, List.set_cons_zero, List.set_cons_succ]
            refine anyT_step (i := 7) (oi := _) rfl (by kernel_rfl) (by rfl) (fun K hK => ?_)
            refine wp_bs_nodes 1 _ rfl [(ndCells 0 0 ⟨#[]⟩ 0 ⟨#[]⟩ ⟨#[]⟩ (.slice none 0 0) (.slice none 0 0))] rfl (by intro c hc; simp only [List.mem_cons, List.not_mem_nil, or_false] at hc; rcases hc with rfl <;> first | assumption | rfl) rfl (by decide) (by decide) ?_
            intro cur2 hcur2
            have S188 := Lib.hid (S187.out.allocAt (w186.heap.size) (by simp) 28 cur2)
            clear S187
            refine hK.out (Act.put _ (some 96) _) _ (fun h => (S188.out.cell _ _ _ (.tail _ (.head _)) 9 (.slice (some ⟨g140, 0, none⟩) 2 cap141) rfl)) ?_
            clear hK K
            try simp only [Act.put, List.setIfInBounds_toArray, List.set_cons_zero, List.set_cons_succ]
            refine anyT_step (i := 8) (oi := _) rfl (by kernel_rfl) (by rfl) (fun K hK => ?_)
            refine wp_app (L := [(w186.heap.size, 28, cur2), (b, 28, (ndCells 28 a ⟨#[]⟩ 0 ⟨#[]⟩ ⟨#[]⟩ (.slice none 0 0) (.slice (some ⟨g140, 0, none⟩) 2 cap141)))]) S188.out hok144 infoNode nodesU rfl (by decide) (by decide) _ _ rfl rfl _ 1 _ rfl cur2 (S188.out.blk _ _ _ (.head _)) (flat [(ndCells 0 0 ⟨#[]⟩ 0 ⟨#[]⟩ ⟨#[]⟩ (.slice none 0 0) (.slice none 0 0))]) (by simp [flat, ndCells]) (news_at hcur2) (all_one (by simp [ndCells, Value.oneCell'])) (by decide) (by decide) (fun g189 cap190 w191 cur192 S193 hok194 => ?_)
            replace S193 := Lib.hid S193.tl
            refine hK.out (Act.put _ (some 97) _) _ (fun h => (S193.out.cell _ _ _ (.head _) 9 (.slice (some ⟨g140, 0, none⟩) 2 cap141) rfl)) ?_
            clear hK K
            try simp only [Act.put, List.setIfInBounds_toArray, List.set_cons_zero, List.set_cons_succ]
            refine anyT_takeP (i := 9) (oi := _) (v := (.pointer (some ⟨g189, 20, none⟩))) (d := (some 98)) rfl rfl (by kernel_rfl) rfl (by kernel_rfl) (by kernel_rfl) (fun _ _ _ h => h) (Or.inl ⟨by rfl, fun w hS => by first | (go_simp; done) | (go_simp; rfl)⟩) ?_
            try simp only [Act.put, List.setIfInBounds_toArray, List.set_cons_zero, List.set_cons_succ]
            refine anyT_takeP (i := 11) (oi := _) (v := (.pointer (some ⟨b, 0, none⟩))) (d := (some 99)) rfl rfl (by kernel_rfl) rfl (by kernel_rfl) (by kernel_rfl) (fun _ _ _ h => h) (Or.inl ⟨by rfl, fun w hS => by first | (go_simp; done) | (go_simp; rfl)⟩) ?_
            try simp only [Act.put, List.setIfInBounds_toArray, List.set_cons_zero, List.set_cons_succ]
            refine anyT_takeP (i := 12) (oi := _) (v := (.pointer (some ⟨b, 9, none⟩))) (d := (some 100)) rfl rfl (by kernel_rfl) rfl (by kernel_rfl) (by kernel_rfl) (fun _ _ _ h => h) (Or.inl ⟨by rfl, fun w hS => by first | (go_simp; done) | (go_simp; rfl)⟩) ?_
            try simp only [Act.put, List.setIfInBounds_toArray, List.set_cons_zero, List.set_cons_succ]
            refine anyT_two (i := 10) (j := 13) (oi := _) (oj := _) rfl rfl (by kernel_rfl) (by rfl) (by rfl) (fun K hK => ?_) (fun K hK => ?_)
            ·
              refine wp_elem (L := [(b, 28, (ndCells 28 a ⟨#[]⟩ 0 ⟨#[]⟩ ⟨#[]⟩ (.slice none 0 0) (.slice (some ⟨g140, 0, none⟩) 2 cap141)))]) (n := 2) S193.out hok194 rfl hok144.1 hszc185 honec185 _ _ rfl rfl rfl (fun w195 cur196 S197 hok198 => ?_)
              replace S197 := Lib.hid S197
              refine hK.out (Act.put _ none _) _ (fun h => by cases h) ?_
              clear hK K
              try simp only [Act.put, List.setIfInBounds_toArray, List.set_cons_zero, List.set_cons_succ]
              refine anyT_step (i := 13) (oi := _) rfl (by kernel_rfl) (by rfl) (fun K hK => ?_)
              refine wp_st_cell _ _ _ rfl (by kernel_rfl) (b) 9 (.slice (some ⟨g189, 0, none⟩) 3 cap190) rfl rfl rfl _ _ (S197.out.blk _ _ _ (.head _)) (by simp [ndCells]) ?_
              refine hK.out (Act.put _ none _) _ (fun h => by cases h) ?_
              clear hK K
              try simp only [Act.put, List.setIfInBounds_toArray, List.set_cons_zero, List.set_cons_succ]
              have S199 : Hid (St p vw ws en W (fun k => k = p ∨ k = b) (W.heap.size ≤ ·) ([(b, 28, (ndCells 28 a ⟨#[]⟩ 0 ⟨#[]⟩ ⟨#[]⟩ (.slice none 0 0) (.slice (some ⟨g189, 0, none⟩) 3 cap190)))] ++ own 28 (.slice (some ⟨g189, 0, none⟩) 3 cap190) cur196) ((c185, n181) :: [c61, c136].zip [n62, n137]) i182 o _) := Lib.hid (S197.out.setCell 0 _ _ _ rfl 9 (.slice (some ⟨g189, 0, none⟩) 3 cap190) (ndCells 28 a ⟨#[]⟩ 0 ⟨#[]⟩ ⟨#[]⟩ (.slice none 0 0) (.slice (some ⟨g189, 0, none⟩) 3 cap190)) rfl)
              clear S197
              generalize w195.setCell ⟨b, 9, none⟩ (.slice (some ⟨g189, 0, none⟩) 3 cap190) = w200 at S199 ⊢
              refine anyT_done (by kernel_rfl) ?_ _
              have S201 := Lib.hid (St.snoc (vs := [c61, c136]) (l := [n62, n137]) S199.out rfl)
              clear S199
              have hok202 : OkR W.heap.size 10 (.slice (some ⟨g189, 0, none⟩) 3 cap190) cur196 3 (flat [c61, c136, c185]) := by
                have e := hok198
                first | (rw [← flat_append] at e; exact e) | exact e
              go_wp2_with fail
              rcases PR.cases hr with ⟨x204, hz, rfl⟩ | ⟨u205, i206, o207, hz, hr'⟩
              · refine (want_calls _ ⟨#[101, 110, 100]⟩ _ hz S201.out.row).mono ?_
                rintro _ _ ⟨rfl, hk⟩
                exact ⟨rfl, ⟨rfl, S201.out.kep.trans (hk.toq S201.out.mp)⟩⟩
              replace hr := hr'
              clear hr'
              refine (want_calls _ ⟨#[101, 110, 100]⟩ _ hz S201.out.row).mono ?_
              rintro _ w203 ⟨⟨_, rfl, rfl⟩, hrw, hk⟩
              obtain ⟨rfl, rfl⟩ := wantZ_ok hz
              have S208 := Lib.hid (S201.out.call hrw hk)
              clear S201
              clear hrw hk hz
              cases hr
              go_wp2_with fail
              have S209 := Lib.hid (St.shut (L := [(b, 28, (ndCells 28 a ⟨#[]⟩ 0 ⟨#[]⟩ ⟨#[]⟩ (.slice none 0 0) (.slice (some ⟨g189, 0, none⟩) 3 cap190)))]) S208.out [c61, c136, c185] [n62, n137, n181] rfl hok202 (fun z hz => hz) 28 a ⟨#[]⟩)
              clear S208
              first
                | (refine bodyPost_ret (results_none rfl _ _ _) rfl ?_; exact ⟨rfl, S209.out.finB (.head _)⟩)
                | (refine bodyPost_end (results_none rfl _ _ _) rfl ?_; exact ⟨rfl, S209.out.finB (.head _)⟩)
            ·
              refine wp_st_cell _ _ _ rfl (by kernel_rfl) (b) 9 (.slice (some ⟨g189, 0, none⟩) 3 cap190) rfl rfl rfl _ _ (S193.out.blk _ _ _ (.head _)) (by simp [ndCells]) ?_
              refine hK.out (Act.put _ none _) _ (fun h => by cases h) ?_
              clear hK K
              try simp only [Act.put, List.setIfInBounds_toArray, List.set_cons_zero, List.set_cons_succ]
              have S210 : Hid (St p vw ws en W (fun k => k = p ∨ k = b) (W.heap.size ≤ ·) ([(b, 28, (ndCells 28 a ⟨#[]⟩ 0 ⟨#[]⟩ ⟨#[]⟩ (.slice none 0 0) (.slice (some ⟨g189, 0, none⟩) 3 cap190)))] ++ own 28 (.slice (some ⟨g189, 0, none⟩) 3 cap190) cur192) ((c185, n181) :: [c61, c136].zip [n62, n137]) i182 o _) := Lib.hid (S193.out.setCell 0 _ _ _ rfl 9 (.slice (some ⟨g189, 0, none⟩) 3 cap190) (ndCells 28 a ⟨#[]⟩ 0 ⟨#[]⟩ ⟨#[]⟩ (.slice none 0 0) (.slice (some ⟨g189, 0, none⟩) 3 cap190)) rfl)
              refine anyT_step (i := 10) (oi := _) rfl (by kernel_rfl) (by rfl) (fun K hK => ?_)
              refine wp_elem (L := [(b, 28, (ndCells 28 a ⟨#[]⟩ 0 ⟨#[]⟩ ⟨#[]⟩ (.slice none 0 0) (.slice (some ⟨g189, 0, none⟩) 3 cap190)))]) (n := 2) S210.out hok194 rfl hok144.1 hszc185 honec185 _ _ rfl rfl rfl (fun w211 cur212 S213 hok214 => ?_)
              replace S213 := Lib.hid S213
              refine hK.out (Act.put _ none _) _ (fun h => by cases h) ?_
              clear hK K
              try simp only [Act.put, List.setIfInBounds_toArray, List.set_cons_zero, List.set_cons_succ]
              refine anyT_done (by kernel_rfl) ?_ _
              have S215 := Lib.hid (St.snoc (vs := [c61, c136]) (l := [n62, n137]) S213.out rfl)
              clear S213
              have hok216 : OkR W.heap.size 10 (.slice (some ⟨g189, 0, none⟩) 3 cap190) cur212 3 (flat [c61, c136, c185]) := by
                have e := hok214
                first | (rw [← flat_append] at e; exact e) | exact e
              go_wp2_with fail
              rcases PR.cases hr with ⟨x218, hz, rfl⟩ | ⟨u219, i220, o221, hz, hr'⟩
              · refine (want_calls _ ⟨#[101, 110, 100]⟩ _ hz S215.out.row).mono ?_
                rintro _ _ ⟨rfl, hk⟩
                exact ⟨rfl, ⟨rfl, S215.out.kep.trans (hk.toq S215.out.mp)⟩⟩
              replace hr := hr'
              clear hr'
              refine (want_calls _ ⟨#[101, 110, 100]⟩ _ hz S215.out.row).mono ?_
              rintro _ w217 ⟨⟨_, rfl, rfl⟩, hrw, hk⟩
              obtain ⟨rfl, rfl⟩ := wantZ_ok hz
              have S222 := Lib.hid (S215.out.call hrw hk)
              clear S215
              clear hrw hk hz
              cases hr
              go_wp2_with fail
              have S223 := Lib.hid (St.shut (L := [(b, 28, (ndCells 28 a ⟨#[]⟩ 0 ⟨#[]⟩ ⟨#[]⟩ (.slice none 0 0) (.slice (some ⟨g189, 0, none⟩) 3 cap190)))]) S222.out [c61, c136, c185] [n62, n137, n181] rfl hok216 (fun z hz => hz) 28 a ⟨#[]⟩)
              clear S222
              first
                | (refine bodyPost_ret (results_none rfl _ _ _) rfl ?_; exact ⟨rfl, S223.out.finB (.head _)⟩)
                | (refine bodyPost_end (results_none rfl _ _ _) rfl ?_; exact ⟨rfl, S223.out.finB (.head _)⟩)
          ·
            refine wp_bs_nodes 1 _ rfl [(ndCells 0 0 ⟨#[]⟩ 0 ⟨#[]⟩ ⟨#[]⟩ (.slice none 0 0) (.slice none 0 0))] rfl (by intro c hc; simp only [List.mem_cons, List.not_mem_nil, or_false] at hc; rcases hc with rfl <;> first | assumption | rfl) rfl (by decide) (by decide) ?_
            intro cur2 hcur2
            have S224 := Lib.hid (S180.out.allocAt (w178.heap.size) (by simp) 28 cur2)
            refine hK.out (Act.put _ (some 96) _) _ (fun h => (S224.out.cell _ _ _ (.tail _ (.head _)) 9 (.slice (some ⟨g140, 0, none⟩) 2 cap141) rfl)) ?_
            clear hK K
            try simp only [Act.put, List.setIfInBounds_toArray, List.set_cons_zero, List.set_cons_succ]
            refine anyT_step (i := 5) (oi := _) rfl (by kernel_rfl) (by rfl) (fun K hK => ?_)
            go_simp
            rcases PR.cases hr with ⟨x228, hz, rfl⟩ | ⟨n225, i226, o227, hz, hr'⟩
            · refine (RC.pipe _ _ _ _ hz S224.out.row).mono ?_
              rintro _ _ ⟨rfl, hk⟩
              exact ⟨rfl, ⟨rfl, S224.out.kep.trans (hk.toq S224.out.mp)⟩⟩
            replace hr := hr'
            clear hr'
            have ho := (RC.even _ _ _ _ _ _ hz).symm
            subst ho
            refine (RC.pipe _ _ _ _ hz S224.out.row).mono ?_
            rintro _ w230 ⟨⟨_, rfl, hn⟩, hrw, hk⟩
            obtain ⟨c229, rfl, S231⟩ := S224.out.made hrw hk hn
            replace S231 := Lib.hid S231
            have hszc229 := S231.out.fst.size
            have honec229 := S231.out.fst.one
            clear hrw hk hn
            clear S224
            clear hz
            refine hK.out _ _ (fun h => (S231.out.cell _ _ _ (.tail _ (.head _)) 9 (.slice (some ⟨g140, 0, none⟩) 2 cap141) rfl)) ?_
            clear hK K
            try simp only [Act.put, List.setIfInBounds_toArray, List.set_cons_zero, List.set_cons_succ]
            refine anyT_step (i := 8) (oi := _) rfl (by kernel_rfl) (by rfl) (fun K hK => ?_)
            refine wp_app (L := [(w178.heap.size, 28, cur2), (b, 28, (ndCells 28 a ⟨#[]⟩ 0 ⟨#[]⟩ ⟨#[]⟩ (.slice none 0 0) (.slice (some ⟨g140, 0, none⟩) 2 cap141)))]) S231.out hok144 infoNode nodesU rfl (by decide) (by decide) _ _ rfl rfl _ 1 _ rfl cur2 (S231.out.blk _ _ _ (.head _)) (flat [(ndCells 0 0 ⟨#[]⟩ 0 ⟨#[]⟩ ⟨#[]⟩ (.slice none 0 0) (.slice none 0 0))]) (by simp [flat, ndCells]) (news_at hcur2) (all_one (by simp [ndCells, Value.oneCell'])) (by decide) (by decide) (fun g232 cap233 w234 cur235 S236 hok237 => ?_)
            replace S236 := Lib.hid S236.tl
            refine hK.out (Act.put _ (some 97) _) _ (fun h => (S236.out.cell _ _ _ (.head _) 9 (.slice (some ⟨g140, 0, none⟩) 2 cap141) rfl)) ?_
            clear hK K
            try simp only [Act.put, List.setIfInBounds_toArray, List.set_cons_zero, List.set_cons_succ]
            refine anyT_takeP (i := 9) (oi := _) (v := (.pointer (some ⟨g232, 20, none⟩))) (d := (some 98)) rfl rfl (by kernel_rfl) rfl (by kernel_rfl) (by kernel_rfl) (fun _ _ _ h => h) (Or.inl ⟨by rfl, fun w hS => by first | (go_simp; done) | (go_simp; rfl)⟩) ?_
            try simp only [Act.put, List.setIfInBounds_toArray, List.set_cons_zero, List.set_cons_succ]
            refine anyT_takeP (i := 11) (oi := _) (v := (.pointer (some ⟨b, 0, none⟩))) (d := (some 99)) rfl rfl (by kernel_rfl) rfl (by kernel_rfl) (by kernel_rfl) (fun _ _ _ h => h) (Or.inl ⟨by rfl, fun w hS => by first | (go_simp; done) | (go_simp; rfl)⟩) ?_
            try simp only [Act.put, List.setIfInBounds_toArray, List.set_cons_zero, List.set_cons_succ]
            refine anyT_takeP (i := 12) (oi := _) (v := (.pointer (some ⟨b, 9, none⟩))) (d := (some 100)) rfl rfl (by kernel_rfl) rfl (by kernel_rfl) (by kernel_rfl) (fun _ _ _ h => h) (Or.inl ⟨by rfl, fun w hS => by first | (go_simp; done) | (go_simp; rfl)⟩) ?_
            try simp only [Act.put, List.setIfInBounds_toArray, List.set_cons_zero, List.set_cons_succ]
            refine anyT_two (i := 10) (j := 13) (oi := _) (oj := _) rfl rfl (by kernel_rfl) (by rfl) (by rfl) (fun K hK => ?_) (fun K hK => ?_)
            ·
              refine wp_elem (L := [(b, 28, (ndCells 28 a ⟨#[]⟩ 0 ⟨#[]⟩ ⟨#[]⟩ (.slice none 0 0) (.slice (some ⟨g140, 0, none⟩) 2 cap141)))]) (n := 2) S236.out hok237 rfl hok144.1 hszc229 honec229 _ _ rfl rfl rfl (fun w238 cur239 S240 hok241 => ?_)
              replace S240 := Lib.hid S240
              refine hK.out (Act.put _ none _) _ (fun h => by cases h) ?_
              clear hK K
              try simp only [Act.put, List.setIfInBounds_toArray, List.set_cons_zero, List.set_cons_succ]
              refine anyT_step (i := 13) (oi := _) rfl (by kernel_rfl) (by rfl) (fun K hK => ?_)
              refine wp_st_cell _ _ _ rfl (by kernel_rfl) (b) 9 (.slice (some ⟨g232, 0, none⟩) 3 cap233) rfl rfl rfl _ _ (S240.out.blk _ _ _ (.head _)) (by simp [ndCells]) ?_
              refine hK.out (Act.put _ none _) _ (fun h => by cases h) ?_
              clear hK K
              try simp only [Act.put, List.setIfInBounds_toArray, List.set_cons_zero, List.set_cons_succ]
              have S242 : Hid (St p vw ws en W (fun k => k = p ∨ k = b) (W.heap.size ≤ ·) ([(b, 28, (ndCells 28 a ⟨#[]⟩ 0 ⟨#[]⟩ ⟨#[]⟩ (.slice none 0 0) (.slice (some ⟨g232, 0, none⟩) 3 cap233)))] ++ own 28 (.slice (some ⟨g232, 0, none⟩) 3 cap233) cur239) ((c229, n225) :: [c61, c136].zip [n62, n137]) i226 o _) := Lib.hid (S240.out.setCell 0 _ _ _ rfl 9 (.slice (some ⟨g232, 0, none⟩) 3 cap233) (ndCells 28 a ⟨#[]⟩ 0 ⟨#[]⟩ ⟨#[]⟩ (.slice none 0 0) (.slice (some ⟨g232, 0, none⟩) 3 cap233)) rfl)
              clear S240
              generalize w238.setCell ⟨b, 9, none⟩ (.slice (some ⟨g232, 0, none⟩) 3 cap233) = w243 at S242 ⊢
              refine anyT_done (by kernel_rfl) ?_ _
              have S244 := Lib.hid (St.snoc (vs := [c61, c136]) (l := [n62, n137]) S242.out rfl)
              clear S242
              have hok245 : OkR W.heap.size 10 (.slice (some ⟨g232, 0, none⟩) 3 cap233) cur239 3 (flat [c61, c136, c229]) := by
                have e := hok241
                first | (rw [← flat_append] at e; exact e) | exact e
              go_wp2_with fail
              rcases PR.cases hr with ⟨x247, hz, rfl⟩ | ⟨u248, i249, o250, hz, hr'⟩
              · refine (want_calls _ ⟨#[101, 110, 100]⟩ _ hz S244.out.row).mono ?_
                rintro _ _ ⟨rfl, hk⟩
                exact ⟨rfl, ⟨rfl, S244.out.kep.trans (hk.toq S244.out.mp)⟩⟩
              replace hr := hr'
              clear hr'
              refine (want_calls _ ⟨#[101, 110, 100]⟩ _ hz S244.out.row).mono ?_
              rintro _ w246 ⟨⟨_, rfl, rfl⟩, hrw, hk⟩
              obtain ⟨rfl, rfl⟩ := wantZ_ok hz
              have S251 := Lib.hid (S244.out.call hrw hk)
              clear S244
              clear hrw hk hz
              cases hr
              go_wp2_with fail
              have S252 := Lib.hid (St.shut (L := [(b, 28, (ndCells 28 a ⟨#[]⟩ 0 ⟨#[]⟩ ⟨#[]⟩ (.slice none 0 0) (.slice (some ⟨g232, 0, none⟩) 3 cap233)))]) S251.out [c61, c136, c229] [n62, n137, n225] rfl hok245 (fun z hz => hz) 28 a ⟨#[]⟩)
              clear S251
              first
                | (refine bodyPost_ret (results_none rfl _ _ _) rfl ?_; exact ⟨rfl, S252.out.finB (.head _)⟩)
                | (refine bodyPost_end (results_none rfl _ _ _) rfl ?_; exact ⟨rfl, S252.out.finB (.head _)⟩)
            ·
              refine wp_st_cell _ _ _ rfl (by kernel_rfl) (b) 9 (.slice (some ⟨g232, 0, none⟩) 3 cap233) rfl rfl rfl _ _ (S236.out.blk _ _ _ (.head _)) (by simp [ndCells]) ?_
              refine hK.out (Act.put _ none _) _ (fun h => by cases h) ?_
              clear hK K
              try simp only [Act.put, List.setIfInBounds_toArray, List.set_cons_zero, List.set_cons_succ]
              have S253 : Hid (St p vw ws en W (fun k => k = p ∨ k = b) (W.heap.size ≤ ·) ([(b, 28, (ndCells 28 a ⟨#[]⟩ 0 ⟨#[]⟩ ⟨#[]⟩ (.slice none 0 0) (.slice (some ⟨g232, 0, none⟩) 3 cap233)))] ++ own 28 (.slice (some ⟨g232, 0, none⟩) 3 cap233) cur235) ((c229, n225) :: [c61, c136].zip [n62, n137]) i226 o _) := Lib.hid (S236.out.setCell 0 _ _ _ rfl 9 (.slice (some ⟨g232, 0, none⟩) 3 cap233) (ndCells 28 a ⟨#[]⟩ 0 ⟨#[]⟩ ⟨#[]⟩ (.slice none 0 0) (.slice (some ⟨g232, 0, none⟩) 3 cap233)) rfl)
              refine anyT_step (i := 10) (oi := _) rfl (by kernel_rfl) (by rfl) (fun K hK => ?_)
              refine wp_elem (L := [(b, 28, (ndCells 28 a ⟨#[]⟩ 0 ⟨#[]⟩ ⟨#[]⟩ (.slice none 0 0) (.slice (some ⟨g232, 0, none⟩) 3 cap233)))]) (n := 2) S253.out hok237 rfl hok144.1 hszc229 honec229 _ _ rfl rfl rfl (fun w254 cur255 S256 hok257 => ?_)
              replace S256 := Lib.hid S256
              refine hK.out (Act.put _ none _) _ (fun h => by cases h) ?_
              clear hK K
              try simp only [Act.put, List.setIfInBounds_toArray, List.set_cons_zero, List.set_cons_succ]
              refine anyT_done (by kernel_rfl) ?_ _
              have S258 := Lib.hid (St.snoc (vs := [c61, c136]) (l := [n62, n137]) S256.out rfl)
              clear S256
              have hok259 : OkR W.heap.size 10 (.slice (some ⟨g232, 0, none⟩) 3 cap233) cur255 3 (flat [c61, c136, c229]) := by
                have e := hok257
                first | (rw [← flat_append] at e; exact e) | exact e
              go_wp2_with fail
              rcases PR.cases hr with ⟨x261, hz, rfl⟩ | ⟨u262, i263, o264, hz, hr'⟩
              · refine (want_calls _ ⟨#[101, 110, 100]⟩ _ hz S258.out.row).mono ?_
                rintro _ _ ⟨rfl, hk⟩
                exact ⟨rfl, ⟨rfl, S258.out.kep.trans (hk.toq S258.out.mp)⟩⟩
              replace hr := hr'
              clear hr'
              refine (want_calls _ ⟨#[101, 110, 100]⟩ _ hz S258.out.row).mono ?_
              rintro _ w260 ⟨⟨_, rfl, rfl⟩, hrw, hk⟩
              obtain ⟨rfl, rfl⟩ := wantZ_ok hz
              have S265 := Lib.hid (S258.out.call hrw hk)
              clear S258
              clear hrw hk hz
              cases hr
              go_wp2_with fail
              have S266 := Lib.hid (St.shut (L := [(b, 28, (ndCells 28 a ⟨#[]⟩ 0 ⟨#[]⟩ ⟨#[]⟩ (.slice none 0 0) (.slice (some ⟨g232, 0, none⟩) 3 cap233)))]) S265.out [c61, c136, c229] [n62, n137, n225] rfl hok259 (fun z hz => hz) 28 a ⟨#[]⟩)
              clear S265
              first
                | (refine bodyPost_ret (results_none rfl _ _ _) rfl ?_; exact ⟨rfl, S266.out.finB (.head _)⟩)
                | (refine bodyPost_end (results_none rfl _ _ _) rfl ?_; exact ⟨rfl, S266.out.finB (.head _)⟩)
        | false =>
          rw [if_neg (by rw [hb177]; decide)] at hr
          refine (take_calls _ _ ⟨#[101, 108, 115, 101]⟩ _ false hb177 (cell_top _ _ _ _ (by simp)) S176.out.row).mono ?_
          rintro _ w267 ⟨rfl, hrw, hk⟩
          replace hrw : Rw p vw ws en i138 _ _ := hrw
          have S268 := Lib.hid (S176.out.call hrw hk)
          clear hrw hk
          rw [ok_andThen] at hr
          go_wp2_with fail
          refine region_T (fun w => w.cell? ⟨b, 9, none⟩ = some (.slice (some ⟨g140, 0, none⟩) 2 cap141)) (fun j => decide (9 ≤ j)) 14 rfl (by kernel_rfl) ?_
          have S269 := Lib.hid (S268.out.drawn (w' := World.drew _) ⟨1, rfl⟩)
          clear S268
          refine anyT_take (i := 0) (oi := _) (v := (.pointer (some ⟨b, 0, none⟩))) (d := (some 38)) rfl rfl (by kernel_rfl) (by kernel_rfl) rfl (by kernel_rfl) (by kernel_rfl) (fun _ _ _ h => h) (Or.inl ⟨by rfl, fun _ _ => rfl⟩) (S269.out.cell _ _ _ (.head _) 9 (.slice (some ⟨g140, 0, none⟩) 2 cap141) rfl) ?_
          try simp only [Act.put, List.setIfInBounds_toArray, List.set_cons_zero, List.set_cons_succ]
          refine anyT_take (i := 1) (oi := _) (v := (.pointer (some ⟨b, 0, none⟩))) (d := (some 39)) rfl rfl (by kernel_rfl) (by kernel_rfl) rfl (by kernel_rfl) (by kernel_rfl) (fun _ _ _ h => h) (Or.inl ⟨by rfl, fun w hS => by go_simp⟩) (S269.out.cell _ _ _ (.head _) 9 (.slice (some ⟨g140, 0, none⟩) 2 cap141) rfl) ?_
          try simp only [Act.put, List.setIfInBounds_toArray, List.set_cons_zero, List.set_cons_succ]
          refine anyT_take (i := 2) (oi := _) (v := (.pointer (some ⟨b, 9, none⟩))) (d := (some 40)) rfl rfl (by kernel_rfl) (by kernel_rfl) rfl (by kernel_rfl) (by kernel_rfl) (fun _ _ _ h => h) (Or.inl ⟨by rfl, fun w hS => by go_simp⟩) (S269.out.cell _ _ _ (.head _) 9 (.slice (some ⟨g140, 0, none⟩) 2 cap141) rfl) ?_
          try simp only [Act.put, List.setIfInBounds_toArray, List.set_cons_zero, List.set_cons_succ]
          refine anyT_take (i := 3) (oi := _) (v := (.slice (some ⟨g140, 0, none⟩) 2 cap141)) (d := (some 41)) rfl rfl (by kernel_rfl) (by kernel_rfl) rfl (by kernel_rfl) (by kernel_rfl) (fun _ _ _ h => h) (yl_cell 26 _ rfl (by rfl) (by kernel_rfl) _ _ rfl _ (fun _ h => h)) (S269.out.cell _ _ _ (.head _) 9 (.slice (some ⟨g140, 0, none⟩) 2 cap141) rfl) ?_
          try simp only [Act.put, List.setIfInBounds_toArray, List.set_cons_zero, List.set_cons_succ]
          refine anyT_take (i := 4) (oi := _) (v := (.int .i64 (placeZ ws en i138))) (d := (some 42)) rfl rfl (by kernel_rfl) (by kernel_rfl) rfl (by kernel_rfl) (by kernel_rfl) (fun _ _ _ h => h) (Or.inl ⟨by rfl, fun _ _ => rfl⟩) (S269.out.cell _ _ _ (.head _) 9 (.slice (some ⟨g140, 0, none⟩) 2 cap141) rfl) ?_
          try simp only [Act.put, List.setIfInBounds_toArray, List.set_cons_zero, List.set_cons_succ]
          refine anyT_take (i := 5) (oi := _) (v := (.agg (ndCells 1 (placeZ ws en i138) ⟨#[]⟩ 0 ⟨#[]⟩ ⟨#[]⟩ (.slice none 0 0) (.slice none 0 0)))) (d := (some 43)) rfl rfl (by kernel_rfl) (by kernel_rfl) rfl (by kernel_rfl) (by kernel_rfl) (fun _ _ _ h => h) (Or.inl ⟨by rfl, fun w hS => (by first | (go_simp; done) | (go_simp; rfl))⟩) (S269.out.cell _ _ _ (.head _) 9 (.slice (some ⟨g140, 0, none⟩) 2 cap141) rfl) ?_
          try simp only [Act.put, List.setIfInBounds_toArray, List.set_cons_zero, List.set_cons_succ]
          refine anyT_take (i := 6) (oi := _) (v := (.int .i64 2)) (d := (some 44)) rfl rfl (by kernel_rfl) (by kernel_rfl) rfl (by kernel_rfl) (by kernel_rfl) (fun _ _ _ h => h) (Or.inl ⟨by rfl, fun w hS => (by first | (go_simp; done) | (go_simp; rfl))⟩) (S269.out.cell _ _ _ (.head _) 9 (.slice (some ⟨g140, 0, none⟩) 2 cap141) rfl) ?_
          try simp only [Act.put, List.setIfInBounds_toArray, List.set_cons_zero, List.set_cons_succ]
          have S270 := Lib.hid (S269.out.plain 1 (placeZ ws en i138) ⟨#[]⟩ 0 ⟨#[]⟩ ⟨#[]⟩)
          clear S269
          refine anyT_step (i := 7) (oi := _) rfl (by kernel_rfl) (by rfl) (fun K hK => ?_)
          refine wp_bs_nodes 1 _ rfl [(ndCells 0 0 ⟨#[]⟩ 0 ⟨#[]⟩ ⟨#[]⟩ (.slice none 0 0) (.slice none 0 0))] rfl (by intro c hc; simp only [List.mem_cons, List.not_mem_nil, or_false] at hc; rcases hc with rfl <;> first | assumption | rfl) rfl (by decide) (by decide) ?_
          intro cur2 hcur2
          have S271 := Lib.hid (S270.out.allocAt (w267.heap.size) (by simp) 28 cur2)
          clear S270
          refine hK.out (Act.put _ (some 45) _) _ (fun h => (S271.out.cell _ _ _ (.tail _ (.head _)) 9 (.slice (some ⟨g140, 0, none⟩) 2 cap141) rfl)) ?_
          clear hK K
          try simp only [Act.put, List.setIfInBounds_toArray, List.set_cons_zero, List.set_cons_succ]
          refine anyT_step (i := 8) (oi := _) rfl (by kernel_rfl) (by rfl) (fun K hK => ?_)
          refine wp_app (L := [(w267.heap.size, 28, cur2), (b, 28, (ndCells 28 a ⟨#[]⟩ 0 ⟨#[]⟩ ⟨#[]⟩ (.slice none 0 0) (.slice (some ⟨g140, 0, none⟩) 2 cap141)))]) S271.out hok144 infoNode nodesU rfl (by decide) (by decide) _ _ rfl rfl _ 1 _ rfl cur2 (S271.out.blk _ _ _ (.head _)) (flat [(ndCells 0 0 ⟨#[]⟩ 0 ⟨#[]⟩ ⟨#[]⟩ (.slice none 0 0) (.slice none 0 0))]) (by simp [flat, ndCells]) (news_at hcur2) (all_one (by simp [ndCells, Value.oneCell'])) (by decide) (by decide) (fun g272 cap273 w274 cur275 S276 hok277 => ?_)
          replace S276 := Lib.hid S276.tl
          refine hK.out (Act.put _ (some 46) _) _ (fun h => (S276.out.cell _ _ _ (.head _) 9 (.slice (some ⟨g140, 0, none⟩) 2 cap141) rfl)) ?_
          clear hK K
          try simp only [Act.put, List.setIfInBounds_toArray, List.set_cons_zero, List.set_cons_succ]
          refine anyT_takeP (i := 9) (oi := _) (v := (.pointer (some ⟨g272, 20, none⟩))) (d := (some 47)) rfl rfl (by kernel_rfl) rfl (by kernel_rfl) (by kernel_rfl) (fun _ _ _ h => h) (Or.inl ⟨by rfl, fun w hS => by first | (go_simp; done) | (go_simp; rfl)⟩) ?_
          try simp only [Act.put, List.setIfInBounds_toArray, List.set_cons_zero, List.set_cons_succ]
          refine anyT_takeP (i := 11) (oi := _) (v := (.pointer (some ⟨b, 0, none⟩))) (d := (some 48)) rfl rfl (by kernel_rfl) rfl (by kernel_rfl) (by kernel_rfl) (fun _ _ _ h => h) (Or.inl ⟨by rfl, fun w hS => by first | (go_simp; done) | (go_simp; rfl)⟩) ?_
          try simp only [Act.put, List.setIfInBounds_toArray, List.set_cons_zero, List.set_cons_succ]
          refine anyT_takeP (i := 12) (oi := _) (v := (.pointer (some ⟨b, 9, none⟩))) (d := (some 49)) rfl rfl (by kernel_rfl) rfl (by kernel_rfl) (by kernel_rfl) (fun _ _ _ h => h) (Or.inl ⟨by rfl, fun w hS => by first | (go_simp; done) | (go_simp; rfl)⟩) ?_
          try simp only [Act.put, List.setIfInBounds_toArray, List.set_cons_zero, List.set_cons_succ]
          refine anyT_two (i := 10) (j := 13) (oi := _) (oj := _) rfl rfl (by kernel_rfl) (by rfl) (by rfl) (fun K hK => ?_) (fun K hK => ?_)
          ·
            refine wp_elem (L := [(b, 28, (ndCells 28 a ⟨#[]⟩ 0 ⟨#[]⟩ ⟨#[]⟩ (.slice none 0 0) (.slice (some ⟨g140, 0, none⟩) 2 cap141)))]) (n := 2) S276.out hok277 rfl hok144.1 rfl (by first | (simp [ndCells, Value.oneCell']; done) | exact nd_one rfl hok.one | exact nd_one hok.one rfl) _ _ rfl rfl rfl (fun w278 cur279 S280 hok281 => ?_)
            replace S280 := Lib.hid S280
            refine hK.out (Act.put _ none _) _ (fun h => by cases h) ?_
            clear hK K
            try simp only [Act.put, List.setIfInBounds_toArray, List.set_cons_zero, List.set_cons_succ]
            refine anyT_step (i := 13) (oi := _) rfl (by kernel_rfl) (by rfl) (fun K hK => ?_)
            refine wp_st_cell _ _ _ rfl (by kernel_rfl) (b) 9 (.slice (some ⟨g272, 0, none⟩) 3 cap273) rfl rfl rfl _ _ (S280.out.blk _ _ _ (.head _)) (by simp [ndCells]) ?_
            refine hK.out (Act.put _ none _) _ (fun h => by cases h) ?_
            clear hK K
            try simp only [Act.put, List.setIfInBounds_toArray, List.set_cons_zero, List.set_cons_succ]
            have S282 : Hid (St p vw ws en W (fun k => k = p ∨ k = b) (W.heap.size ≤ ·) ([(b, 28, (ndCells 28 a ⟨#[]⟩ 0 ⟨#[]⟩ ⟨#[]⟩ (.slice none 0 0) (.slice (some ⟨g272, 0, none⟩) 3 cap273)))] ++ own 28 (.slice (some ⟨g272, 0, none⟩) 3 cap273) cur279) (((ndCells 1 (placeZ ws en i138) ⟨#[]⟩ 0 ⟨#[]⟩ ⟨#[]⟩ (.slice none 0 0) (.slice none 0 0)), (SN.mk 1 (placeZ ws en i138) ⟨#[]⟩ 0 ⟨#[]⟩ ⟨#[]⟩ [] [])) :: [c61, c136].zip [n62, n137]) i138 o _) := Lib.hid (S280.out.setCell 0 _ _ _ rfl 9 (.slice (some ⟨g272, 0, none⟩) 3 cap273) (ndCells 28 a ⟨#[]⟩ 0 ⟨#[]⟩ ⟨#[]⟩ (.slice none 0 0) (.slice (some ⟨g272, 0, none⟩) 3 cap273)) rfl)
            clear S280
            generalize w278.setCell ⟨b, 9, none⟩ (.slice (some ⟨g272, 0, none⟩) 3 cap273) = w283 at S282 ⊢
            refine anyT_done (by kernel_rfl) ?_ _
            have S284 := Lib.hid (St.snoc (vs := [c61, c136]) (l := [n62, n137]) S282.out rfl)
            clear S282
            have hok285 : OkR W.heap.size 10 (.slice (some ⟨g272, 0, none⟩) 3 cap273) cur279 3 (flat [c61, c136, (ndCells 1 (placeZ ws en i138) ⟨#[]⟩ 0 ⟨#[]⟩ ⟨#[]⟩ (.slice none 0 0) (.slice none 0 0))]) := by
              have e := hok281
              first | (rw [← flat_append] at e; exact e) | exact e
            go_wp2_with fail
            rcases PR.cases hr with ⟨x287, hz, rfl⟩ | ⟨u288, i289, o290, hz, hr'⟩
            · refine (want_calls _ ⟨#[101, 110, 100]⟩ _ hz S284.out.row).mono ?_
              rintro _ _ ⟨rfl, hk⟩
              exact ⟨rfl, ⟨rfl, S284.out.kep.trans (hk.toq S284.out.mp)⟩⟩
            replace hr := hr'
            clear hr'
            refine (want_calls _ ⟨#[101, 110, 100]⟩ _ hz S284.out.row).mono ?_
            rintro _ w286 ⟨⟨_, rfl, rfl⟩, hrw, hk⟩
            obtain ⟨rfl, rfl⟩ := wantZ_ok hz
            have S291 := Lib.hid (S284.out.call hrw hk)
            clear S284
            clear hrw hk hz
            cases hr
            go_wp2_with fail
            have S292 := Lib.hid (St.shut (L := [(b, 28, (ndCells 28 a ⟨#[]⟩ 0 ⟨#[]⟩ ⟨#[]⟩ (.slice none 0 0) (.slice (some ⟨g272, 0, none⟩) 3 cap273)))]) S291.out [c61, c136, (ndCells 1 (placeZ ws en i138) ⟨#[]⟩ 0 ⟨#[]⟩ ⟨#[]⟩ (.slice none 0 0) (.slice none 0 0))] [n62, n137, (SN.mk 1 (placeZ ws en i138) ⟨#[]⟩ 0 ⟨#[]⟩ ⟨#[]⟩ [] [])] rfl hok285 (fun z hz => hz) 28 a ⟨#[]⟩)
            clear S291
            first
              | (refine bodyPost_ret (results_none rfl _ _ _) rfl ?_; exact ⟨rfl, S292.out.finB (.head _)⟩)
              | (refine bodyPost_end (results_none rfl _ _ _) rfl ?_; exact ⟨rfl, S292.out.finB (.head _)⟩)
          ·
            refine wp_st_cell _ _ _ rfl (by kernel_rfl) (b) 9 (.slice (some ⟨g272, 0, none⟩) 3 cap273) rfl rfl rfl _ _ (S276.out.blk _ _ _ (.head _)) (by simp [ndCells]) ?_
            refine hK.out (Act.put _ none _) _ (fun h => by cases h) ?_
            clear hK K
            try simp only [Act.put, List.setIfInBounds_toArray, List.set_cons_zero, List.set_cons_succ]
            have S293 : Hid (St p vw ws en W (fun k => k = p ∨ k = b) (W.heap.size ≤ ·) ([(b, 28, (ndCells 28 a ⟨#[]⟩ 0 ⟨#[]⟩ ⟨#[]⟩ (.slice none 0 0) (.slice (some ⟨g272, 0, none⟩) 3 cap273)))] ++ own 28 (.slice (some ⟨g272, 0, none⟩) 3 cap273) cur275) (((ndCells 1 (placeZ ws en i138) ⟨#[]⟩ 0 ⟨#[]⟩ ⟨#[]⟩ (.slice none 0 0) (.slice none 0 0)), (SN.mk 1 (placeZ ws en i138) ⟨#[]⟩ 0 ⟨#[]⟩ ⟨#[]⟩ [] [])) :: [c61, c136].zip [n62, n137]) i138 o _) := Lib.hid (S276.out.setCell 0 _ _ _ rfl 9 (.slice (some ⟨g272, 0, none⟩) 3 cap273) (ndCells 28 a ⟨#[]⟩ 0 ⟨#[]⟩ ⟨#[]⟩ (.slice none 0 0) (.slice (some ⟨g272, 0, none⟩) 3 cap273)) rfl)
            refine anyT_step (i := 10) (oi := _) rfl (by kernel_rfl) (by rfl) (fun K hK => ?_)
            refine wp_elem (L := [(b, 28, (ndCells 28 a ⟨#[]⟩ 0 ⟨#[]⟩ ⟨#[]⟩ (.slice none 0 0) (.slice (some ⟨g272, 0, none⟩) 3 cap273)))]) (n := 2) S293.out hok277 rfl hok144.1 rfl (by first | (simp [ndCells, Value.oneCell']; done) | exact nd_one rfl hok.one | exact nd_one hok.one rfl) _ _ rfl rfl rfl (fun w294 cur295 S296 hok297 => ?_)
            replace S296 := Lib.hid S296
            refine hK.out (Act.put _ none _) _ (fun h => by cases h) ?_
            clear hK K
            try simp only [Act.put, List.setIfInBounds_toArray, List.set_cons_zero, List.set_cons_succ]
            refine anyT_done (by kernel_rfl) ?_ _
            have S298 := Lib.hid (St.snoc (vs := [c61, c136]) (l := [n62, n137]) S296.out rfl)
            clear S296
            have hok299 : OkR W.heap.size 10 (.slice (some ⟨g272, 0, none⟩) 3 cap273) cur295 3 (flat [c61, c136, (ndCells 1 (placeZ ws en i138) ⟨#[]⟩ 0 ⟨#[]⟩ ⟨#[]⟩ (.slice none 0 0) (.slice none 0 0))]) := by
              have e := hok297
              first | (rw [← flat_append] at e; exact e) | exact e
            go_wp2_with fail
            rcases PR.cases hr with ⟨x301, hz, rfl⟩ | ⟨u302, i303, o304, hz, hr'⟩
            · refine (want_calls _ ⟨#[101, 110, 100]⟩ _ hz S298.out.row).mono ?_
              rintro _ _ ⟨rfl, hk⟩
              exact ⟨rfl, ⟨rfl, S298.out.kep.trans (hk.toq S298.out.mp)⟩⟩
            replace hr := hr'
            clear hr'
            refine (want_calls _ ⟨#[101, 110, 100]⟩ _ hz S298.out.row).mono ?_
            rintro _ w300 ⟨⟨_, rfl, rfl⟩, hrw, hk⟩
            obtain ⟨rfl, rfl⟩ := wantZ_ok hz
            have S305 := Lib.hid (S298.out.call hrw hk)
            clear S298
            clear hrw hk hz
            cases hr
            go_wp2_with fail
            have S306 := Lib.hid (St.shut (L := [(b, 28, (ndCells 28 a ⟨#[]⟩ 0 ⟨#[]⟩ ⟨#[]⟩ (.slice none 0 0) (.slice (some ⟨g272, 0, none⟩) 3 cap273)))]) S305.out [c61, c136, (ndCells 1 (placeZ ws en i138) ⟨#[]⟩ 0 ⟨#[]⟩ ⟨#[]⟩ (.slice none 0 0) (.slice none 0 0))] [n62, n137, (SN.mk 1 (placeZ ws en i138) ⟨#[]⟩ 0 ⟨#[]⟩ ⟨#[]⟩ [] [])] rfl hok299 (fun z hz => hz) 28 a ⟨#[]⟩)
            clear S305
            first
              | (refine bodyPost_ret (results_none rfl _ _ _) rfl ?_; exact ⟨rfl, S306.out.finB (.head _)⟩)
              | (refine bodyPost_end (results_none rfl _ _ _) rfl ?_; exact ⟨rfl, S306.out.finB (.head _)⟩)

end Go.Proofs.YthlmhnlfcnpocaaDoor.U

/- The walks of syntax's parser: all. Printed by wip/gensyn.py. -/
import Derived.Test.YthlmhnlfcnpocaaDoorRowAll
import Derived.Test.YthlmhnlfcnpocaaDoorSynAll
namespace Go.Proofs.YthlmhnlfcnpocaaDoor.U
open Go.RowKit Go.Proofs.YthlmhnlfcnpocaaDoorW.PrintWords
set_option linter.unusedSimpArgs false
set_option linter.unusedVariables false

set_option maxHeartbeats 8000000 in
set_option maxRecDepth 100000 in
theorem constant_calls {p : Nat} {vw : Value} {ws : List Tok} {en : Int} {rc : PC → Nat → Int → PR SN} (RC : RcOk p vw ws en rc) {i : Nat} {o : Int} (W : World) (hi : i < ws.length) (r : Except (Int × Int) (SN × Nat × Int)) (hr : constZ ws en i o = some r) (h : Rw p vw ws en i o W) :
    Calls Tryd.prog 75 #[.pointer (some ⟨p, 0, none⟩)] W (Ends p vw ws en W (IsN (W.heap.size ≤ ·)) r) := by
  have S0 := Lib.hid (St.start (G := (W.heap.size ≤ ·)) (V := []) h (Nat.not_le.2 h.lt) (fun k hk => hk) (fun _ hx => by cases hx))
  clear h
  go_enter Tryd.func75, Tryd.ntmps75
  go_wp2_with fail
  have S1 := Lib.hid (S0.out.allocAt (W.heap.size) (by simp [World.setCell]) 28 (ndCells 0 0 ⟨#[]⟩ 0 ⟨#[]⟩ ⟨#[]⟩ (.slice none 0 0) (.slice none 0 0)))
  clear S0
  refine (place_calls _ S1.out.row).mono ?_
  rintro _ w2 ⟨rfl, hd⟩
  have S3 := Lib.hid (S1.out.drawn hd)
  clear S1
  clear hd
  go_wp2_with fail
  have S4 := Lib.hid (S3.out.allocAt (w2.heap.size) (by simp [World.setCell]) 28 (ndCells 2 (placeZ ws en i) ⟨#[]⟩ 0 ⟨#[]⟩ ⟨#[]⟩ (.slice none 0 0) (.slice none 0 0)))
  clear S3
  unfold constZ at hr
  have S5 := Lib.hid (S4.out.waste (.cells #[.string ⟨#[102, 97, 108, 115, 101]⟩] 9))
  clear S4
  refine (is_calls _ _ ⟨#[102, 97, 108, 115, 101]⟩ _ (cell_top _ _ _ _ (by simp)) S5.out.row).mono ?_
  rintro _ w6 ⟨rfl, hd⟩
  have S8 := Lib.hid (S5.out.drawn hd)
  clear S5
  clear hd
  cases hb7 : isZ ws i ⟨#[102, 97, 108, 115, 101]⟩ with
  | true =>
    rw [if_pos hb7] at hr
    cases hr
    have S9 := Lib.hid (S8.out.setCell 0 _ _ _ rfl 3 (.int .i64 1) (ndCells 2 (placeZ ws en i) ⟨#[]⟩ 1 ⟨#[]⟩ ⟨#[]⟩ (.slice none 0 0) (.slice none 0 0)) rfl)
    have c1_ := S9.out.row.c1
    have f1_ := S9.out.row.fr 1
    have hw1_ := S9.out.wrapU
    have hw0_ := S9.out.row.le
    have S11 := Lib.hid (S9.out.step hi)
    clear S9
    have S12 := Lib.hid (S11.out.plain 2 (placeZ ws en i) ⟨#[]⟩ 1 ⟨#[]⟩ ⟨#[]⟩)
    clear S11
    go_wp2_with (first
      | (refine st_cell rfl _ _ _ rfl (by kernel_rfl) _ _ _ rfl rfl rfl _ _ (S8.out.blk _ _ _ (.head _)) (by simp [ndCells]) ?_)
      | (refine ld_node rfl _ rfl _ rfl _ (S12.out.blk _ _ _ (.head _)) rfl ?_)
      | (refine st_node rfl _ _ rfl _ _ rfl rfl _ (S12.out.blk _ _ _ (.tail _ (.head _))) rfl rfl (by first | (simp [ndCells, Value.oneCell']; done) | exact nd_one rfl hok.one | exact nd_one hok.one rfl) ?_))
    have S13 := Lib.hid (S12.out.setRow 1 _ _ _ (ndCells 2 (placeZ ws en i) ⟨#[]⟩ 1 ⟨#[]⟩ ⟨#[]⟩ (.slice none 0 0) (.slice none 0 0)) rfl)
    clear S12
    refine ret_node rfl _ _ rfl (S13.out.blk _ _ _ (.tail _ (.head _))) rfl rfl ?_
    first | exact S13.out.done | (have e := S13.out.done; simp only [Int.add_sub_cancel] at e; exact e) | (simp only [Int.add_sub_cancel]; exact S13.out.done)
  | false =>
    rw [if_neg (by rw [hb7]; decide)] at hr
    go_wp2_with fail
    have S14 := Lib.hid (S8.out.waste (.cells #[.string ⟨#[116, 114, 117, 101]⟩] 9))
    refine (is_calls _ _ ⟨#[116, 114, 117, 101]⟩ _ (cell_top _ _ _ _ (by simp)) S14.out.row).mono ?_
    rintro _ w15 ⟨rfl, hd⟩
    have S17 := Lib.hid (S14.out.drawn hd)
    clear S14
    clear hd
    cases hb16 : isZ ws i ⟨#[116, 114, 117, 101]⟩ with
    | true =>
      rw [if_pos hb16] at hr
      cases hr
      have S18 := Lib.hid (S17.out.setCell 0 _ _ _ rfl 3 (.int .i64 2) (ndCells 2 (placeZ ws en i) ⟨#[]⟩ 2 ⟨#[]⟩ ⟨#[]⟩ (.slice none 0 0) (.slice none 0 0)) rfl)
      have c1_ := S18.out.row.c1
      have f1_ := S18.out.row.fr 1
      have hw1_ := S18.out.wrapU
      have hw0_ := S18.out.row.le
      have S20 := Lib.hid (S18.out.step hi)
      clear S18
      have S21 := Lib.hid (S20.out.plain 2 (placeZ ws en i) ⟨#[]⟩ 2 ⟨#[]⟩ ⟨#[]⟩)
      clear S20
      go_wp2_with (first
        | (refine st_cell rfl _ _ _ rfl (by kernel_rfl) _ _ _ rfl rfl rfl _ _ (S17.out.blk _ _ _ (.head _)) (by simp [ndCells]) ?_)
        | (refine ld_node rfl _ rfl _ rfl _ (S21.out.blk _ _ _ (.head _)) rfl ?_)
        | (refine st_node rfl _ _ rfl _ _ rfl rfl _ (S21.out.blk _ _ _ (.tail _ (.head _))) rfl rfl (by first | (simp [ndCells, Value.oneCell']; done) | exact nd_one rfl hok.one | exact nd_one hok.one rfl) ?_))
      have S22 := Lib.hid (S21.out.setRow 1 _ _ _ (ndCells 2 (placeZ ws en i) ⟨#[]⟩ 2 ⟨#[]⟩ ⟨#[]⟩ (.slice none 0 0) (.slice none 0 0)) rfl)
      clear S21
      refine ret_node rfl _ _ rfl (S22.out.blk _ _ _ (.tail _ (.head _))) rfl rfl ?_
      first | exact S22.out.done | (have e := S22.out.done; simp only [Int.add_sub_cancel] at e; exact e) | (simp only [Int.add_sub_cancel]; exact S22.out.done)
    | false =>
      rw [if_neg (by rw [hb16]; decide)] at hr
      cases hr
      have c1_ := S17.out.row.c1
      have f1_ := S17.out.row.fr 1
      have hw1_ := S17.out.wrapU
      have S23 := Lib.hid (S17.out.step hi)
      have S24 := Lib.hid (S23.out.plain 2 (placeZ ws en i) ⟨#[]⟩ 0 ⟨#[]⟩ ⟨#[]⟩)
      clear S23
      go_wp2_with (first
        | (refine ld_node rfl _ rfl _ rfl _ (S24.out.blk _ _ _ (.head _)) rfl ?_)
        | (refine st_node rfl _ _ rfl _ _ rfl rfl _ (S24.out.blk _ _ _ (.tail _ (.head _))) rfl rfl (by first | (simp [ndCells, Value.oneCell']; done) | exact nd_one rfl hok.one | exact nd_one hok.one rfl) ?_))
      have S25 := Lib.hid (S24.out.setRow 1 _ _ _ (ndCells 2 (placeZ ws en i) ⟨#[]⟩ 0 ⟨#[]⟩ ⟨#[]⟩ (.slice none 0 0) (.slice none 0 0)) rfl)
      clear S24
      refine ret_node rfl _ _ rfl (S25.out.blk _ _ _ (.tail _ (.head _))) rfl rfl ?_
      first | exact S25.out.done | (have e := S25.out.done; simp only [Int.add_sub_cancel] at e; exact e) | (simp only [Int.add_sub_cancel]; exact S25.out.done)

set_option maxHeartbeats 8000000 in
set_option maxRecDepth 100000 in
theorem try_calls {p : Nat} {vw : Value} {ws : List Tok} {en : Int} {rc : PC → Nat → Int → PR SN} (RC : RcOk p vw ws en rc) {i : Nat} {o : Int} (W : World) (hi : i < ws.length) (r : Except (Int × Int) (SN × Nat × Int)) (hr : tryZ ws en rc i o = some r) (h : Rw p vw ws en i o W) :
    Calls Tryd.prog 77 #[.pointer (some ⟨p, 0, none⟩)] W (Ends p vw ws en W (IsN (W.heap.size ≤ ·)) r) := by
  have S0 := Lib.hid (St.start (G := (W.heap.size ≤ ·)) (V := []) h (Nat.not_le.2 h.lt) (fun k hk => hk) (fun _ hx => by cases hx))
  clear h
  go_enter Tryd.func77, Tryd.ntmps77
  go_wp2_with fail
  have S1 := Lib.hid (S0.out.allocAt (W.heap.size) (by simp [World.setCell]) 28 (ndCells 0 0 ⟨#[]⟩ 0 ⟨#[]⟩ ⟨#[]⟩ (.slice none 0 0) (.slice none 0 0)))
  clear S0
  refine (place_calls _ S1.out.row).mono ?_
  rintro _ w2 ⟨rfl, hd⟩
  have S3 := Lib.hid (S1.out.drawn hd)
  clear S1
  clear hd
  have hw1_ := S3.out.wrapU
  go_wp2_with (first
    | (refine ld_cell rfl _ _ rfl (by kernel_rfl) _ _ rfl _ (S3.out.alloc 28 (ndCells 10 (placeZ ws en i) ⟨#[]⟩ 0 ⟨#[]⟩ ⟨#[]⟩ (.slice none 0 0) (.slice none 0 0))).row.c1 ?_)
    | (refine st_cell rfl _ _ _ rfl (by kernel_rfl) _ _ _ rfl rfl rfl _ _ (S3.out.alloc 28 (ndCells 10 (placeZ ws en i) ⟨#[]⟩ 0 ⟨#[]⟩ ⟨#[]⟩ (.slice none 0 0) (.slice none 0 0))).row.blk (by simp [rwCells]) ?_))
  clear hw1_
  have S4 := Lib.hid (S3.out.allocAt (w2.heap.size) (by simp [World.setCell]) 28 (ndCells 10 (placeZ ws en i) ⟨#[]⟩ 0 ⟨#[]⟩ ⟨#[]⟩ (.slice none 0 0) (.slice none 0 0)))
  clear S3
  have S5 := Lib.hid (S4.out.step hi)
  clear S4
  unfold tryZ at hr
  rcases PR.cases hr with ⟨x9, hz, rfl⟩ | ⟨n6, i7, o8, hz, hr'⟩
  · refine (RC.post _ _ _ _ hz S5.out.row).mono ?_
    rintro _ _ ⟨rfl, hk⟩
    exact ⟨rfl, S5.out.dies hk⟩
  replace hr := hr'
  clear hr'
  have ho := (RC.even _ _ _ _ _ _ hz).symm
  subst ho
  refine (RC.post _ _ _ _ hz S5.out.row).mono ?_
  rintro _ w11 ⟨⟨_, rfl, hn⟩, hrw, hk⟩
  obtain ⟨c10, rfl, S12⟩ := S5.out.made hrw hk hn
  replace S12 := Lib.hid S12
  have hszc10 := S12.out.fst.size
  have honec10 := S12.out.fst.one
  clear hrw hk hn
  clear S5
  clear hz
  have hB : W.heap.size ≤ w11.heap.size := by first | exact S12.out.base | (have := S12.out.base; simp at this; omega)
  go_wp2_with (first
    | (refine bs_nodes rfl 1 _ rfl [c10] rfl (by intro c hc; simp only [List.mem_cons, List.not_mem_nil, or_false] at hc; rcases hc with rfl <;> first | assumption | rfl) rfl (by decide) (by decide) ?_; intro cur hcur; have S13 := Lib.hid (S12.out.allocAt (w11.heap.size) (by simp) 28 cur))
    | (refine st_cellO rfl _ _ _ rfl (by kernel_rfl) (w2.heap.size) 9 (.slice (some ⟨w11.heap.size, 0, none⟩) 1 1) rfl rfl rfl _ _ (S13.out.blk _ _ _ (.tail _ (.head _))) (by simp [ndCells]) ?_; intro w14 hwN; have S15 := Lib.hid (S13.out.setCellO 1 _ _ _ rfl 9 (.slice (some ⟨w11.heap.size, 0, none⟩) 1 1) (ndCells 10 (placeZ ws en i) ⟨#[]⟩ 0 ⟨#[]⟩ ⟨#[]⟩ (.slice none 0 0) (.slice (some ⟨w11.heap.size, 0, none⟩) 1 1)) rfl hwN); clear hwN))
  have S16 := Lib.hid (S15.out.waste (.cells #[.string ⟨#[99, 97, 116, 99, 104]⟩] 9))
  clear S15
  cases hb17 : isZ ws i7 ⟨#[99, 97, 116, 99, 104]⟩ with
  | true =>
    rw [if_pos hb17] at hr
    refine (take_calls _ _ ⟨#[99, 97, 116, 99, 104]⟩ _ true hb17 (cell_top _ _ _ _ (by simp)) S16.out.row).mono ?_
    rintro _ w18 ⟨rfl, hrw, hk⟩
    replace hrw : Rw p vw ws en (i7 + 1) _ _ := hrw
    have S19 := Lib.hid (S16.out.call hrw hk)
    clear hrw hk
    have S20 := Lib.hid (S19.out.toOwn 1 1)
    clear S19
    have hok : OkR W.heap.size 10 (.slice (some ⟨w11.heap.size, 0, none⟩) 1 1) cur 1 (flat [c10]) := OkR.lit hB hcur (by simp [flat, hszc10]) (by decide)
    have S21 : Hid (St p vw ws en W (· = p) (W.heap.size ≤ ·) ([(w2.heap.size, 28, (ndCells 10 (placeZ ws en i) ⟨#[]⟩ 0 ⟨#[]⟩ ⟨#[]⟩ (.slice none 0 0) (.slice (some ⟨w11.heap.size, 0, none⟩) 1 1))), (W.heap.size, 28, (ndCells 0 0 ⟨#[]⟩ 0 ⟨#[]⟩ ⟨#[]⟩ (.slice none 0 0) (.slice none 0 0)))] ++ own 28 (.slice (some ⟨w11.heap.size, 0, none⟩) 1 1) cur) ([c10].zip [n6]) (i7 + 1) o _) := Lib.hid (S20.out)
    clear S20
    go_wp2_with fail
    refine region_T (fun w => w.cell? ⟨w2.heap.size, 9, none⟩ = some (.slice (some ⟨w11.heap.size, 0, none⟩) 1 1)) (fun j => j == 7) 8 rfl (by kernel_rfl) ?_
    have S22 := Lib.hid (S21.out.drawn (w' := World.drew _) ⟨1, rfl⟩)
    clear S21
    refine anyT_take (i := 0) (oi := _) (v := (.pointer (some ⟨w2.heap.size, 9, none⟩))) (d := (some 27)) rfl rfl (by kernel_rfl) (by kernel_rfl) rfl (by kernel_rfl) (by kernel_rfl) (fun _ _ _ h => h) (Or.inl ⟨by rfl, fun w hS => by go_simp⟩) (S22.out.cell _ _ _ (.head _) 9 (.slice (some ⟨w11.heap.size, 0, none⟩) 1 1) rfl) ?_
    try simp only [Act.put, List.setIfInBounds_toArray, List.set_cons_zero, List.set_cons_succ]
    refine anyT_take (i := 1) (oi := _) (v := (.slice (some ⟨w11.heap.size, 0, none⟩) 1 1)) (d := (some 28)) rfl rfl (by kernel_rfl) (by kernel_rfl) rfl (by kernel_rfl) (by kernel_rfl) (fun _ _ _ h => h) (yl_cell 26 _ rfl (by rfl) (by kernel_rfl) _ _ rfl _ (fun _ h => h)) (S22.out.cell _ _ _ (.head _) 9 (.slice (some ⟨w11.heap.size, 0, none⟩) 1 1) rfl) ?_
    try simp only [Act.put, List.setIfInBounds_toArray, List.set_cons_zero, List.set_cons_succ]
    refine anyT_take (i := 2) (oi := _) (v := (.pointer (some ⟨p, 0, none⟩))) (d := (some 29)) rfl rfl (by kernel_rfl) (by kernel_rfl) rfl (by kernel_rfl) (by kernel_rfl) (fun _ _ _ h => h) (Or.inl ⟨by rfl, fun _ _ => rfl⟩) (S22.out.cell _ _ _ (.head _) 9 (.slice (some ⟨w11.heap.size, 0, none⟩) 1 1) rfl) ?_
    try simp only [Act.put, List.setIfInBounds_toArray, List.set_cons_zero, List.set_cons_succ]
    refine anyT_step (i := 3) (oi := _) rfl (by kernel_rfl) (by rfl) (fun K hK => ?_)
    go_simp
    rcases PR.cases hr with ⟨x26, hz, rfl⟩ | ⟨n23, i24, o25, hz, hr'⟩
    · refine (RC.post _ _ _ _ hz S22.out.row).mono ?_
      rintro _ _ ⟨rfl, hk⟩
      exact ⟨rfl, S22.out.dies hk⟩
    replace hr := hr'
    clear hr'
    have ho := (RC.even _ _ _ _ _ _ hz).symm
    subst ho
    refine (RC.post _ _ _ _ hz S22.out.row).mono ?_
    rintro _ w28 ⟨⟨_, rfl, hn⟩, hrw, hk⟩
    obtain ⟨c27, rfl, S29⟩ := S22.out.made hrw hk hn
    replace S29 := Lib.hid S29
    have hszc27 := S29.out.fst.size
    have honec27 := S29.out.fst.one
    clear hrw hk hn
    clear S22
    clear hz
    refine hK.out _ _ (fun h => (S29.out.cell _ _ _ (.head _) 9 (.slice (some ⟨w11.heap.size, 0, none⟩) 1 1) rfl)) ?_
    clear hK K
    try simp only [Act.put, List.setIfInBounds_toArray, List.set_cons_zero, List.set_cons_succ]
    refine anyT_step (i := 4) (oi := _) rfl (by kernel_rfl) (by rfl) (fun K hK => ?_)
    refine wp_bs_nodes 1 _ rfl [c27] rfl (by intro c hc; simp only [List.mem_cons, List.not_mem_nil, or_false] at hc; rcases hc with rfl <;> first | assumption | rfl) rfl (by decide) (by decide) ?_
    intro cur2 hcur2
    have S30 := Lib.hid (S29.out.waste (.cells cur2 28))
    clear S29
    refine hK.out (Act.put _ (some 31) _) _ (fun h => (S30.out.cell _ _ _ (.head _) 9 (.slice (some ⟨w11.heap.size, 0, none⟩) 1 1) rfl)) ?_
    clear hK K
    try simp only [Act.put, List.setIfInBounds_toArray, List.set_cons_zero, List.set_cons_succ]
    refine anyT_step (i := 5) (oi := _) rfl (by kernel_rfl) (by rfl) (fun K hK => ?_)
    refine wp_app S30.out hok infoNode nodesU rfl (by decide) (by decide) _ _ rfl rfl _ 1 _ rfl cur2 (heap_alloc_new _ _) (flat [c27]) (by simp [flat, hszc27]) (news_at hcur2) (all_one honec27) (by decide) (by first | omega | (simp only [List.length_append, List.length_cons, List.length_nil]; omega)) (fun g31 cap32 w33 cur34 S35 hok36 => ?_)
    replace S35 := Lib.hid S35
    refine hK.out (Act.put _ (some 32) _) _ (fun h => (S35.out.cell _ _ _ (.head _) 9 (.slice (some ⟨w11.heap.size, 0, none⟩) 1 1) rfl)) ?_
    clear hK K
    try simp only [Act.put, List.setIfInBounds_toArray, List.set_cons_zero, List.set_cons_succ]
    refine anyT_take (i := 6) (oi := _) (v := (.pointer (some ⟨w2.heap.size, 9, none⟩))) (d := (some 33)) rfl rfl (by kernel_rfl) (by kernel_rfl) rfl (by kernel_rfl) (by kernel_rfl) (fun _ _ _ h => h) (Or.inl ⟨by rfl, fun w hS => by go_simp⟩) (S35.out.cell _ _ _ (.head _) 9 (.slice (some ⟨w11.heap.size, 0, none⟩) 1 1) rfl) ?_
    try simp only [Act.put, List.setIfInBounds_toArray, List.set_cons_zero, List.set_cons_succ]
    refine anyT_step (i := 7) (oi := _) rfl (by kernel_rfl) (by rfl) (fun K hK => ?_)
    refine wp_st_cell _ _ _ rfl (by kernel_rfl) (w2.heap.size) 9 (.slice (some ⟨g31, 0, none⟩) (1 + 1) cap32) rfl rfl rfl _ _ (S35.out.blk _ _ _ (.head _)) (by simp [ndCells]) ?_
    refine hK.out (Act.put _ none _) _ (fun h => by cases h) ?_
    clear hK K
    try simp only [Act.put, List.setIfInBounds_toArray, List.set_cons_zero, List.set_cons_succ]
    have S37 : Hid (St p vw ws en W (· = p) (W.heap.size ≤ ·) ([(w2.heap.size, 28, (ndCells 10 (placeZ ws en i) ⟨#[]⟩ 0 ⟨#[]⟩ ⟨#[]⟩ (.slice none 0 0) (.slice (some ⟨g31, 0, none⟩) (1 + 1) cap32))), (W.heap.size, 28, (ndCells 0 0 ⟨#[]⟩ 0 ⟨#[]⟩ ⟨#[]⟩ (.slice none 0 0) (.slice none 0 0)))] ++ own 28 (.slice (some ⟨g31, 0, none⟩) (1 + 1) cap32) cur34) ((c27, n23) :: [c10].zip [n6]) i24 o _) := Lib.hid (S35.out.setCell 0 _ _ _ rfl 9 (.slice (some ⟨g31, 0, none⟩) (1 + 1) cap32) (ndCells 10 (placeZ ws en i) ⟨#[]⟩ 0 ⟨#[]⟩ ⟨#[]⟩ (.slice none 0 0) (.slice (some ⟨g31, 0, none⟩) (1 + 1) cap32)) rfl)
    clear S35
    refine anyT_done (by kernel_rfl) ?_ _
    generalize w33.setCell ⟨w2.heap.size, 9, none⟩ (.slice (some ⟨g31, 0, none⟩) (1 + 1) cap32) = w38 at S37 ⊢
    have S39 := Lib.hid (S37.out.snoc rfl)
    clear S37
    cases hr
    replace hok36 : OkR W.heap.size 10 (.slice (some ⟨g31, 0, none⟩) (1 + 1) cap32) cur34 2 (flat [c10, c27]) := by have e := hok36; rw [← flat_append] at e; exact e
    have S40 := Lib.hid (S39.out.shut [c10, c27] [n6, n23] rfl hok36 (fun z hz => hz) 10 (placeZ ws en i) ⟨#[]⟩)
    clear S39
    go_wp2_with (first
      | (refine ld_node rfl _ rfl _ rfl _ (S40.out.blk _ _ _ (.head _)) rfl ?_)
      | (refine st_node rfl _ _ rfl _ _ rfl rfl _ (S40.out.blk _ _ _ (.tail _ (.head _))) rfl rfl (by first | (simp [ndCells, Value.oneCell']; done) | exact nd_one rfl hok.one | exact nd_one hok.one rfl) ?_))
    have S41 := Lib.hid (S40.out.setRow 1 _ _ _ (ndCells 10 (placeZ ws en i) ⟨#[]⟩ 0 ⟨#[]⟩ ⟨#[]⟩ (.slice none 0 0) (.slice (some ⟨g31, 0, none⟩) (1 + 1) cap32)) rfl)
    clear S40
    refine ret_node rfl _ _ rfl (S41.out.blk _ _ _ (.tail _ (.head _))) rfl rfl ?_
    first | exact S41.out.done | (have e := S41.out.done; simp only [Int.add_sub_cancel] at e; exact e) | (simp only [Int.add_sub_cancel]; exact S41.out.done)
  | false =>
    rw [if_neg (by rw [hb17]; decide)] at hr
    refine (take_calls _ _ ⟨#[99, 97, 116, 99, 104]⟩ _ false hb17 (cell_top _ _ _ _ (by simp)) S16.out.row).mono ?_
    rintro _ w42 ⟨rfl, hrw, hk⟩
    replace hrw : Rw p vw ws en i7 _ _ := hrw
    have S43 := Lib.hid (S16.out.call hrw hk)
    clear hrw hk
    have S44 := Lib.hid (S43.out.toOwn 1 1)
    clear S43
    have hok : OkR W.heap.size 10 (.slice (some ⟨w11.heap.size, 0, none⟩) 1 1) cur 1 (flat [c10]) := OkR.lit hB hcur (by simp [flat, hszc10]) (by decide)
    cases hr
    have S45 : Hid (St p vw ws en W (· = p) (W.heap.size ≤ ·) ([(w2.heap.size, 28, (ndCells 10 (placeZ ws en i) ⟨#[]⟩ 0 ⟨#[]⟩ ⟨#[]⟩ (.slice none 0 0) (.slice (some ⟨w11.heap.size, 0, none⟩) 1 1))), (W.heap.size, 28, (ndCells 0 0 ⟨#[]⟩ 0 ⟨#[]⟩ ⟨#[]⟩ (.slice none 0 0) (.slice none 0 0)))] ++ own 28 (.slice (some ⟨w11.heap.size, 0, none⟩) 1 1) cur) ([c10].zip [n6]) i7 o _) := Lib.hid (S44.out)
    clear S44
    have S46 := Lib.hid (S45.out.shut [c10] [n6] rfl hok (fun z hz => hz) 10 (placeZ ws en i) ⟨#[]⟩)
    clear S45
    go_wp2_with (first
      | (refine ld_node rfl _ rfl _ rfl _ (S46.out.blk _ _ _ (.head _)) rfl ?_)
      | (refine st_node rfl _ _ rfl _ _ rfl rfl _ (S46.out.blk _ _ _ (.tail _ (.head _))) rfl rfl (by first | (simp [ndCells, Value.oneCell']; done) | exact nd_one rfl hok.one | exact nd_one hok.one rfl) ?_))
    have S47 := Lib.hid (S46.out.setRow 1 _ _ _ (ndCells 10 (placeZ ws en i) ⟨#[]⟩ 0 ⟨#[]⟩ ⟨#[]⟩ (.slice none 0 0) (.slice (some ⟨w11.heap.size, 0, none⟩) 1 1)) rfl)
    clear S46
    refine ret_node rfl _ _ rfl (S47.out.blk _ _ _ (.tail _ (.head _))) rfl rfl ?_
    first | exact S47.out.done | (have e := S47.out.done; simp only [Int.add_sub_cancel] at e; exact e) | (simp only [Int.add_sub_cancel]; exact S47.out.done)

set_option maxHeartbeats 8000000 in
set_option maxRecDepth 100000 in
theorem bracket_calls {p : Nat} {vw : Value} {ws : List Tok} {en : Int} {rc : PC → Nat → Int → PR SN} (RC : RcOk p vw ws en rc) {i : Nat} {o : Int} (W : World) (hi : i < ws.length) (F : Nat → Prop) (c0 : Array Value) (n0 : SN) (hc : Nd F W c0 n0) (hF : ¬ F p) (r : Except (Int × Int) (SN × Nat × Int)) (hr : bracketZ ws en rc n0 i o = some r) (h : Rw p vw ws en i o W) :
    Calls Tryd.prog 49 #[.pointer (some ⟨p, 0, none⟩), .agg c0] W (Ends p vw ws en W (IsN fun k => F k ∨ W.heap.size ≤ k) r) := by
  have S0 := Lib.hid (St.start (G := fun k => F k ∨ W.heap.size ≤ k) (V := [(c0, n0)]) h (fun e => e.elim hF (Nat.not_le.2 h.lt)) (fun k hk => Or.inr hk) (fun x hx => by rw [List.mem_singleton] at hx; subst hx; exact hc.carry fun k hk _ => ⟨Or.inl hk, rfl⟩))
  have hszc0 := hc.size
  have honec0 := hc.one
  clear h hc
  go_enter Tryd.func49, Tryd.ntmps49
  go_wp2_with fail
  have S1 := Lib.hid (S0.out.allocAt (W.heap.size) (by simp [World.setCell]) 28 c0)
  clear S0
  have S2 := Lib.hid (S1.out.allocAt (W.heap.size + 1) (by simp [World.setCell]) 28 (ndCells 0 0 ⟨#[]⟩ 0 ⟨#[]⟩ ⟨#[]⟩ (.slice none 0 0) (.slice none 0 0)))
  clear S1
  refine (place_calls _ S2.out.row).mono ?_
  rintro _ w3 ⟨rfl, hd⟩
  have S4 := Lib.hid (S2.out.drawn hd)
  clear S2
  clear hd
  go_wp2_with fail
  unfold bracketZ at hr
  have holo5 := S4.out.row.olo
  rcases PR.cases hr with ⟨x7, hz, rfl⟩ | ⟨u8, i9, o10, hz, hr'⟩
  · refine (opens_calls _ hi _ hz S4.out.row).mono ?_
    rintro _ _ ⟨rfl, hk⟩
    exact ⟨rfl, S4.out.dies hk⟩
  replace hr := hr'
  clear hr'
  refine (opens_calls _ hi _ hz S4.out.row).mono ?_
  rintro _ w6 ⟨⟨_, rfl, rfl⟩, hrw, hk⟩
  obtain ⟨rfl, rfl⟩ := opensZ_ok hz
  have S11 := Lib.hid (S4.out.call hrw hk)
  clear S4
  clear hrw hk hz
  have S12 := Lib.hid (S11.out.allocAt (w6.heap.size) (by simp [World.setCell]) 28 (ndCells 0 0 ⟨#[]⟩ 0 ⟨#[]⟩ ⟨#[]⟩ (.slice none 0 0) (.slice none 0 0)))
  clear S11
  have S13 := Lib.hid (S12.out.allocAt (w6.heap.size + 1) (by simp [World.setCell]) 28 (ndCells 0 0 ⟨#[]⟩ 0 ⟨#[]⟩ ⟨#[]⟩ (.slice none 0 0) (.slice none 0 0)))
  clear S12
  go_wp2_with fail
  have S14 := Lib.hid (S13.out.waste (.cells #[.string ⟨#[93]⟩] 9))
  clear S13
  refine (is_calls _ _ ⟨#[93]⟩ _ (cell_top _ _ _ _ (by simp)) S14.out.row).mono ?_
  rintro _ w15 ⟨rfl, hd⟩
  have S17 := Lib.hid (S14.out.drawn hd)
  clear S14
  clear hd
  cases hb16 : isZ ws (i + 1) ⟨#[93]⟩ with
  | true =>
    rw [if_pos hb16] at hr
    go_wp2_with fail
    refine (closes_calls _ (by omega) ⟨#[93]⟩ _ (closesZ_yes hb16) S17.out.row).mono ?_
    rintro _ w18 ⟨⟨_, rfl, rfl⟩, hrw, hk⟩
    have S19 := Lib.hid (S17.out.call hrw hk)
    clear hrw hk
    cases hr
    go_wp2_with (first
      | (refine ld_node rfl _ rfl _ rfl _ (S19.out.blk _ _ _ (.tail _ (.tail _ (.tail _ (.head _))))) hszc0 ?_)
      | (refine bs_nodes rfl 1 _ rfl [c0] rfl (by intro c hc; simp only [List.mem_cons, List.not_mem_nil, or_false] at hc; rcases hc with rfl <;> first | assumption | rfl) rfl (by decide) (by decide) ?_; intro cur hcur; have S20 := Lib.hid (S19.out.build 9 (placeZ ws en i) ⟨#[]⟩ [c0] [n0] (.cons (S19.out.nds (c0, n0) (.head _)) .nil) (by simp) (by simp) cur hcur))
      | (refine st_nodeO rfl _ _ rfl (W.heap.size + 1) (ndCells 9 (placeZ ws en i) ⟨#[]⟩ 0 ⟨#[]⟩ ⟨#[]⟩ (.slice none 0 0) (.slice (some ⟨w18.heap.size, 0, none⟩) 1 1)) rfl rfl _ (S20.out.blk _ _ _ (.tail _ (.tail _ (.head _)))) rfl rfl (by first | (simp [ndCells, Value.oneCell']; done) | exact nd_one rfl hok.one | exact nd_one hok.one rfl) ?_; intro w21 hwN; have S22 := Lib.hid (S20.out.setRowO 2 _ _ _ (ndCells 9 (placeZ ws en i) ⟨#[]⟩ 0 ⟨#[]⟩ ⟨#[]⟩ (.slice none 0 0) (.slice (some ⟨w18.heap.size, 0, none⟩) 1 1)) rfl hwN); clear hwN))
    refine ret_node rfl _ _ rfl (S22.out.blk _ _ _ (.tail _ (.tail _ (.head _)))) rfl rfl ?_
    first | exact S22.out.done | (have e := S22.out.done; simp only [Int.add_sub_cancel] at e; exact e) | (simp only [Int.add_sub_cancel]; exact S22.out.done)
  | false =>
    rw [if_neg (by rw [hb16]; decide)] at hr
    go_wp2_with fail
    have S23 := Lib.hid (S17.out.waste (.cells #[.string ⟨#[58]⟩] 9))
    cases hb24 : isZ ws (i + 1) ⟨#[58]⟩ with
    | true =>
      rw [if_pos hb24] at hr
      refine (take_calls _ _ ⟨#[58]⟩ _ true hb24 (cell_top _ _ _ _ (by simp)) S23.out.row).mono ?_
      rintro _ w25 ⟨rfl, hrw, hk⟩
      replace hrw : Rw p vw ws en ((i + 1) + 1) _ _ := hrw
      have S26 := Lib.hid (S23.out.call hrw hk)
      clear hrw hk
      go_wp2_with fail
      rcases PR.cases hr with ⟨x30, hz, rfl⟩ | ⟨n27, i28, o29, hz, hr'⟩
      · refine (RC.pipe _ _ _ _ hz S26.out.row).mono ?_
        rintro _ _ ⟨rfl, hk⟩
        exact ⟨rfl, S26.out.dies hk⟩
      replace hr := hr'
      clear hr'
      have ho := (RC.even _ _ _ _ _ _ hz).symm
      subst ho
      refine (RC.pipe _ _ _ _ hz S26.out.row).mono ?_
      rintro _ w32 ⟨⟨_, rfl, hn⟩, hrw, hk⟩
      obtain ⟨c31, rfl, S33⟩ := S26.out.made hrw hk hn
      replace S33 := Lib.hid S33
      have hszc31 := S33.out.fst.size
      have honec31 := S33.out.fst.one
      clear hrw hk hn
      clear S26
      clear hz
      go_wp2_with (first
        | (refine st_nodeO rfl _ _ rfl (w6.heap.size + 1) c31 rfl rfl _ (S33.out.blk _ _ _ (.head _)) hszc31 rfl honec31 ?_; intro w34 hwN; have S35 := Lib.hid (S33.out.setRowO 0 _ _ _ c31 rfl hwN); clear hwN))
      rcases PR.cases hr with ⟨x37, hz, rfl⟩ | ⟨u38, i39, o40, hz, hr'⟩
      · refine (closes_calls _ (by omega) ⟨#[93]⟩ _ hz S35.out.row).mono ?_
        rintro _ _ ⟨rfl, hk⟩
        exact ⟨rfl, S35.out.dies hk⟩
      replace hr := hr'
      clear hr'
      refine (closes_calls _ (by omega) ⟨#[93]⟩ _ hz S35.out.row).mono ?_
      rintro _ w36 ⟨⟨_, rfl, rfl⟩, hrw, hk⟩
      obtain ⟨rfl, rfl⟩ := closesZ_ok hz
      have S41 := Lib.hid (S35.out.call hrw hk)
      clear S35
      clear hrw hk hz
      cases hr
      have S42 := Lib.hid (S41.out.plain 0 0 ⟨#[]⟩ 0 ⟨#[]⟩ ⟨#[]⟩)
      clear S41
      go_wp2_with (first
        | (refine ld_node rfl _ rfl _ rfl _ (S42.out.blk _ _ _ (.tail _ (.tail _ (.tail _ (.head _))))) hszc0 ?_)
        | (refine ld_node rfl _ rfl _ rfl _ (S42.out.blk _ _ _ (.tail _ (.head _))) rfl ?_)
        | (refine ld_node rfl _ rfl _ rfl _ (S42.out.blk _ _ _ (.head _)) hszc31 ?_)
        | (refine bs_nodes rfl 3 _ rfl [c0, (ndCells 0 0 ⟨#[]⟩ 0 ⟨#[]⟩ ⟨#[]⟩ (.slice none 0 0) (.slice none 0 0)), c31] rfl (by intro c hc; simp only [List.mem_cons, List.not_mem_nil, or_false] at hc; rcases hc with rfl | rfl | rfl <;> first | assumption | rfl) rfl (by decide) (by decide) ?_; intro cur hcur; have S43 := Lib.hid (S42.out.build 8 (placeZ ws en i) ⟨#[]⟩ [c0, (ndCells 0 0 ⟨#[]⟩ 0 ⟨#[]⟩ ⟨#[]⟩ (.slice none 0 0) (.slice none 0 0)), c31] [n0, (SN.mk 0 0 ⟨#[]⟩ 0 ⟨#[]⟩ ⟨#[]⟩ [] []), n27] (.cons (S42.out.nds (c0, n0) (.tail _ (.tail _ (.head _)))) (.cons (S42.out.nds ((ndCells 0 0 ⟨#[]⟩ 0 ⟨#[]⟩ ⟨#[]⟩ (.slice none 0 0) (.slice none 0 0)), (SN.mk 0 0 ⟨#[]⟩ 0 ⟨#[]⟩ ⟨#[]⟩ [] [])) (.head _)) (.cons (S42.out.nds (c31, n27) (.tail _ (.head _))) .nil))) (by simp) (by simp) cur hcur))
        | (refine st_nodeO rfl _ _ rfl (W.heap.size + 1) (ndCells 8 (placeZ ws en i) ⟨#[]⟩ 0 ⟨#[]⟩ ⟨#[]⟩ (.slice none 0 0) (.slice (some ⟨w36.heap.size, 0, none⟩) 3 3)) rfl rfl _ (S43.out.blk _ _ _ (.tail _ (.tail _ (.head _)))) rfl rfl (by first | (simp [ndCells, Value.oneCell']; done) | exact nd_one rfl hok.one | exact nd_one hok.one rfl) ?_; intro w44 hwN; have S45 := Lib.hid (S43.out.setRowO 2 _ _ _ (ndCells 8 (placeZ ws en i) ⟨#[]⟩ 0 ⟨#[]⟩ ⟨#[]⟩ (.slice none 0 0) (.slice (some ⟨w36.heap.size, 0, none⟩) 3 3)) rfl hwN); clear hwN))
      refine ret_node rfl _ _ rfl (S45.out.blk _ _ _ (.tail _ (.tail _ (.head _)))) rfl rfl ?_
      first | exact S45.out.done | (have e := S45.out.done; simp only [Int.add_sub_cancel] at e; exact e) | (simp only [Int.add_sub_cancel]; exact S45.out.done)
    | false =>
      rw [if_neg (by rw [hb24]; decide)] at hr
      refine (take_calls _ _ ⟨#[58]⟩ _ false hb24 (cell_top _ _ _ _ (by simp)) S23.out.row).mono ?_
      rintro _ w46 ⟨rfl, hrw, hk⟩
      replace hrw : Rw p vw ws en (i + 1) _ _ := hrw
      have S47 := Lib.hid (S23.out.call hrw hk)
      clear hrw hk
      go_wp2_with fail
      rcases PR.cases hr with ⟨x51, hz, rfl⟩ | ⟨n48, i49, o50, hz, hr'⟩
      · refine (RC.pipe _ _ _ _ hz S47.out.row).mono ?_
        rintro _ _ ⟨rfl, hk⟩
        exact ⟨rfl, S47.out.dies hk⟩
      replace hr := hr'
      clear hr'
      have ho := (RC.even _ _ _ _ _ _ hz).symm
      subst ho
      refine (RC.pipe _ _ _ _ hz S47.out.row).mono ?_
      rintro _ w53 ⟨⟨_, rfl, hn⟩, hrw, hk⟩
      obtain ⟨c52, rfl, S54⟩ := S47.out.made hrw hk hn
      replace S54 := Lib.hid S54
      have hszc52 := S54.out.fst.size
      have honec52 := S54.out.fst.one
      clear hrw hk hn
      clear S47
      clear hz
      go_wp2_with (first
        | (refine st_nodeO rfl _ _ rfl (w6.heap.size) c52 rfl rfl _ (S54.out.blk _ _ _ (.tail _ (.head _))) hszc52 rfl honec52 ?_; intro w55 hwN; have S56 := Lib.hid (S54.out.setRowO 1 _ _ _ c52 rfl hwN); clear hwN))
      have S57 := Lib.hid (S56.out.waste (.cells #[.string ⟨#[93]⟩] 9))
      clear S56
      refine (is_calls _ _ ⟨#[93]⟩ _ (cell_top _ _ _ _ (by simp)) S57.out.row).mono ?_
      rintro _ w58 ⟨rfl, hd⟩
      have S60 := Lib.hid (S57.out.drawn hd)
      clear S57
      clear hd
      cases hb59 : isZ ws i49 ⟨#[93]⟩ with
      | true =>
        rw [if_pos hb59] at hr
        go_wp2_with fail
        refine (closes_calls _ (by omega) ⟨#[93]⟩ _ (closesZ_yes hb59) S60.out.row).mono ?_
        rintro _ w61 ⟨⟨_, rfl, rfl⟩, hrw, hk⟩
        have S62 := Lib.hid (S60.out.call hrw hk)
        clear hrw hk
        cases hr
        go_wp2_with (first
          | (refine ld_node rfl _ rfl _ rfl _ (S62.out.blk _ _ _ (.tail _ (.tail _ (.tail _ (.head _))))) hszc0 ?_)
          | (refine ld_node rfl _ rfl _ rfl _ (S62.out.blk _ _ _ (.tail _ (.head _))) hszc52 ?_)
          | (refine bs_nodes rfl 2 _ rfl [c0, c52] rfl (by intro c hc; simp only [List.mem_cons, List.not_mem_nil, or_false] at hc; rcases hc with rfl | rfl <;> first | assumption | rfl) rfl (by decide) (by decide) ?_; intro cur hcur; have S63 := Lib.hid (S62.out.build 7 (placeZ ws en i) ⟨#[]⟩ [c0, c52] [n0, n48] (.cons (S62.out.nds (c0, n0) (.tail _ (.head _))) (.cons (S62.out.nds (c52, n48) (.head _)) .nil)) (by simp) (by simp) cur hcur))
          | (refine st_nodeO rfl _ _ rfl (W.heap.size + 1) (ndCells 7 (placeZ ws en i) ⟨#[]⟩ 0 ⟨#[]⟩ ⟨#[]⟩ (.slice none 0 0) (.slice (some ⟨w61.heap.size, 0, none⟩) 2 2)) rfl rfl _ (S63.out.blk _ _ _ (.tail _ (.tail _ (.head _)))) rfl rfl (by first | (simp [ndCells, Value.oneCell']; done) | exact nd_one rfl hok.one | exact nd_one hok.one rfl) ?_; intro w64 hwN; have S65 := Lib.hid (S63.out.setRowO 2 _ _ _ (ndCells 7 (placeZ ws en i) ⟨#[]⟩ 0 ⟨#[]⟩ ⟨#[]⟩ (.slice none 0 0) (.slice (some ⟨w61.heap.size, 0, none⟩) 2 2)) rfl hwN); clear hwN))
        refine ret_node rfl _ _ rfl (S65.out.blk _ _ _ (.tail _ (.tail _ (.head _)))) rfl rfl ?_
        first | exact S65.out.done | (have e := S65.out.done; simp only [Int.add_sub_cancel] at e; exact e) | (simp only [Int.add_sub_cancel]; exact S65.out.done)
      | false =>
        rw [if_neg (by rw [hb59]; decide)] at hr
        go_wp2_with fail
        rcases PR.cases hr with ⟨x67, hz, rfl⟩ | ⟨u68, i69, o70, hz, hr'⟩
        · refine (want_calls _ ⟨#[58]⟩ _ hz S60.out.row).mono ?_
          rintro _ _ ⟨rfl, hk⟩
          exact ⟨rfl, S60.out.dies hk⟩
        replace hr := hr'
        clear hr'
        refine (want_calls _ ⟨#[58]⟩ _ hz S60.out.row).mono ?_
        rintro _ w66 ⟨⟨_, rfl, rfl⟩, hrw, hk⟩
        obtain ⟨rfl, rfl⟩ := wantZ_ok hz
        have S71 := Lib.hid (S60.out.call hrw hk)
        clear hrw hk hz
        go_wp2_with fail
        have S72 := Lib.hid (S71.out.waste (.cells #[.string ⟨#[93]⟩] 9))
        clear S71
        refine (is_calls _ _ ⟨#[93]⟩ _ (cell_top _ _ _ _ (by simp)) S72.out.row).mono ?_
        rintro _ w73 ⟨rfl, hd⟩
        have S75 := Lib.hid (S72.out.drawn hd)
        clear S72
        clear hd
        cases hb74 : isZ ws (i49 + 1) ⟨#[93]⟩ with
        | true =>
          rw [if_pos hb74] at hr
          go_wp2_with fail
          rw [ok_andThen] at hr
          rcases PR.cases hr with ⟨x77, hz, rfl⟩ | ⟨u78, i79, o80, hz, hr'⟩
          · refine (closes_calls _ (by omega) ⟨#[93]⟩ _ hz S75.out.row).mono ?_
            rintro _ _ ⟨rfl, hk⟩
            exact ⟨rfl, S75.out.dies hk⟩
          replace hr := hr'
          clear hr'
          refine (closes_calls _ (by omega) ⟨#[93]⟩ _ hz S75.out.row).mono ?_
          rintro _ w76 ⟨⟨_, rfl, rfl⟩, hrw, hk⟩
          obtain ⟨rfl, rfl⟩ := closesZ_ok hz
          have S81 := Lib.hid (S75.out.call hrw hk)
          clear hrw hk hz
          cases hr
          have S82 := Lib.hid (S81.out.plain 0 0 ⟨#[]⟩ 0 ⟨#[]⟩ ⟨#[]⟩)
          clear S81
          go_wp2_with (first
            | (refine ld_node rfl _ rfl _ rfl _ (S82.out.blk _ _ _ (.tail _ (.tail _ (.tail _ (.head _))))) hszc0 ?_)
            | (refine ld_node rfl _ rfl _ rfl _ (S82.out.blk _ _ _ (.tail _ (.head _))) hszc52 ?_)
            | (refine ld_node rfl _ rfl _ rfl _ (S82.out.blk _ _ _ (.head _)) rfl ?_)
            | (refine bs_nodes rfl 3 _ rfl [c0, c52, (ndCells 0 0 ⟨#[]⟩ 0 ⟨#[]⟩ ⟨#[]⟩ (.slice none 0 0) (.slice none 0 0))] rfl (by intro c hc; simp only [List.mem_cons, List.not_mem_nil, or_false] at hc; rcases hc with rfl | rfl | rfl <;> first | assumption | rfl) rfl (by decide) (by decide) ?_; intro cur hcur; have S83 := Lib.hid (S82.out.build 8 (placeZ ws en i) ⟨#[]⟩ [c0, c52, (ndCells 0 0 ⟨#[]⟩ 0 ⟨#[]⟩ ⟨#[]⟩ (.slice none 0 0) (.slice none 0 0))] [n0, n48, (SN.mk 0 0 ⟨#[]⟩ 0 ⟨#[]⟩ ⟨#[]⟩ [] [])] (.cons (S82.out.nds (c0, n0) (.tail _ (.tail _ (.head _)))) (.cons (S82.out.nds (c52, n48) (.tail _ (.head _))) (.cons (S82.out.nds ((ndCells 0 0 ⟨#[]⟩ 0 ⟨#[]⟩ ⟨#[]⟩ (.slice none 0 0) (.slice none 0 0)), (SN.mk 0 0 ⟨#[]⟩ 0 ⟨#[]⟩ ⟨#[]⟩ [] [])) (.head _)) .nil))) (by simp) (by simp) cur hcur))
            | (refine st_nodeO rfl _ _ rfl (W.heap.size + 1) (ndCells 8 (placeZ ws en i) ⟨#[]⟩ 0 ⟨#[]⟩ ⟨#[]⟩ (.slice none 0 0) (.slice (some ⟨w76.heap.size, 0, none⟩) 3 3)) rfl rfl _ (S83.out.blk _ _ _ (.tail _ (.tail _ (.head _)))) rfl rfl (by first | (simp [ndCells, Value.oneCell']; done) | exact nd_one rfl hok.one | exact nd_one hok.one rfl) ?_; intro w84 hwN; have S85 := Lib.hid (S83.out.setRowO 2 _ _ _ (ndCells 8 (placeZ ws en i) ⟨#[]⟩ 0 ⟨#[]⟩ ⟨#[]⟩ (.slice none 0 0) (.slice (some ⟨w76.heap.size, 0, none⟩) 3 3)) rfl hwN); clear hwN))
          refine ret_node rfl _ _ rfl (S85.out.blk _ _ _ (.tail _ (.tail _ (.head _)))) rfl rfl ?_
          first | exact S85.out.done | (have e := S85.out.done; simp only [Int.add_sub_cancel] at e; exact e) | (simp only [Int.add_sub_cancel]; exact S85.out.done)
        | false =>
          rw [if_neg (by rw [hb74]; decide)] at hr
          go_wp2_with fail
          rcases PR.cases hr with ⟨x89, hz, rfl⟩ | ⟨n86, i87, o88, hz, hr'⟩
          · refine (RC.pipe _ _ _ _ hz S75.out.row).mono ?_
            rintro _ _ ⟨rfl, hk⟩
            exact ⟨rfl, S75.out.dies hk⟩
          replace hr := hr'
          clear hr'
          have ho := (RC.even _ _ _ _ _ _ hz).symm
          subst ho
          refine (RC.pipe _ _ _ _ hz S75.out.row).mono ?_
          rintro _ w91 ⟨⟨_, rfl, hn⟩, hrw, hk⟩
          obtain ⟨c90, rfl, S92⟩ := S75.out.made hrw hk hn
          replace S92 := Lib.hid S92
          have hszc90 := S92.out.fst.size
          have honec90 := S92.out.fst.one
          clear hrw hk hn
          clear hz
          go_wp2_with (first
            | (refine st_nodeO rfl _ _ rfl (w6.heap.size + 1) c90 rfl rfl _ (S92.out.blk _ _ _ (.head _)) hszc90 rfl honec90 ?_; intro w93 hwN; have S94 := Lib.hid (S92.out.setRowO 0 _ _ _ c90 rfl hwN); clear hwN))
          rcases PR.cases hr with ⟨x96, hz, rfl⟩ | ⟨u97, i98, o99, hz, hr'⟩
          · refine (closes_calls _ (by omega) ⟨#[93]⟩ _ hz S94.out.row).mono ?_
            rintro _ _ ⟨rfl, hk⟩
            exact ⟨rfl, S94.out.dies hk⟩
          replace hr := hr'
          clear hr'
          refine (closes_calls _ (by omega) ⟨#[93]⟩ _ hz S94.out.row).mono ?_
          rintro _ w95 ⟨⟨_, rfl, rfl⟩, hrw, hk⟩
          obtain ⟨rfl, rfl⟩ := closesZ_ok hz
          have S100 := Lib.hid (S94.out.call hrw hk)
          clear S94
          clear hrw hk hz
          cases hr
          go_wp2_with (first
            | (refine ld_node rfl _ rfl _ rfl _ (S100.out.blk _ _ _ (.tail _ (.tail _ (.tail _ (.head _))))) hszc0 ?_)
            | (refine ld_node rfl _ rfl _ rfl _ (S100.out.blk _ _ _ (.tail _ (.head _))) hszc52 ?_)
            | (refine ld_node rfl _ rfl _ rfl _ (S100.out.blk _ _ _ (.head _)) hszc90 ?_)
            | (refine bs_nodes rfl 3 _ rfl [c0, c52, c90] rfl (by intro c hc; simp only [List.mem_cons, List.not_mem_nil, or_false] at hc; rcases hc with rfl | rfl | rfl <;> first | assumption | rfl) rfl (by decide) (by decide) ?_; intro cur hcur; have S101 := Lib.hid (S100.out.build 8 (placeZ ws en i) ⟨#[]⟩ [c0, c52, c90] [n0, n48, n86] (.cons (S100.out.nds (c0, n0) (.tail _ (.tail _ (.head _)))) (.cons (S100.out.nds (c52, n48) (.tail _ (.head _))) (.cons (S100.out.nds (c90, n86) (.head _)) .nil))) (by simp) (by simp) cur hcur))
            | (refine st_nodeO rfl _ _ rfl (W.heap.size + 1) (ndCells 8 (placeZ ws en i) ⟨#[]⟩ 0 ⟨#[]⟩ ⟨#[]⟩ (.slice none 0 0) (.slice (some ⟨w95.heap.size, 0, none⟩) 3 3)) rfl rfl _ (S101.out.blk _ _ _ (.tail _ (.tail _ (.head _)))) rfl rfl (by first | (simp [ndCells, Value.oneCell']; done) | exact nd_one rfl hok.one | exact nd_one hok.one rfl) ?_; intro w102 hwN; have S103 := Lib.hid (S101.out.setRowO 2 _ _ _ (ndCells 8 (placeZ ws en i) ⟨#[]⟩ 0 ⟨#[]⟩ ⟨#[]⟩ (.slice none 0 0) (.slice (some ⟨w95.heap.size, 0, none⟩) 3 3)) rfl hwN); clear hwN))
          refine ret_node rfl _ _ rfl (S103.out.blk _ _ _ (.tail _ (.tail _ (.head _)))) rfl rfl ?_
          first | exact S103.out.done | (have e := S103.out.done; simp only [Int.add_sub_cancel] at e; exact e) | (simp only [Int.add_sub_cancel]; exact S103.out.done)

set_option maxHeartbeats 8000000 in
set_option maxRecDepth 100000 in
theorem call_calls {p : Nat} {vw : Value} {ws : List Tok} {en : Int} {rc : PC → Nat → Int → PR SN} (RC : RcOk p vw ws en rc) {i : Nat} {o : Int} (W : World) (k : Nat) (hkb : k ≤ 8589934592) (r : Except (Int × Int) (SN × Nat × Int)) (hr : callZ ws en rc k i o = some r) (h : Rw p vw ws en i o W) :
    Calls Tryd.prog 58 #[.pointer (some ⟨p, 0, none⟩)] W (Ends p vw ws en W (IsN (W.heap.size ≤ ·)) r) := by
  have S0 := Lib.hid (St.start (G := (W.heap.size ≤ ·)) (V := []) h (Nat.not_le.2 h.lt) (fun k hk => hk) (fun _ hx => by cases hx))
  clear h
  go_enter Tryd.func58, Tryd.ntmps58
  go_wp2_with fail
  have S1 := Lib.hid (S0.out.allocAt (W.heap.size) (by simp [World.setCell]) 28 (ndCells 0 0 ⟨#[]⟩ 0 ⟨#[]⟩ ⟨#[]⟩ (.slice none 0 0) (.slice none 0 0)))
  clear S0
  refine (place_calls _ S1.out.row).mono ?_
  rintro _ w2 ⟨rfl, hd⟩
  have S3 := Lib.hid (S1.out.drawn hd)
  clear S1
  clear hd
  go_wp2_with fail
  have S4 := Lib.hid (S3.out.allocAt (w2.heap.size) (by simp [World.setCell]) 28 (ndCells 33 (placeZ ws en i) ⟨#[]⟩ 0 ⟨#[]⟩ ⟨#[]⟩ (.slice none 0 0) (.slice none 0 0)))
  clear S3
  unfold callZ at hr
  rcases PR.cases hr with ⟨x6, hz, rfl⟩ | ⟨u7, i8, o9, hz, hr'⟩
  · refine (name_calls _ 1 (by decide) _ hz S4.out.row).mono ?_
    rintro _ _ ⟨rfl, hk⟩
    exact ⟨rfl, S4.out.dies hk⟩
  replace hr := hr'
  clear hr'
  refine (name_calls _ 1 (by decide) _ hz S4.out.row).mono ?_
  rintro _ w5 ⟨⟨_, rfl, rfl⟩, hrw, hk⟩
  obtain ⟨rfl, rfl, rfl, hkd⟩ := nameZ_ok hz
  have S10 := Lib.hid (S4.out.call hrw hk)
  clear S4
  clear hrw hk hz
  go_wp2_with (first
    | (refine st_cellO rfl _ _ _ rfl (by kernel_rfl) (w2.heap.size) 2 (.string (saidZ ws i)) rfl rfl rfl _ _ (S10.out.blk _ _ _ (.head _)) (by simp [ndCells]) ?_; intro w11 hwN; have S12 := Lib.hid (S10.out.setCellO 0 _ _ _ rfl 2 (.string (saidZ ws i)) (ndCells 33 (placeZ ws en i) (saidZ ws i) 0 ⟨#[]⟩ ⟨#[]⟩ (.slice none 0 0) (.slice none 0 0)) rfl hwN); clear hwN))
  have S13 := Lib.hid (S12.out.waste (.cells #[.string ⟨#[40]⟩] 9))
  clear S12
  refine (is_calls _ _ ⟨#[40]⟩ _ (cell_top _ _ _ _ (by simp)) S13.out.row).mono ?_
  rintro _ w14 ⟨rfl, hd⟩
  have S16 := Lib.hid (S13.out.drawn hd)
  clear S13
  clear hd
  cases hb15 : isZ ws (i + 1) ⟨#[40]⟩ with
  | true =>
    rw [if_pos hb15] at hr
    go_wp2_with fail
    have holo17 := S16.out.row.olo
    rcases PR.cases hr with ⟨x19, hz, rfl⟩ | ⟨u20, i21, o22, hz, hr'⟩
    · refine (opens_calls _ (isZ_lt hb15) _ hz S16.out.row).mono ?_
      rintro _ _ ⟨rfl, hk⟩
      exact ⟨rfl, S16.out.dies hk⟩
    replace hr := hr'
    clear hr'
    refine (opens_calls _ (isZ_lt hb15) _ hz S16.out.row).mono ?_
    rintro _ w18 ⟨⟨_, rfl, rfl⟩, hrw, hk⟩
    obtain ⟨rfl, rfl⟩ := opensZ_ok hz
    have S23 := Lib.hid (S16.out.call hrw hk)
    clear hrw hk hz
    have S24 := Lib.hid (S23.out.toNil 28)
    clear S23
    have hok := OkR.nil W.heap.size 10
    go_wp2_with fail
    refine region_T (fun w => w.cell? ⟨w2.heap.size, 9, none⟩ = some (.slice none 0 0)) (fun j => j == 7) 8 rfl (by kernel_rfl) ?_
    have S25 := Lib.hid (S24.out.drawn (w' := World.drew _) ⟨1, rfl⟩)
    clear S24
    refine anyT_take (i := 0) (oi := _) (v := (.pointer (some ⟨w2.heap.size, 9, none⟩))) (d := (some 23)) rfl rfl (by kernel_rfl) (by kernel_rfl) rfl (by kernel_rfl) (by kernel_rfl) (fun _ _ _ h => h) (Or.inl ⟨by rfl, fun w hS => by go_simp⟩) (S25.out.cell _ _ _ (.head _) 9 (.slice none 0 0) rfl) ?_
    try simp only [Act.put, List.setIfInBounds_toArray, List.set_cons_zero, List.set_cons_succ]
    refine anyT_take (i := 1) (oi := _) (v := (.slice none 0 0)) (d := (some 24)) rfl rfl (by kernel_rfl) (by kernel_rfl) rfl (by kernel_rfl) (by kernel_rfl) (fun _ _ _ h => h) (yl_cell 26 _ rfl (by rfl) (by kernel_rfl) _ _ rfl _ (fun _ h => h)) (S25.out.cell _ _ _ (.head _) 9 (.slice none 0 0) rfl) ?_
    try simp only [Act.put, List.setIfInBounds_toArray, List.set_cons_zero, List.set_cons_succ]
    refine anyT_take (i := 2) (oi := _) (v := (.pointer (some ⟨p, 0, none⟩))) (d := (some 25)) rfl rfl (by kernel_rfl) (by kernel_rfl) rfl (by kernel_rfl) (by kernel_rfl) (fun _ _ _ h => h) (Or.inl ⟨by rfl, fun _ _ => rfl⟩) (S25.out.cell _ _ _ (.head _) 9 (.slice none 0 0) rfl) ?_
    try simp only [Act.put, List.setIfInBounds_toArray, List.set_cons_zero, List.set_cons_succ]
    refine anyT_step (i := 3) (oi := _) rfl (by kernel_rfl) (by rfl) (fun K hK => ?_)
    go_simp
    rcases PR.cases hr with ⟨x29, hz, rfl⟩ | ⟨n26, i27, o28, hz, hr'⟩
    · refine (RC.pipe _ _ _ _ hz S25.out.row).mono ?_
      rintro _ _ ⟨rfl, hk⟩
      exact ⟨rfl, S25.out.dies hk⟩
    replace hr := hr'
    clear hr'
    have ho := (RC.even _ _ _ _ _ _ hz).symm
    subst ho
    refine (RC.pipe _ _ _ _ hz S25.out.row).mono ?_
    rintro _ w31 ⟨⟨_, rfl, hn⟩, hrw, hk⟩
    obtain ⟨c30, rfl, S32⟩ := S25.out.made hrw hk hn
    replace S32 := Lib.hid S32
    have hszc30 := S32.out.fst.size
    have honec30 := S32.out.fst.one
    clear hrw hk hn
    clear S25
    clear hz
    refine hK.out _ _ (fun h => (S32.out.cell _ _ _ (.head _) 9 (.slice none 0 0) rfl)) ?_
    clear hK K
    try simp only [Act.put, List.setIfInBounds_toArray, List.set_cons_zero, List.set_cons_succ]
    refine anyT_step (i := 4) (oi := _) rfl (by kernel_rfl) (by rfl) (fun K hK => ?_)
    refine wp_bs_nodes 1 _ rfl [c30] rfl (by intro c hc; simp only [List.mem_cons, List.not_mem_nil, or_false] at hc; rcases hc with rfl <;> first | assumption | rfl) rfl (by decide) (by decide) ?_
    intro cur2 hcur2
    have S33 := Lib.hid (S32.out.waste (.cells cur2 28))
    clear S32
    refine hK.out (Act.put _ (some 27) _) _ (fun h => (S33.out.cell _ _ _ (.head _) 9 (.slice none 0 0) rfl)) ?_
    clear hK K
    try simp only [Act.put, List.setIfInBounds_toArray, List.set_cons_zero, List.set_cons_succ]
    refine anyT_step (i := 5) (oi := _) rfl (by kernel_rfl) (by rfl) (fun K hK => ?_)
    refine wp_app S33.out hok infoNode nodesU rfl (by decide) (by decide) _ _ rfl rfl _ 1 _ rfl cur2 (heap_alloc_new _ _) (flat [c30]) (by simp [flat, hszc30]) (news_at hcur2) (all_one honec30) (by decide) (by first | omega | (simp only [List.length_append, List.length_cons, List.length_nil]; omega)) (fun g34 cap35 w36 cur37 S38 hok39 => ?_)
    replace S38 := Lib.hid S38
    refine hK.out (Act.put _ (some 28) _) _ (fun h => (S38.out.cell _ _ _ (.head _) 9 (.slice none 0 0) rfl)) ?_
    clear hK K
    try simp only [Act.put, List.setIfInBounds_toArray, List.set_cons_zero, List.set_cons_succ]
    refine anyT_take (i := 6) (oi := _) (v := (.pointer (some ⟨w2.heap.size, 9, none⟩))) (d := (some 29)) rfl rfl (by kernel_rfl) (by kernel_rfl) rfl (by kernel_rfl) (by kernel_rfl) (fun _ _ _ h => h) (Or.inl ⟨by rfl, fun w hS => by go_simp⟩) (S38.out.cell _ _ _ (.head _) 9 (.slice none 0 0) rfl) ?_
    try simp only [Act.put, List.setIfInBounds_toArray, List.set_cons_zero, List.set_cons_succ]
    refine anyT_step (i := 7) (oi := _) rfl (by kernel_rfl) (by rfl) (fun K hK => ?_)
    refine wp_st_cell _ _ _ rfl (by kernel_rfl) (w2.heap.size) 9 (.slice (some ⟨g34, 0, none⟩) (0 + 1) cap35) rfl rfl rfl _ _ (S38.out.blk _ _ _ (.head _)) (by simp [ndCells]) ?_
    refine hK.out (Act.put _ none _) _ (fun h => by cases h) ?_
    clear hK K
    try simp only [Act.put, List.setIfInBounds_toArray, List.set_cons_zero, List.set_cons_succ]
    have S40 : Hid (St p vw ws en W (· = p) (W.heap.size ≤ ·) ([(w2.heap.size, 28, (ndCells 33 (placeZ ws en i) (saidZ ws i) 0 ⟨#[]⟩ ⟨#[]⟩ (.slice none 0 0) (.slice (some ⟨g34, 0, none⟩) (0 + 1) cap35))), (W.heap.size, 28, (ndCells 0 0 ⟨#[]⟩ 0 ⟨#[]⟩ ⟨#[]⟩ (.slice none 0 0) (.slice none 0 0)))] ++ own 28 (.slice (some ⟨g34, 0, none⟩) (0 + 1) cap35) cur37) ((c30, n26) :: []) i27 (o + 1) _) := Lib.hid (S38.out.setCell 0 _ _ _ rfl 9 (.slice (some ⟨g34, 0, none⟩) (0 + 1) cap35) (ndCells 33 (placeZ ws en i) (saidZ ws i) 0 ⟨#[]⟩ ⟨#[]⟩ (.slice none 0 0) (.slice (some ⟨g34, 0, none⟩) (0 + 1) cap35)) rfl)
    clear S38
    refine anyT_done (by kernel_rfl) ?_ _
    generalize w36.setCell ⟨w2.heap.size, 9, none⟩ (.slice (some ⟨g34, 0, none⟩) (0 + 1) cap35) = w41 at S40 ⊢
    replace hok39 : OkR W.heap.size 10 (.slice (some ⟨g34, 0, none⟩) (0 + 1) cap35) cur37 1 (flat [c30]) := hok39
    have HR := Lib.hid hr
    clear hr
    go_wp2_with fail
    have hro := S40.out.row.olo
    go_loopg [] k (fun g wx => ∃ (f i1 : Nat) (l : List SN) (vs : List (Array Value)) (v : Value) (cur : Array Value), g = f ∧ Hid (((argsZ ws rc f l i1 (o + 1)).andThen fun l j o => (closesZ ws en ⟨#[41]⟩ j o).andThen fun _ j o => .ok (ndT 33 (placeZ ws en i) (saidZ ws i) l) j o) = some r) ∧ Hid (vs.length = l.length ∧ l.length + f ≤ k + 1 ∧ OkR W.heap.size 10 v cur l.length (flat vs)) ∧ Hid (St p vw ws en W (· = p) (W.heap.size ≤ ·) ([(w2.heap.size, 28, (ndCells 33 (placeZ ws en i) (saidZ ws i) 0 ⟨#[]⟩ ⟨#[]⟩ (.slice none 0 0) v)), (W.heap.size, 28, (ndCells 0 0 ⟨#[]⟩ 0 ⟨#[]⟩ ⟨#[]⟩ (.slice none 0 0) (.slice none 0 0)))] ++ own 28 v cur) (vs.zip l) i1 (o + 1) wx))
    case atStart => exact ⟨k, _, [n26], [c30], (.slice (some ⟨g34, 0, none⟩) (0 + 1) cap35), cur37, rfl, HR, Lib.hid ⟨rfl, by simp; omega, hok39⟩, S40⟩
    case round =>
      clear HR S40 hszc30 honec30 hok39
      obtain ⟨f, i1, l, vs, v, cur, hg, HR, HF, S⟩ := hrel
      obtain ⟨hvl, hlk, hok⟩ := HF.out
      have hr := HR.out
      obtain ⟨f, rfl⟩ : ∃ m, f = m + 1 := ⟨f - 1, by have : f ≠ 0 := (by rintro rfl; cases hr); omega⟩
      rw [argsZ] at hr
      clear HR HF
      go_wp2_with fail
      have S42 := Lib.hid (S.out.waste (.cells #[.string ⟨#[59]⟩] 9))
      clear S
      cases hb43 : isZ ws i1 ⟨#[59]⟩ with
      | true =>
        rw [if_pos hb43] at hr
        refine (take_calls _ _ ⟨#[59]⟩ _ true hb43 (cell_top _ _ _ _ (by simp)) S42.out.row).mono ?_
        rintro _ w44 ⟨rfl, hrw, hk⟩
        replace hrw : Rw p vw ws en (i1 + 1) _ _ := hrw
        have S45 := Lib.hid (S42.out.call hrw hk)
        clear hrw hk
        rw [andThen_assoc] at hr
        go_wp2_with fail
        refine region_T (fun w => w.cell? ⟨w2.heap.size, 9, none⟩ = some v) (fun j => j == 7) 8 rfl (by kernel_rfl) ?_
        have S46 := Lib.hid (S45.out.drawn (w' := World.drew _) ⟨1, rfl⟩)
        clear S45
        refine anyT_take (i := 0) (oi := _) (v := (.pointer (some ⟨w2.heap.size, 9, none⟩))) (d := (some 35)) rfl rfl (by kernel_rfl) (by kernel_rfl) rfl (by kernel_rfl) (by kernel_rfl) (fun _ _ _ h => h) (Or.inl ⟨by rfl, fun w hS => by go_simp⟩) (S46.out.cell _ _ _ (.head _) 9 v rfl) ?_
        try simp only [Act.put, List.setIfInBounds_toArray, List.set_cons_zero, List.set_cons_succ]
        refine anyT_take (i := 1) (oi := _) (v := v) (d := (some 36)) rfl rfl (by kernel_rfl) (by kernel_rfl) rfl (by kernel_rfl) (by kernel_rfl) (fun _ _ _ h => h) (yl_cell 26 _ rfl (by rfl) (by kernel_rfl) _ _ rfl _ (fun _ h => h)) (S46.out.cell _ _ _ (.head _) 9 v rfl) ?_
        try simp only [Act.put, List.setIfInBounds_toArray, List.set_cons_zero, List.set_cons_succ]
        refine anyT_take (i := 2) (oi := _) (v := (.pointer (some ⟨p, 0, none⟩))) (d := (some 37)) rfl rfl (by kernel_rfl) (by kernel_rfl) rfl (by kernel_rfl) (by kernel_rfl) (fun _ _ _ h => h) (Or.inl ⟨by rfl, fun _ _ => rfl⟩) (S46.out.cell _ _ _ (.head _) 9 v rfl) ?_
        try simp only [Act.put, List.setIfInBounds_toArray, List.set_cons_zero, List.set_cons_succ]
        refine anyT_step (i := 3) (oi := _) rfl (by kernel_rfl) (by rfl) (fun K hK => ?_)
        go_simp
        rcases PR.cases hr with ⟨x50, hz, rfl⟩ | ⟨n47, i48, o49, hz, hr'⟩
        · refine (RC.pipe _ _ _ _ hz S46.out.row).mono ?_
          rintro _ _ ⟨rfl, hk⟩
          exact ⟨rfl, S46.out.dies hk⟩
        replace hr := hr'
        clear hr'
        have ho := (RC.even _ _ _ _ _ _ hz).symm
        subst ho
        refine (RC.pipe _ _ _ _ hz S46.out.row).mono ?_
        rintro _ w52 ⟨⟨_, rfl, hn⟩, hrw, hk⟩
        obtain ⟨c51, rfl, S53⟩ := S46.out.made hrw hk hn
        replace S53 := Lib.hid S53
        have hszc51 := S53.out.fst.size
        have honec51 := S53.out.fst.one
        clear hrw hk hn
        clear S46
        clear hz
        refine hK.out _ _ (fun h => (S53.out.cell _ _ _ (.head _) 9 v rfl)) ?_
        clear hK K
        try simp only [Act.put, List.setIfInBounds_toArray, List.set_cons_zero, List.set_cons_succ]
        refine anyT_step (i := 4) (oi := _) rfl (by kernel_rfl) (by rfl) (fun K hK => ?_)
        refine wp_bs_nodes 1 _ rfl [c51] rfl (by intro c hc; simp only [List.mem_cons, List.not_mem_nil, or_false] at hc; rcases hc with rfl <;> first | assumption | rfl) rfl (by decide) (by decide) ?_
        intro cur2 hcur2
        have S54 := Lib.hid (S53.out.waste (.cells cur2 28))
        clear S53
        refine hK.out (Act.put _ (some 39) _) _ (fun h => (S54.out.cell _ _ _ (.head _) 9 v rfl)) ?_
        clear hK K
        try simp only [Act.put, List.setIfInBounds_toArray, List.set_cons_zero, List.set_cons_succ]
        refine anyT_step (i := 5) (oi := _) rfl (by kernel_rfl) (by rfl) (fun K hK => ?_)
        refine wp_app S54.out hok infoNode nodesU rfl (by decide) (by decide) _ _ rfl rfl _ 1 _ rfl cur2 (heap_alloc_new _ _) (flat [c51]) (by simp [flat, hszc51]) (news_at hcur2) (all_one honec51) (by decide) (by first | omega | (simp only [List.length_append, List.length_cons, List.length_nil]; omega)) (fun g55 cap56 w57 cur58 S59 hok60 => ?_)
        replace S59 := Lib.hid S59
        refine hK.out (Act.put _ (some 40) _) _ (fun h => (S59.out.cell _ _ _ (.head _) 9 v rfl)) ?_
        clear hK K
        try simp only [Act.put, List.setIfInBounds_toArray, List.set_cons_zero, List.set_cons_succ]
        refine anyT_take (i := 6) (oi := _) (v := (.pointer (some ⟨w2.heap.size, 9, none⟩))) (d := (some 41)) rfl rfl (by kernel_rfl) (by kernel_rfl) rfl (by kernel_rfl) (by kernel_rfl) (fun _ _ _ h => h) (Or.inl ⟨by rfl, fun w hS => by go_simp⟩) (S59.out.cell _ _ _ (.head _) 9 v rfl) ?_
        try simp only [Act.put, List.setIfInBounds_toArray, List.set_cons_zero, List.set_cons_succ]
        refine anyT_step (i := 7) (oi := _) rfl (by kernel_rfl) (by rfl) (fun K hK => ?_)
        refine wp_st_cell _ _ _ rfl (by kernel_rfl) (w2.heap.size) 9 (.slice (some ⟨g55, 0, none⟩) (l.length + 1) cap56) rfl rfl rfl _ _ (S59.out.blk _ _ _ (.head _)) (by simp [ndCells]) ?_
        refine hK.out (Act.put _ none _) _ (fun h => by cases h) ?_
        clear hK K
        try simp only [Act.put, List.setIfInBounds_toArray, List.set_cons_zero, List.set_cons_succ]
        have S61 : Hid (St p vw ws en W (· = p) (W.heap.size ≤ ·) ([(w2.heap.size, 28, (ndCells 33 (placeZ ws en i) (saidZ ws i) 0 ⟨#[]⟩ ⟨#[]⟩ (.slice none 0 0) (.slice (some ⟨g55, 0, none⟩) (l.length + 1) cap56))), (W.heap.size, 28, (ndCells 0 0 ⟨#[]⟩ 0 ⟨#[]⟩ ⟨#[]⟩ (.slice none 0 0) (.slice none 0 0)))] ++ own 28 (.slice (some ⟨g55, 0, none⟩) (l.length + 1) cap56) cur58) ((c51, n47) :: vs.zip l) i48 (o + 1) _) := Lib.hid (S59.out.setCell 0 _ _ _ rfl 9 (.slice (some ⟨g55, 0, none⟩) (l.length + 1) cap56) (ndCells 33 (placeZ ws en i) (saidZ ws i) 0 ⟨#[]⟩ ⟨#[]⟩ (.slice none 0 0) (.slice (some ⟨g55, 0, none⟩) (l.length + 1) cap56)) rfl)
        clear S59
        refine anyT_done (by kernel_rfl) ?_ _
        generalize w57.setCell ⟨w2.heap.size, 9, none⟩ (.slice (some ⟨g55, 0, none⟩) (l.length + 1) cap56) = w62 at S61 ⊢
        have S63 := Lib.hid (S61.out.snoc hvl)
        clear S61
        go_wp2_with fail
        go_roundg f
        case rel => exact ⟨f, _, l ++ [n47], vs ++ [c51], (.slice (some ⟨g55, 0, none⟩) (l.length + 1) cap56), cur58, rfl, Lib.hid hr, Lib.hid ⟨by simp [hvl], by simp; omega, (by
          rw [List.length_append, flat_append]
          exact hok60)⟩, S63⟩
        case measure => omega
      | false =>
        rw [if_neg (by rw [hb43]; decide)] at hr
        refine (take_calls _ _ ⟨#[59]⟩ _ false hb43 (cell_top _ _ _ _ (by simp)) S42.out.row).mono ?_
        rintro _ w64 ⟨rfl, hrw, hk⟩
        replace hrw : Rw p vw ws en i1 _ _ := hrw
        have S65 := Lib.hid (S42.out.call hrw hk)
        clear hrw hk
        rw [ok_andThen] at hr
        go_wp2_with fail
        rcases PR.cases hr with ⟨x67, hz, rfl⟩ | ⟨u68, i69, o70, hz, hr'⟩
        · refine (closes_calls _ (by omega) ⟨#[41]⟩ _ hz S65.out.row).mono ?_
          rintro _ _ ⟨rfl, hk⟩
          exact ⟨rfl, S65.out.dies hk⟩
        replace hr := hr'
        clear hr'
        refine (closes_calls _ (by omega) ⟨#[41]⟩ _ hz S65.out.row).mono ?_
        rintro _ w66 ⟨⟨_, rfl, rfl⟩, hrw, hk⟩
        obtain ⟨rfl, rfl⟩ := closesZ_ok hz
        have S71 := Lib.hid (S65.out.call hrw hk)
        clear S65
        clear hrw hk hz
        cases hr
        have S72 := Lib.hid (S71.out.shut vs l hvl hok (fun z hz => hz) 33 (placeZ ws en i) (saidZ ws i))
        clear S71
        go_wp2_with (first
          | (refine ld_node rfl _ rfl _ rfl _ (S72.out.blk _ _ _ (.head _)) rfl ?_)
          | (refine st_node rfl _ _ rfl _ _ rfl rfl _ (S72.out.blk _ _ _ (.tail _ (.head _))) rfl rfl (by first | (simp [ndCells, Value.oneCell']; done) | exact nd_one rfl hok.one | exact nd_one hok.one rfl) ?_))
        have S73 := Lib.hid (S72.out.setRow 1 _ _ _ (ndCells 33 (placeZ ws en i) (saidZ ws i) 0 ⟨#[]⟩ ⟨#[]⟩ (.slice none 0 0) v) rfl)
        clear S72
        refine ret_node rfl _ _ rfl (S73.out.blk _ _ _ (.tail _ (.head _))) rfl rfl ?_
        first | exact S73.out.done | (have e := S73.out.done; simp only [Int.add_sub_cancel] at e; exact e) | (simp only [Int.add_sub_cancel]; exact S73.out.done)
  | false =>
    rw [if_neg (by rw [hb15]; decide)] at hr
    cases hr
    have S74 := Lib.hid (S16.out.plain 33 (placeZ ws en i) (saidZ ws i) 0 ⟨#[]⟩ ⟨#[]⟩)
    go_wp2_with (first
      | (refine ld_node rfl _ rfl _ rfl _ (S74.out.blk _ _ _ (.head _)) rfl ?_)
      | (refine st_node rfl _ _ rfl _ _ rfl rfl _ (S74.out.blk _ _ _ (.tail _ (.head _))) rfl rfl (by first | (simp [ndCells, Value.oneCell']; done) | exact nd_one rfl hok.one | exact nd_one hok.one rfl) ?_))
    have S75 := Lib.hid (S74.out.setRow 1 _ _ _ (ndCells 33 (placeZ ws en i) (saidZ ws i) 0 ⟨#[]⟩ ⟨#[]⟩ (.slice none 0 0) (.slice none 0 0)) rfl)
    clear S74
    refine ret_node rfl _ _ rfl (S75.out.blk _ _ _ (.tail _ (.head _))) rfl rfl ?_
    first | exact S75.out.done | (have e := S75.out.done; simp only [Int.add_sub_cancel] at e; exact e) | (simp only [Int.add_sub_cancel]; exact S75.out.done)

end Go.Proofs.YthlmhnlfcnpocaaDoor.U

namespace Go.Proofs.YthlmhnlfcnpocaaDoor.U
open Go.RowKit Go.Proofs.YthlmhnlfcnpocaaDoorW.PrintWords
set_option linter.unusedSimpArgs false
set_option linter.unusedVariables false

set_option maxHeartbeats 8000000 in
set_option maxRecDepth 100000 in
theorem def_calls {p : Nat} {vw : Value} {ws : List Tok} {en : Int} {rc : PC → Nat → Int → PR SN} (RC : RcOk p vw ws en rc) {i : Nat} {o : Int} (W : World) (hi : i < ws.length) (k : Nat) (hkb : k ≤ 8589934592) (r : Except (Int × Int) (SN × Nat × Int)) (hr : defZ ws en rc k i o = some r) (h : Rw p vw ws en i o W) :
    Calls Tryd.prog 22 #[.pointer (some ⟨p, 0, none⟩)] W (Ends p vw ws en W (IsN (W.heap.size ≤ ·)) r) := by
  have S0 := Lib.hid (St.start (G := (W.heap.size ≤ ·)) (V := []) h (Nat.not_le.2 h.lt) (fun k hk => hk) (fun _ hx => by cases hx))
  clear h
  go_enter Tryd.func22, Tryd.ntmps22
  go_wp2_with fail
  have S1 := Lib.hid (S0.out.allocAt (W.heap.size) (by simp [World.setCell]) 28 (ndCells 0 0 ⟨#[]⟩ 0 ⟨#[]⟩ ⟨#[]⟩ (.slice none 0 0) (.slice none 0 0)))
  clear S0
  refine (place_calls _ S1.out.row).mono ?_
  rintro _ w2 ⟨rfl, hd⟩
  have S3 := Lib.hid (S1.out.drawn hd)
  clear S1
  clear hd
  go_wp2_with fail
  have S4 := Lib.hid (S3.out.allocAt (w2.heap.size) (by simp [World.setCell]) 28 (ndCells 32 (placeZ ws en i) ⟨#[]⟩ 0 ⟨#[]⟩ ⟨#[]⟩ (.slice none 0 0) (.slice none 0 0)))
  clear S3
  unfold defZ at hr
  have holo5 := S4.out.row.olo
  rcases PR.cases hr with ⟨x7, hz, rfl⟩ | ⟨u8, i9, o10, hz, hr'⟩
  · refine (opens_calls _ hi _ hz S4.out.row).mono ?_
    rintro _ _ ⟨rfl, hk⟩
    exact ⟨rfl, S4.out.dies hk⟩
  replace hr := hr'
  clear hr'
  refine (opens_calls _ hi _ hz S4.out.row).mono ?_
  rintro _ w6 ⟨⟨_, rfl, rfl⟩, hrw, hk⟩
  obtain ⟨rfl, rfl⟩ := opensZ_ok hz
  have S11 := Lib.hid (S4.out.call hrw hk)
  clear S4
  clear hrw hk hz
  go_wp2_with fail
  rcases PR.cases hr with ⟨x13, hz, rfl⟩ | ⟨u14, i15, o16, hz, hr'⟩
  · refine (name_calls _ 1 (by decide) _ hz S11.out.row).mono ?_
    rintro _ _ ⟨rfl, hk⟩
    exact ⟨rfl, S11.out.dies hk⟩
  replace hr := hr'
  clear hr'
  refine (name_calls _ 1 (by decide) _ hz S11.out.row).mono ?_
  rintro _ w12 ⟨⟨_, rfl, rfl⟩, hrw, hk⟩
  obtain ⟨rfl, rfl, rfl, hkd⟩ := nameZ_ok hz
  have S17 := Lib.hid (S11.out.call hrw hk)
  clear S11
  clear hrw hk hz
  go_wp2_with (first
    | (refine st_cellO rfl _ _ _ rfl (by kernel_rfl) (w2.heap.size) 2 (.string (saidZ ws (i + 1))) rfl rfl rfl _ _ (S17.out.blk _ _ _ (.head _)) (by simp [ndCells]) ?_; intro w18 hwN; have S19 := Lib.hid (S17.out.setCellO 0 _ _ _ rfl 2 (.string (saidZ ws (i + 1))) (ndCells 32 (placeZ ws en i) (saidZ ws (i + 1)) 0 ⟨#[]⟩ ⟨#[]⟩ (.slice none 0 0) (.slice none 0 0)) rfl hwN); clear hwN))
  have S20 := Lib.hid (S19.out.waste (.cells #[.string ⟨#[40]⟩] 9))
  clear S19
  refine (is_calls _ _ ⟨#[40]⟩ _ (cell_top _ _ _ _ (by simp)) S20.out.row).mono ?_
  rintro _ w21 ⟨rfl, hd⟩
  have S23 := Lib.hid (S20.out.drawn hd)
  clear S20
  clear hd
  cases hb22 : isZ ws ((i + 1) + 1) ⟨#[40]⟩ with
  | true =>
    rw [if_pos hb22] at hr
    rw [andThen_assoc] at hr
    go_wp2_with fail
    have holo24 := S23.out.row.olo
    rcases PR.cases hr with ⟨x26, hz, rfl⟩ | ⟨u27, i28, o29, hz, hr'⟩
    · refine (opens_calls _ (isZ_lt hb22) _ hz S23.out.row).mono ?_
      rintro _ _ ⟨rfl, hk⟩
      exact ⟨rfl, S23.out.dies hk⟩
    replace hr := hr'
    clear hr'
    refine (opens_calls _ (isZ_lt hb22) _ hz S23.out.row).mono ?_
    rintro _ w25 ⟨⟨_, rfl, rfl⟩, hrw, hk⟩
    obtain ⟨rfl, rfl⟩ := opensZ_ok hz
    have S30 := Lib.hid (S23.out.call hrw hk)
    clear hrw hk hz
    rw [andThen_assoc] at hr
    have S31 := Lib.hid (S30.out.toNil 9)
    clear S30
    have hok := OkR.nil W.heap.size 1
    go_wp2_with fail
    refine region_T (fun w => w.cell? ⟨w2.heap.size, 8, none⟩ = some (.slice none 0 0)) (fun j => j == 7) 8 rfl (by kernel_rfl) ?_
    have S32 := Lib.hid (S31.out.drawn (w' := World.drew _) ⟨1, rfl⟩)
    clear S31
    refine anyT_take (i := 0) (oi := _) (v := (.pointer (some ⟨w2.heap.size, 8, none⟩))) (d := (some 28)) rfl rfl (by kernel_rfl) (by kernel_rfl) rfl (by kernel_rfl) (by kernel_rfl) (fun _ _ _ h => h) (Or.inl ⟨by rfl, fun w hS => by go_simp⟩) (S32.out.cell _ _ _ (.head _) 8 (.slice none 0 0) rfl) ?_
    try simp only [Act.put, List.setIfInBounds_toArray, List.set_cons_zero, List.set_cons_succ]
    refine anyT_take (i := 1) (oi := _) (v := (.slice none 0 0)) (d := (some 29)) rfl rfl (by kernel_rfl) (by kernel_rfl) rfl (by kernel_rfl) (by kernel_rfl) (fun _ _ _ h => h) (yl_cell 23 _ rfl (by rfl) (by kernel_rfl) _ _ rfl _ (fun _ h => h)) (S32.out.cell _ _ _ (.head _) 8 (.slice none 0 0) rfl) ?_
    try simp only [Act.put, List.setIfInBounds_toArray, List.set_cons_zero, List.set_cons_succ]
    refine anyT_take (i := 2) (oi := _) (v := (.pointer (some ⟨p, 0, none⟩))) (d := (some 30)) rfl rfl (by kernel_rfl) (by kernel_rfl) rfl (by kernel_rfl) (by kernel_rfl) (fun _ _ _ h => h) (Or.inl ⟨by rfl, fun _ _ => rfl⟩) (S32.out.cell _ _ _ (.head _) 8 (.slice none 0 0) rfl) ?_
    try simp only [Act.put, List.setIfInBounds_toArray, List.set_cons_zero, List.set_cons_succ]
    refine anyT_step (i := 3) (oi := _) rfl (by kernel_rfl) (by rfl) (fun K hK => ?_)
    go_simp
    rcases PR.cases hr with ⟨x36, hz, rfl⟩ | ⟨t33, i34, o35, hz, hr'⟩
    · refine (param_calls _ _ hz S32.out.row).mono ?_
      rintro _ _ ⟨rfl, hk⟩
      exact ⟨rfl, S32.out.dies hk⟩
    replace hr := hr'
    clear hr'
    have ho := (param_even _ _ _ _ _ hz).symm
    subst ho
    refine (param_calls _ _ hz S32.out.row).mono ?_
    rintro _ w37 ⟨⟨_, rfl, rfl⟩, hrw, hk⟩
    have S38 := Lib.hid (S32.out.call hrw hk)
    clear S32
    clear hrw hk hz
    refine hK.out _ _ (fun h => (S38.out.cell _ _ _ (.head _) 8 (.slice none 0 0) rfl)) ?_
    clear hK K
    try simp only [Act.put, List.setIfInBounds_toArray, List.set_cons_zero, List.set_cons_succ]
    refine anyT_step (i := 4) (oi := _) rfl (by kernel_rfl) (by rfl) (fun K hK => ?_)
    go_simp
    have S39 := Lib.hid (S38.out.waste (.cells #[.string t33] 9))
    clear S38
    refine hK.out _ _ (fun h => (S39.out.cell _ _ _ (.head _) 8 (.slice none 0 0) rfl)) ?_
    clear hK K
    try simp only [Act.put, List.setIfInBounds_toArray, List.set_cons_zero, List.set_cons_succ]
    refine anyT_step (i := 5) (oi := _) rfl (by kernel_rfl) (by rfl) (fun K hK => ?_)
    refine wp_app S39.out hok infoStr strsU rfl (by decide) (by decide) _ _ rfl rfl _ 1 _ rfl #[.string t33] (heap_alloc_new _ _) [.string t33] rfl (fun j u hj => by simpa using hj) (by intro u hu; rw [List.mem_singleton] at hu; subst hu; rfl) (by decide) (by omega) (fun g40 cap41 w42 cur43 S44 hok45 => ?_)
    replace S44 := Lib.hid S44
    refine hK.out (Act.put _ (some 33) _) _ (fun h => (S44.out.cell _ _ _ (.head _) 8 (.slice none 0 0) rfl)) ?_
    clear hK K
    try simp only [Act.put, List.setIfInBounds_toArray, List.set_cons_zero, List.set_cons_succ]
    refine anyT_take (i := 6) (oi := _) (v := (.pointer (some ⟨w2.heap.size, 8, none⟩))) (d := (some 34)) rfl rfl (by kernel_rfl) (by kernel_rfl) rfl (by kernel_rfl) (by kernel_rfl) (fun _ _ _ h => h) (Or.inl ⟨by rfl, fun w hS => by go_simp⟩) (S44.out.cell _ _ _ (.head _) 8 (.slice none 0 0) rfl) ?_
    try simp only [Act.put, List.setIfInBounds_toArray, List.set_cons_zero, List.set_cons_succ]
    refine anyT_step (i := 7) (oi := _) rfl (by kernel_rfl) (by rfl) (fun K hK => ?_)
    refine wp_st_cell _ _ _ rfl (by kernel_rfl) (w2.heap.size) 8 (.slice (some ⟨g40, 0, none⟩) (0 + 1) cap41) rfl rfl rfl _ _ (S44.out.blk _ _ _ (.head _)) (by simp [ndCells]) ?_
    refine hK.out (Act.put _ none _) _ (fun h => by cases h) ?_
    clear hK K
    try simp only [Act.put, List.setIfInBounds_toArray, List.set_cons_zero, List.set_cons_succ]
    have S46 : Hid (St p vw ws en W (· = p) (W.heap.size ≤ ·) ([(w2.heap.size, 28, (ndCells 32 (placeZ ws en i) (saidZ ws (i + 1)) 0 ⟨#[]⟩ ⟨#[]⟩ (.slice (some ⟨g40, 0, none⟩) (0 + 1) cap41) (.slice none 0 0))), (W.heap.size, 28, (ndCells 0 0 ⟨#[]⟩ 0 ⟨#[]⟩ ⟨#[]⟩ (.slice none 0 0) (.slice none 0 0)))] ++ own 9 (.slice (some ⟨g40, 0, none⟩) (0 + 1) cap41) cur43) [] i34 ((o + 1) + 1) _) := Lib.hid (S44.out.setCell 0 _ _ _ rfl 8 (.slice (some ⟨g40, 0, none⟩) (0 + 1) cap41) (ndCells 32 (placeZ ws en i) (saidZ ws (i + 1)) 0 ⟨#[]⟩ ⟨#[]⟩ (.slice (some ⟨g40, 0, none⟩) (0 + 1) cap41) (.slice none 0 0)) rfl)
    clear S44
    refine anyT_done (by kernel_rfl) ?_ _
    generalize w42.setCell ⟨w2.heap.size, 8, none⟩ (.slice (some ⟨g40, 0, none⟩) (0 + 1) cap41) = w47 at S46 ⊢
    rw [andThen_assoc] at hr
    have HR := Lib.hid hr
    clear hr
    go_wp2_with fail
    have hro := S46.out.row.olo
    go_loopg [] k (fun g wx => ∃ (f i1 : Nat) (l : List ByteArray) (v : Value) (cur : Array Value), g = f ∧ Hid (((paramsZ ws en f l i1 ((o + 1) + 1)).andThen fun l j o => ((closesZ ws en ⟨#[41]⟩ j o).andThen fun _ j o => .ok l j o).andThen fun l j o => (wantZ ws en ⟨#[58]⟩ j o).andThen fun _ j o => (rc .pipe j o).andThen fun body j o => (closesZ ws en ⟨#[59]⟩ j o).andThen fun _ j o => (rc .pipe j o).andThen fun rest j o => .ok (.mk 32 (placeZ ws en i) (saidZ ws (i + 1)) 0 ⟨#[]⟩ ⟨#[]⟩ l [body, rest]) j o) = some r) ∧ Hid (l.length + f ≤ k + 1 ∧ OkR W.heap.size 1 v cur l.length (strs l)) ∧ Hid (St p vw ws en W (· = p) (W.heap.size ≤ ·) ([(w2.heap.size, 28, (ndCells 32 (placeZ ws en i) (saidZ ws (i + 1)) 0 ⟨#[]⟩ ⟨#[]⟩ v (.slice none 0 0))), (W.heap.size, 28, (ndCells 0 0 ⟨#[]⟩ 0 ⟨#[]⟩ ⟨#[]⟩ (.slice none 0 0) (.slice none 0 0)))] ++ own 9 v cur) [] i1 ((o + 1) + 1) wx))
    case atStart => exact ⟨k, _, [t33], (.slice (some ⟨g40, 0, none⟩) (0 + 1) cap41), cur43, rfl, HR, Lib.hid ⟨by simp; omega, hok45⟩, S46⟩
    case round =>
      clear HR S46 hok45
      obtain ⟨f, i1, l, v, cur, hg, HR, HF, S⟩ := hrel
      obtain ⟨hlk, hok⟩ := HF.out
      have hr := HR.out
      obtain ⟨f, rfl⟩ : ∃ m, f = m + 1 := ⟨f - 1, by have : f ≠ 0 := (by rintro rfl; cases hr); omega⟩
      rw [paramsZ] at hr
      clear HR HF
      go_wp2_with fail
      have S48 := Lib.hid (S.out.waste (.cells #[.string ⟨#[59]⟩] 9))
      clear S
      cases hb49 : isZ ws i1 ⟨#[59]⟩ with
      | true =>
        rw [if_pos hb49] at hr
        refine (take_calls _ _ ⟨#[59]⟩ _ true hb49 (cell_top _ _ _ _ (by simp)) S48.out.row).mono ?_
        rintro _ w50 ⟨rfl, hrw, hk⟩
        replace hrw : Rw p vw ws en (i1 + 1) _ _ := hrw
        have S51 := Lib.hid (S48.out.call hrw hk)
        clear hrw hk
        rw [andThen_assoc] at hr
        go_wp2_with fail
        refine region_T (fun w => w.cell? ⟨w2.heap.size, 8, none⟩ = some v) (fun j => j == 7) 8 rfl (by kernel_rfl) ?_
        have S52 := Lib.hid (S51.out.drawn (w' := World.drew _) ⟨1, rfl⟩)
        clear S51
        refine anyT_take (i := 0) (oi := _) (v := (.pointer (some ⟨w2.heap.size, 8, none⟩))) (d := (some 40)) rfl rfl (by kernel_rfl) (by kernel_rfl) rfl (by kernel_rfl) (by kernel_rfl) (fun _ _ _ h => h) (Or.inl ⟨by rfl, fun w hS => by go_simp⟩) (S52.out.cell _ _ _ (.head _) 8 v rfl) ?_
        try simp only [Act.put, List.setIfInBounds_toArray, List.set_cons_zero, List.set_cons_succ]
        refine anyT_take (i := 1) (oi := _) (v := v) (d := (some 41)) rfl rfl (by kernel_rfl) (by kernel_rfl) rfl (by kernel_rfl) (by kernel_rfl) (fun _ _ _ h => h) (yl_cell 23 _ rfl (by rfl) (by kernel_rfl) _ _ rfl _ (fun _ h => h)) (S52.out.cell _ _ _ (.head _) 8 v rfl) ?_
        try simp only [Act.put, List.setIfInBounds_toArray, List.set_cons_zero, List.set_cons_succ]
        refine anyT_take (i := 2) (oi := _) (v := (.pointer (some ⟨p, 0, none⟩))) (d := (some 42)) rfl rfl (by kernel_rfl) (by kernel_rfl) rfl (by kernel_rfl) (by kernel_rfl) (fun _ _ _ h => h) (Or.inl ⟨by rfl, fun _ _ => rfl⟩) (S52.out.cell _ _ _ (.head _) 8 v rfl) ?_
        try simp only [Act.put, List.setIfInBounds_toArray, List.set_cons_zero, List.set_cons_succ]
        refine anyT_step (i := 3) (oi := _) rfl (by kernel_rfl) (by rfl) (fun K hK => ?_)
        go_simp
        rcases PR.cases hr with ⟨x56, hz, rfl⟩ | ⟨t53, i54, o55, hz, hr'⟩
        · refine (param_calls _ _ hz S52.out.row).mono ?_
          rintro _ _ ⟨rfl, hk⟩
          exact ⟨rfl, S52.out.dies hk⟩
        replace hr := hr'
        clear hr'
        have ho := (param_even _ _ _ _ _ hz).symm
        subst ho
        refine (param_calls _ _ hz S52.out.row).mono ?_
        rintro _ w57 ⟨⟨_, rfl, rfl⟩, hrw, hk⟩
        have S58 := Lib.hid (S52.out.call hrw hk)
        clear S52
        clear hrw hk hz
        refine hK.out _ _ (fun h => (S58.out.cell _ _ _ (.head _) 8 v rfl)) ?_
        clear hK K
        try simp only [Act.put, List.setIfInBounds_toArray, List.set_cons_zero, List.set_cons_succ]
        refine anyT_step (i := 4) (oi := _) rfl (by kernel_rfl) (by rfl) (fun K hK => ?_)
        go_simp
        have S59 := Lib.hid (S58.out.waste (.cells #[.string t53] 9))
        clear S58
        refine hK.out _ _ (fun h => (S59.out.cell _ _ _ (.head _) 8 v rfl)) ?_
        clear hK K
        try simp only [Act.put, List.setIfInBounds_toArray, List.set_cons_zero, List.set_cons_succ]
        refine anyT_step (i := 5) (oi := _) rfl (by kernel_rfl) (by rfl) (fun K hK => ?_)
        refine wp_app S59.out hok infoStr strsU rfl (by decide) (by decide) _ _ rfl rfl _ 1 _ rfl #[.string t53] (heap_alloc_new _ _) [.string t53] rfl (fun j u hj => by simpa using hj) (by intro u hu; rw [List.mem_singleton] at hu; subst hu; rfl) (by decide) (by omega) (fun g60 cap61 w62 cur63 S64 hok65 => ?_)
        replace S64 := Lib.hid S64
        refine hK.out (Act.put _ (some 45) _) _ (fun h => (S64.out.cell _ _ _ (.head _) 8 v rfl)) ?_
        clear hK K
        try simp only [Act.put, List.setIfInBounds_toArray, List.set_cons_zero, List.set_cons_succ]
        refine anyT_take (i := 6) (oi := _) (v := (.pointer (some ⟨w2.heap.size, 8, none⟩))) (d := (some 46)) rfl rfl (by kernel_rfl) (by kernel_rfl) rfl (by kernel_rfl) (by kernel_rfl) (fun _ _ _ h => h) (Or.inl ⟨by rfl, fun w hS => by go_simp⟩) (S64.out.cell _ _ _ (.head _) 8 v rfl) ?_
        try simp only [Act.put, List.setIfInBounds_toArray, List.set_cons_zero, List.set_cons_succ]
        refine anyT_step (i := 7) (oi := _) rfl (by kernel_rfl) (by rfl) (fun K hK => ?_)
        refine wp_st_cell _ _ _ rfl (by kernel_rfl) (w2.heap.size) 8 (.slice (some ⟨g60, 0, none⟩) (l.length + 1) cap61) rfl rfl rfl _ _ (S64.out.blk _ _ _ (.head _)) (by simp [ndCells]) ?_
        refine hK.out (Act.put _ none _) _ (fun h => by cases h) ?_
        clear hK K
        try simp only [Act.put, List.setIfInBounds_toArray, List.set_cons_zero, List.set_cons_succ]
        have S66 : Hid (St p vw ws en W (· = p) (W.heap.size ≤ ·) ([(w2.heap.size, 28, (ndCells 32 (placeZ ws en i) (saidZ ws (i + 1)) 0 ⟨#[]⟩ ⟨#[]⟩ (.slice (some ⟨g60, 0, none⟩) (l.length + 1) cap61) (.slice none 0 0))), (W.heap.size, 28, (ndCells 0 0 ⟨#[]⟩ 0 ⟨#[]⟩ ⟨#[]⟩ (.slice none 0 0) (.slice none 0 0)))] ++ own 9 (.slice (some ⟨g60, 0, none⟩) (l.length + 1) cap61) cur63) [] i54 ((o + 1) + 1) _) := Lib.hid (S64.out.setCell 0 _ _ _ rfl 8 (.slice (some ⟨g60, 0, none⟩) (l.length + 1) cap61) (ndCells 32 (placeZ ws en i) (saidZ ws (i + 1)) 0 ⟨#[]⟩ ⟨#[]⟩ (.slice (some ⟨g60, 0, none⟩) (l.length + 1) cap61) (.slice none 0 0)) rfl)
        clear S64
        refine anyT_done (by kernel_rfl) ?_ _
        generalize w62.setCell ⟨w2.heap.size, 8, none⟩ (.slice (some ⟨g60, 0, none⟩) (l.length + 1) cap61) = w67 at S66 ⊢
        go_wp2_with fail
        go_roundg f
        case rel => exact ⟨f, _, l ++ [t53], (.slice (some ⟨g60, 0, none⟩) (l.length + 1) cap61), cur63, rfl, Lib.hid hr, Lib.hid ⟨by simp; omega, (by
          rw [List.length_append, strs_snoc]
          exact hok65)⟩, S66⟩
        case measure => omega
      | false =>
        rw [if_neg (by rw [hb49]; decide)] at hr
        refine (take_calls _ _ ⟨#[59]⟩ _ false hb49 (cell_top _ _ _ _ (by simp)) S48.out.row).mono ?_
        rintro _ w68 ⟨rfl, hrw, hk⟩
        replace hrw : Rw p vw ws en i1 _ _ := hrw
        have S69 := Lib.hid (S48.out.call hrw hk)
        clear hrw hk
        rw [ok_andThen, andThen_assoc] at hr
        go_wp2_with fail
        rcases PR.cases hr with ⟨x71, hz, rfl⟩ | ⟨u72, i73, o74, hz, hr'⟩
        · refine (closes_calls _ (by omega) ⟨#[41]⟩ _ hz S69.out.row).mono ?_
          rintro _ _ ⟨rfl, hk⟩
          exact ⟨rfl, S69.out.dies hk⟩
        replace hr := hr'
        clear hr'
        refine (closes_calls _ (by omega) ⟨#[41]⟩ _ hz S69.out.row).mono ?_
        rintro _ w70 ⟨⟨_, rfl, rfl⟩, hrw, hk⟩
        obtain ⟨rfl, rfl⟩ := closesZ_ok hz
        have S75 := Lib.hid (S69.out.call hrw hk)
        clear S69
        clear hrw hk hz
        rw [ok_andThen] at hr
        go_wp2_with fail
        rcases PR.cases hr with ⟨x77, hz, rfl⟩ | ⟨u78, i79, o80, hz, hr'⟩
        · refine (want_calls _ ⟨#[58]⟩ _ hz S75.out.row).mono ?_
          rintro _ _ ⟨rfl, hk⟩
          exact ⟨rfl, S75.out.dies hk⟩
        replace hr := hr'
        clear hr'
        refine (want_calls _ ⟨#[58]⟩ _ hz S75.out.row).mono ?_
        rintro _ w76 ⟨⟨_, rfl, rfl⟩, hrw, hk⟩
        obtain ⟨rfl, rfl⟩ := wantZ_ok hz
        have S81 := Lib.hid (S75.out.call hrw hk)
        clear S75
        clear hrw hk hz
        go_wp2_with fail
        rcases PR.cases hr with ⟨x85, hz, rfl⟩ | ⟨n82, i83, o84, hz, hr'⟩
        · refine (RC.pipe _ _ _ _ hz S81.out.row).mono ?_
          rintro _ _ ⟨rfl, hk⟩
          exact ⟨rfl, S81.out.dies hk⟩
        replace hr := hr'
        clear hr'
        have ho := (RC.even _ _ _ _ _ _ hz).symm
        subst ho
        refine (RC.pipe _ _ _ _ hz S81.out.row).mono ?_
        rintro _ w87 ⟨⟨_, rfl, hn⟩, hrw, hk⟩
        obtain ⟨c86, rfl, S88⟩ := S81.out.made hrw hk hn
        replace S88 := Lib.hid S88
        have hszc86 := S88.out.fst.size
        have honec86 := S88.out.fst.one
        clear hrw hk hn
        clear S81
        clear hz
        have S89 := Lib.hid (S88.out.allocAt (w87.heap.size) (by simp [World.setCell]) 28 (ndCells 0 0 ⟨#[]⟩ 0 ⟨#[]⟩ ⟨#[]⟩ (.slice none 0 0) (.slice none 0 0)))
        clear S88
        go_wp2_with (first
          | (refine st_nodeO rfl _ _ rfl (w87.heap.size) c86 rfl rfl _ (S89.out.blk _ _ _ (.head _)) hszc86 rfl honec86 ?_; intro w90 hwN; have S91 := Lib.hid (S89.out.setRowO 0 _ _ _ c86 rfl hwN); clear hwN))
        rcases PR.cases hr with ⟨x93, hz, rfl⟩ | ⟨u94, i95, o96, hz, hr'⟩
        · refine (closes_calls _ (by omega) ⟨#[59]⟩ _ hz S91.out.row).mono ?_
          rintro _ _ ⟨rfl, hk⟩
          exact ⟨rfl, S91.out.dies hk⟩
        replace hr := hr'
        clear hr'
        refine (closes_calls _ (by omega) ⟨#[59]⟩ _ hz S91.out.row).mono ?_
        rintro _ w92 ⟨⟨_, rfl, rfl⟩, hrw, hk⟩
        obtain ⟨rfl, rfl⟩ := closesZ_ok hz
        have S97 := Lib.hid (S91.out.call hrw hk)
        clear S91
        clear hrw hk hz
        go_wp2_with fail
        refine region_T (fun w => w.heap[w87.heap.size]? = some (.cells c86 28 (0, 0))) (fun j => j == 5) 6 rfl (by kernel_rfl) ?_
        have S98 := Lib.hid (S97.out.drawn (w' := World.drew _) ⟨1, rfl⟩)
        clear S97
        refine anyT_take (i := 0) (oi := _) (v := (.agg c86)) (d := (some 61)) rfl rfl (by kernel_rfl) (by kernel_rfl) rfl (by kernel_rfl) (by kernel_rfl) (fun _ _ _ h => h) (yl_node _ rfl (by rfl) _ rfl _ (fun _ h => h) hszc86) (S98.out.blk _ _ _ (.head _)) ?_
        try simp only [Act.put, List.setIfInBounds_toArray, List.set_cons_zero, List.set_cons_succ]
        refine anyT_take (i := 1) (oi := _) (v := (.pointer (some ⟨p, 0, none⟩))) (d := (some 62)) rfl rfl (by kernel_rfl) (by kernel_rfl) rfl (by kernel_rfl) (by kernel_rfl) (fun _ _ _ h => h) (Or.inl ⟨by rfl, fun _ _ => rfl⟩) (S98.out.blk _ _ _ (.head _)) ?_
        try simp only [Act.put, List.setIfInBounds_toArray, List.set_cons_zero, List.set_cons_succ]
        refine anyT_step (i := 2) (oi := _) rfl (by kernel_rfl) (by rfl) (fun K hK => ?_)
        go_simp
        rcases PR.cases hr with ⟨x102, hz, rfl⟩ | ⟨n99, i100, o101, hz, hr'⟩
        · refine (RC.pipe _ _ _ _ hz S98.out.row).mono ?_
          rintro _ _ ⟨rfl, hk⟩
          exact ⟨rfl, S98.out.dies hk⟩
        replace hr := hr'
        clear hr'
        have ho := (RC.even _ _ _ _ _ _ hz).symm
        subst ho
        refine (RC.pipe _ _ _ _ hz S98.out.row).mono ?_
        rintro _ w104 ⟨⟨_, rfl, hn⟩, hrw, hk⟩
        obtain ⟨c103, rfl, S105⟩ := S98.out.made hrw hk hn
        replace S105 := Lib.hid S105
        have hszc103 := S105.out.fst.size
        have honec103 := S105.out.fst.one
        clear hrw hk hn
        clear S98
        clear hz
        refine hK.out _ _ (fun h => (S105.out.blk _ _ _ (.head _))) ?_
        clear hK K
        try simp only [Act.put, List.setIfInBounds_toArray, List.set_cons_zero, List.set_cons_succ]
        refine anyT_step (i := 3) (oi := _) rfl (by kernel_rfl) (by rfl) (fun K hK => ?_)
        refine wp_bs_nodes 2 _ rfl [c86, c103] rfl (by intro c hc; simp only [List.mem_cons, List.not_mem_nil, or_false] at hc; rcases hc with rfl | rfl <;> first | assumption | rfl) rfl (by decide) (by decide) ?_
        intro cur2 hcur2
        have S106 := Lib.hid (St.buildN (L := [(w87.heap.size, 28, c86), (w2.heap.size, 28, (ndCells 32 (placeZ ws en i) (saidZ ws (i + 1)) 0 ⟨#[]⟩ ⟨#[]⟩ v (.slice none 0 0))), (W.heap.size, 28, (ndCells 0 0 ⟨#[]⟩ 0 ⟨#[]⟩ ⟨#[]⟩ (.slice none 0 0) (.slice none 0 0)))]) S105.out l hok 32 (placeZ ws en i) (saidZ ws (i + 1)) [c86, c103] [n82, n99] (.cons (S105.out.nds (c86, n82) (.tail _ (.head _))) (.cons (S105.out.nds (c103, n99) (.head _)) .nil)) (by simp) (by simp) cur2 hcur2)
        clear S105
        refine hK.out (Act.put _ (some 64) _) _ (fun h => (S106.out.blk _ _ _ (.head _))) ?_
        clear hK K
        try simp only [Act.put, List.setIfInBounds_toArray, List.set_cons_zero, List.set_cons_succ]
        refine anyT_take (i := 4) (oi := _) (v := (.pointer (some ⟨w2.heap.size, 9, none⟩))) (d := (some 65)) rfl rfl (by kernel_rfl) (by kernel_rfl) rfl (by kernel_rfl) (by kernel_rfl) (fun _ _ _ h => h) (Or.inl ⟨by rfl, fun w hS => by go_simp⟩) (S106.out.blk _ _ _ (.head _)) ?_
        try simp only [Act.put, List.setIfInBounds_toArray, List.set_cons_zero, List.set_cons_succ]
        refine anyT_step (i := 5) (oi := _) rfl (by kernel_rfl) (by rfl) (fun K hK => ?_)
        refine wp_st_cell _ _ _ rfl (by kernel_rfl) (w2.heap.size) 9 (.slice (some ⟨w104.heap.size, 0, none⟩) 2 2) rfl rfl rfl _ _ (S106.out.blk _ _ _ (.tail _ (.head _))) (by simp [ndCells]) ?_
        refine hK.out (Act.put _ none _) _ (fun h => by cases h) ?_
        clear hK K
        try simp only [Act.put, List.setIfInBounds_toArray, List.set_cons_zero, List.set_cons_succ]
        have S107 := Lib.hid (S106.out.setCell 1 _ _ _ rfl 9 (.slice (some ⟨w104.heap.size, 0, none⟩) 2 2) (ndCells 32 (placeZ ws en i) (saidZ ws (i + 1)) 0 ⟨#[]⟩ ⟨#[]⟩ v (.slice (some ⟨w104.heap.size, 0, none⟩) 2 2)) rfl)
        clear S106
        refine anyT_done (by kernel_rfl) ?_ _
        cases hr
        skip
        go_wp2_with (first
          | (refine ld_node rfl _ rfl _ rfl _ (S107.out.blk _ _ _ (.tail _ (.head _))) rfl ?_)
          | (refine st_node rfl _ _ rfl _ _ rfl rfl _ (S107.out.blk _ _ _ (.tail _ (.tail _ (.head _)))) rfl rfl (by first | (simp [ndCells, Value.oneCell']; done) | exact nd_one rfl hok.one | exact nd_one hok.one rfl) ?_))
        have S108 := Lib.hid (S107.out.setRow 2 _ _ _ (ndCells 32 (placeZ ws en i) (saidZ ws (i + 1)) 0 ⟨#[]⟩ ⟨#[]⟩ v (.slice (some ⟨w104.heap.size, 0, none⟩) 2 2)) rfl)
        clear S107
        refine ret_node rfl _ _ rfl (S108.out.blk _ _ _ (.tail _ (.tail _ (.head _)))) rfl rfl ?_
        first | exact S108.out.done | (have e := S108.out.done; simp only [Int.add_sub_cancel] at e; exact e) | (simp only [Int.add_sub_cancel]; exact S108.out.done)
  | false =>
    rw [if_neg (by rw [hb22]; decide)] at hr
    rw [ok_andThen] at hr
    have S109 := Lib.hid (S23.out.toNil 9)
    have hok := OkR.nil W.heap.size 1
    go_wp2_with fail
    rcases PR.cases hr with ⟨x111, hz, rfl⟩ | ⟨u112, i113, o114, hz, hr'⟩
    · refine (want_calls _ ⟨#[58]⟩ _ hz S109.out.row).mono ?_
      rintro _ _ ⟨rfl, hk⟩
      exact ⟨rfl, S109.out.dies hk⟩
    replace hr := hr'
    clear hr'
    refine (want_calls _ ⟨#[58]⟩ _ hz S109.out.row).mono ?_
    rintro _ w110 ⟨⟨_, rfl, rfl⟩, hrw, hk⟩
    obtain ⟨rfl, rfl⟩ := wantZ_ok hz
    have S115 := Lib.hid (S109.out.call hrw hk)
    clear S109
    clear hrw hk hz
    go_wp2_with fail
    rcases PR.cases hr with ⟨x119, hz, rfl⟩ | ⟨n116, i117, o118, hz, hr'⟩
    · refine (RC.pipe _ _ _ _ hz S115.out.row).mono ?_
      rintro _ _ ⟨rfl, hk⟩
      exact ⟨rfl, S115.out.dies hk⟩
    replace hr := hr'
    clear hr'
    have ho := (RC.even _ _ _ _ _ _ hz).symm
    subst ho
    refine (RC.pipe _ _ _ _ hz S115.out.row).mono ?_
    rintro _ w121 ⟨⟨_, rfl, hn⟩, hrw, hk⟩
    obtain ⟨c120, rfl, S122⟩ := S115.out.made hrw hk hn
    replace S122 := Lib.hid S122
    have hszc120 := S122.out.fst.size
    have honec120 := S122.out.fst.one
    clear hrw hk hn
    clear S115
    clear hz
    have S123 := Lib.hid (S122.out.allocAt (w121.heap.size) (by simp [World.setCell]) 28 (ndCells 0 0 ⟨#[]⟩ 0 ⟨#[]⟩ ⟨#[]⟩ (.slice none 0 0) (.slice none 0 0)))
    clear S122
    go_wp2_with (first
      | (refine st_nodeO rfl _ _ rfl (w121.heap.size) c120 rfl rfl _ (S123.out.blk _ _ _ (.head _)) hszc120 rfl honec120 ?_; intro w124 hwN; have S125 := Lib.hid (S123.out.setRowO 0 _ _ _ c120 rfl hwN); clear hwN))
    rcases PR.cases hr with ⟨x127, hz, rfl⟩ | ⟨u128, i129, o130, hz, hr'⟩
    · refine (closes_calls _ (by omega) ⟨#[59]⟩ _ hz S125.out.row).mono ?_
      rintro _ _ ⟨rfl, hk⟩
      exact ⟨rfl, S125.out.dies hk⟩
    replace hr := hr'
    clear hr'
    refine (closes_calls _ (by omega) ⟨#[59]⟩ _ hz S125.out.row).mono ?_
    rintro _ w126 ⟨⟨_, rfl, rfl⟩, hrw, hk⟩
    obtain ⟨rfl, rfl⟩ := closesZ_ok hz
    have S131 := Lib.hid (S125.out.call hrw hk)
    clear S125
    clear hrw hk hz
    go_wp2_with fail
    refine region_T (fun w => w.heap[w121.heap.size]? = some (.cells c120 28 (0, 0))) (fun j => j == 5) 6 rfl (by kernel_rfl) ?_
    have S132 := Lib.hid (S131.out.drawn (w' := World.drew _) ⟨1, rfl⟩)
    clear S131
    refine anyT_take (i := 0) (oi := _) (v := (.agg c120)) (d := (some 61)) rfl rfl (by kernel_rfl) (by kernel_rfl) rfl (by kernel_rfl) (by kernel_rfl) (fun _ _ _ h => h) (yl_node _ rfl (by rfl) _ rfl _ (fun _ h => h) hszc120) (S132.out.blk _ _ _ (.head _)) ?_
    try simp only [Act.put, List.setIfInBounds_toArray, List.set_cons_zero, List.set_cons_succ]
    refine anyT_take (i := 1) (oi := _) (v := (.pointer (some ⟨p, 0, none⟩))) (d := (some 62)) rfl rfl (by kernel_rfl) (by kernel_rfl) rfl (by kernel_rfl) (by kernel_rfl) (fun _ _ _ h => h) (Or.inl ⟨by rfl, fun _ _ => rfl⟩) (S132.out.blk _ _ _ (.head _)) ?_
    try simp only [Act.put, List.setIfInBounds_toArray, List.set_cons_zero, List.set_cons_succ]
    refine anyT_step (i := 2) (oi := _) rfl (by kernel_rfl) (by rfl) (fun K hK => ?_)
    go_simp
    rcases PR.cases hr with ⟨x136, hz, rfl⟩ | ⟨n133, i134, o135, hz, hr'⟩
    · refine (RC.pipe _ _ _ _ hz S132.out.row).mono ?_
      rintro _ _ ⟨rfl, hk⟩
      exact ⟨rfl, S132.out.dies hk⟩
    replace hr := hr'
    clear hr'
    have ho := (RC.even _ _ _ _ _ _ hz).symm
    subst ho
    refine (RC.pipe _ _ _ _ hz S132.out.row).mono ?_
    rintro _ w138 ⟨⟨_, rfl, hn⟩, hrw, hk⟩
    obtain ⟨c137, rfl, S139⟩ := S132.out.made hrw hk hn
    replace S139 := Lib.hid S139
    have hszc137 := S139.out.fst.size
    have honec137 := S139.out.fst.one
    clear hrw hk hn
    clear S132
    clear hz
    refine hK.out _ _ (fun h => (S139.out.blk _ _ _ (.head _))) ?_
    clear hK K
    try simp only [Act.put, List.setIfInBounds_toArray, List.set_cons_zero, List.set_cons_succ]
    refine anyT_step (i := 3) (oi := _) rfl (by kernel_rfl) (by rfl) (fun K hK => ?_)
    refine wp_bs_nodes 2 _ rfl [c120, c137] rfl (by intro c hc; simp only [List.mem_cons, List.not_mem_nil, or_false] at hc; rcases hc with rfl | rfl <;> first | assumption | rfl) rfl (by decide) (by decide) ?_
    intro cur2 hcur2
    have S140 := Lib.hid (St.buildN (L := [(w121.heap.size, 28, c120), (w2.heap.size, 28, (ndCells 32 (placeZ ws en i) (saidZ ws (i + 1)) 0 ⟨#[]⟩ ⟨#[]⟩ (.slice none 0 0) (.slice none 0 0))), (W.heap.size, 28, (ndCells 0 0 ⟨#[]⟩ 0 ⟨#[]⟩ ⟨#[]⟩ (.slice none 0 0) (.slice none 0 0)))]) S139.out [] hok 32 (placeZ ws en i) (saidZ ws (i + 1)) [c120, c137] [n116, n133] (.cons (S139.out.nds (c120, n116) (.tail _ (.head _))) (.cons (S139.out.nds (c137, n133) (.head _)) .nil)) (by simp) (by simp) cur2 hcur2)
    clear S139
    refine hK.out (Act.put _ (some 64) _) _ (fun h => (S140.out.blk _ _ _ (.head _))) ?_
    clear hK K
    try simp only [Act.put, List.setIfInBounds_toArray, List.set_cons_zero, List.set_cons_succ]
    refine anyT_take (i := 4) (oi := _) (v := (.pointer (some ⟨w2.heap.size, 9, none⟩))) (d := (some 65)) rfl rfl (by kernel_rfl) (by kernel_rfl) rfl (by kernel_rfl) (by kernel_rfl) (fun _ _ _ h => h) (Or.inl ⟨by rfl, fun w hS => by go_simp⟩) (S140.out.blk _ _ _ (.head _)) ?_
    try simp only [Act.put, List.setIfInBounds_toArray, List.set_cons_zero, List.set_cons_succ]
    refine anyT_step (i := 5) (oi := _) rfl (by kernel_rfl) (by rfl) (fun K hK => ?_)
    refine wp_st_cell _ _ _ rfl (by kernel_rfl) (w2.heap.size) 9 (.slice (some ⟨w138.heap.size, 0, none⟩) 2 2) rfl rfl rfl _ _ (S140.out.blk _ _ _ (.tail _ (.head _))) (by simp [ndCells]) ?_
    refine hK.out (Act.put _ none _) _ (fun h => by cases h) ?_
    clear hK K
    try simp only [Act.put, List.setIfInBounds_toArray, List.set_cons_zero, List.set_cons_succ]
    have S141 := Lib.hid (S140.out.setCell 1 _ _ _ rfl 9 (.slice (some ⟨w138.heap.size, 0, none⟩) 2 2) (ndCells 32 (placeZ ws en i) (saidZ ws (i + 1)) 0 ⟨#[]⟩ ⟨#[]⟩ (.slice none 0 0) (.slice (some ⟨w138.heap.size, 0, none⟩) 2 2)) rfl)
    clear S140
    refine anyT_done (by kernel_rfl) ?_ _
    cases hr
    skip
    go_wp2_with (first
      | (refine ld_node rfl _ rfl _ rfl _ (S141.out.blk _ _ _ (.tail _ (.head _))) rfl ?_)
      | (refine st_node rfl _ _ rfl _ _ rfl rfl _ (S141.out.blk _ _ _ (.tail _ (.tail _ (.head _)))) rfl rfl (by first | (simp [ndCells, Value.oneCell']; done) | exact nd_one rfl hok.one | exact nd_one hok.one rfl) ?_))
    have S142 := Lib.hid (S141.out.setRow 2 _ _ _ (ndCells 32 (placeZ ws en i) (saidZ ws (i + 1)) 0 ⟨#[]⟩ ⟨#[]⟩ (.slice none 0 0) (.slice (some ⟨w138.heap.size, 0, none⟩) 2 2)) rfl)
    clear S141
    refine ret_node rfl _ _ rfl (S142.out.blk _ _ _ (.tail _ (.tail _ (.head _)))) rfl rfl ?_
    first | exact S142.out.done | (have e := S142.out.done; simp only [Int.add_sub_cancel] at e; exact e) | (simp only [Int.add_sub_cancel]; exact S142.out.done)

end Go.Proofs.YthlmhnlfcnpocaaDoor.U

namespace Go.Proofs.YthlmhnlfcnpocaaDoor.U
open Go.RowKit Go.Proofs.YthlmhnlfcnpocaaDoorW.PrintWords
set_option linter.unusedSimpArgs false
set_option linter.unusedVariables false

set_option maxHeartbeats 8000000 in
set_option maxRecDepth 100000 in
theorem loop_calls {p : Nat} {vw : Value} {ws : List Tok} {en : Int} {rc : PC → Nat → Int → PR SN} (RC : RcOk p vw ws en rc) {i : Nat} {o : Int} (W : World) (hi : i < ws.length) (op : Int) (r : Except (Int × Int) ((ByteArray × List SN) × Nat × Int)) (hr : headZ ws en rc i o = some r) (h : Rw p vw ws en i o W) :
    Calls Tryd.prog 88 #[.pointer (some ⟨p, 0, none⟩), .int .i64 op] W (Ends p vw ws en W (IsL op (placeZ ws en i) W.heap.size) r) := by
  have S0 := Lib.hid (St.start (G := (W.heap.size ≤ ·)) (V := []) h (Nat.not_le.2 h.lt) (fun k hk => hk) (fun _ hx => by cases hx))
  clear h
  go_enter Tryd.func88, Tryd.ntmps88
  go_wp2_with fail
  have S1 := Lib.hid (S0.out.allocAt (W.heap.size) (by simp [World.setCell]) 28 (ndCells 0 0 ⟨#[]⟩ 0 ⟨#[]⟩ ⟨#[]⟩ (.slice none 0 0) (.slice none 0 0)))
  clear S0
  refine (place_calls _ S1.out.row).mono ?_
  rintro _ w2 ⟨rfl, hd⟩
  have S3 := Lib.hid (S1.out.drawn hd)
  clear S1
  clear hd
  have hw1_ := S3.out.wrapU
  go_wp2_with (first
    | (refine ld_cell rfl _ _ rfl (by kernel_rfl) _ _ rfl _ (S3.out.alloc 28 (ndCells op (placeZ ws en i) ⟨#[]⟩ 0 ⟨#[]⟩ ⟨#[]⟩ (.slice none 0 0) (.slice none 0 0))).row.c1 ?_)
    | (refine st_cell rfl _ _ _ rfl (by kernel_rfl) _ _ _ rfl rfl rfl _ _ (S3.out.alloc 28 (ndCells op (placeZ ws en i) ⟨#[]⟩ 0 ⟨#[]⟩ ⟨#[]⟩ (.slice none 0 0) (.slice none 0 0))).row.blk (by simp [rwCells]) ?_))
  clear hw1_
  have S4 := Lib.hid (S3.out.allocAt (w2.heap.size) (by simp [World.setCell]) 28 (ndCells op (placeZ ws en i) ⟨#[]⟩ 0 ⟨#[]⟩ ⟨#[]⟩ (.slice none 0 0) (.slice none 0 0)))
  clear S3
  have S5 := Lib.hid (S4.out.step hi)
  clear S4
  unfold headZ at hr
  rcases PR.cases hr with ⟨x9, hz, rfl⟩ | ⟨n6, i7, o8, hz, hr'⟩
  · refine (RC.post _ _ _ _ hz S5.out.row).mono ?_
    rintro _ _ ⟨rfl, hk⟩
    exact ⟨rfl, S5.out.dies hk⟩
  replace hr := hr'
  clear hr'
  have ho := (RC.even _ _ _ _ _ _ hz).symm
  subst ho
  refine (RC.post _ _ _ _ hz S5.out.row).mono ?_
  rintro _ w11 ⟨⟨_, rfl, hn⟩, hrw, hk⟩
  obtain ⟨c10, rfl, S12⟩ := S5.out.made hrw hk hn
  replace S12 := Lib.hid S12
  have hszc10 := S12.out.fst.size
  have honec10 := S12.out.fst.one
  clear hrw hk hn
  clear S5
  clear hz
  have S13 := Lib.hid (S12.out.allocAt (w11.heap.size) (by simp [World.setCell]) 28 (ndCells 0 0 ⟨#[]⟩ 0 ⟨#[]⟩ ⟨#[]⟩ (.slice none 0 0) (.slice none 0 0)))
  clear S12
  go_wp2_with (first
    | (refine st_nodeO rfl _ _ rfl (w11.heap.size) c10 rfl rfl _ (S13.out.blk _ _ _ (.head _)) hszc10 rfl honec10 ?_; intro w14 hwN; have S15 := Lib.hid (S13.out.setRowO 0 _ _ _ c10 rfl hwN); clear hwN))
  rcases PR.cases hr with ⟨x17, hz, rfl⟩ | ⟨u18, i19, o20, hz, hr'⟩
  · refine (want_calls _ ⟨#[97, 115]⟩ _ hz S15.out.row).mono ?_
    rintro _ _ ⟨rfl, hk⟩
    exact ⟨rfl, S15.out.dies hk⟩
  replace hr := hr'
  clear hr'
  refine (want_calls _ ⟨#[97, 115]⟩ _ hz S15.out.row).mono ?_
  rintro _ w16 ⟨⟨_, rfl, rfl⟩, hrw, hk⟩
  obtain ⟨rfl, rfl⟩ := wantZ_ok hz
  have S21 := Lib.hid (S15.out.call hrw hk)
  clear S15
  clear hrw hk hz
  go_wp2_with fail
  rcases PR.cases hr with ⟨x23, hz, rfl⟩ | ⟨u24, i25, o26, hz, hr'⟩
  · refine (name_calls _ 3 (by decide) _ hz S21.out.row).mono ?_
    rintro _ _ ⟨rfl, hk⟩
    exact ⟨rfl, S21.out.dies hk⟩
  replace hr := hr'
  clear hr'
  refine (name_calls _ 3 (by decide) _ hz S21.out.row).mono ?_
  rintro _ w22 ⟨⟨_, rfl, rfl⟩, hrw, hk⟩
  obtain ⟨rfl, rfl, rfl, hkd⟩ := nameZ_ok hz
  have S27 := Lib.hid (S21.out.call hrw hk)
  clear S21
  clear hrw hk hz
  go_wp2_with (first
    | (refine st_cellO rfl _ _ _ rfl (by kernel_rfl) (w2.heap.size) 2 (.string (saidZ ws (i7 + 1))) rfl rfl rfl _ _ (S27.out.blk _ _ _ (.tail _ (.head _))) (by simp [ndCells]) ?_; intro w28 hwN; have S29 := Lib.hid (S27.out.setCellO 1 _ _ _ rfl 2 (.string (saidZ ws (i7 + 1))) (ndCells op (placeZ ws en i) (saidZ ws (i7 + 1)) 0 ⟨#[]⟩ ⟨#[]⟩ (.slice none 0 0) (.slice none 0 0)) rfl hwN); clear hwN))
  have S30 := Lib.hid (S29.out.waste (.cells #[.string ⟨#[40]⟩] 9))
  clear S29
  refine (is_calls _ _ ⟨#[40]⟩ _ (cell_top _ _ _ _ (by simp)) S30.out.row).mono ?_
  rintro _ w31 ⟨rfl, hd⟩
  have S33 := Lib.hid (S30.out.drawn hd)
  clear S30
  clear hd
  cases hb32 : isZ ws ((i7 + 1) + 1) ⟨#[40]⟩ with
  | true =>
    rw [if_pos hb32] at hr
    go_wp2_with fail
    have holo34 := S33.out.row.olo
    rcases PR.cases hr with ⟨x36, hz, rfl⟩ | ⟨u37, i38, o39, hz, hr'⟩
    · refine (opens_calls _ (isZ_lt hb32) _ hz S33.out.row).mono ?_
      rintro _ _ ⟨rfl, hk⟩
      exact ⟨rfl, S33.out.dies hk⟩
    replace hr := hr'
    clear hr'
    refine (opens_calls _ (isZ_lt hb32) _ hz S33.out.row).mono ?_
    rintro _ w35 ⟨⟨_, rfl, rfl⟩, hrw, hk⟩
    obtain ⟨rfl, rfl⟩ := opensZ_ok hz
    have S40 := Lib.hid (S33.out.call hrw hk)
    clear hrw hk hz
    go_wp2_with fail
    rcases PR.cases hr with ⟨x44, hz, rfl⟩ | ⟨n41, i42, o43, hz, hr'⟩
    · refine (RC.pipe _ _ _ _ hz S40.out.row).mono ?_
      rintro _ _ ⟨rfl, hk⟩
      exact ⟨rfl, S40.out.dies hk⟩
    replace hr := hr'
    clear hr'
    have ho := (RC.even _ _ _ _ _ _ hz).symm
    subst ho
    refine (RC.pipe _ _ _ _ hz S40.out.row).mono ?_
    rintro _ w46 ⟨⟨_, rfl, hn⟩, hrw, hk⟩
    obtain ⟨c45, rfl, S47⟩ := S40.out.made hrw hk hn
    replace S47 := Lib.hid S47
    have hszc45 := S47.out.fst.size
    have honec45 := S47.out.fst.one
    clear hrw hk hn
    clear S40
    clear hz
    have S48 := Lib.hid (S47.out.allocAt (w46.heap.size) (by simp [World.setCell]) 28 (ndCells 0 0 ⟨#[]⟩ 0 ⟨#[]⟩ ⟨#[]⟩ (.slice none 0 0) (.slice none 0 0)))
    clear S47
    go_wp2_with (first
      | (refine st_nodeO rfl _ _ rfl (w46.heap.size) c45 rfl rfl _ (S48.out.blk _ _ _ (.head _)) hszc45 rfl honec45 ?_; intro w49 hwN; have S50 := Lib.hid (S48.out.setRowO 0 _ _ _ c45 rfl hwN); clear hwN))
    rcases PR.cases hr with ⟨x52, hz, rfl⟩ | ⟨u53, i54, o55, hz, hr'⟩
    · refine (want_calls _ ⟨#[59]⟩ _ hz S50.out.row).mono ?_
      rintro _ _ ⟨rfl, hk⟩
      exact ⟨rfl, S50.out.dies hk⟩
    replace hr := hr'
    clear hr'
    refine (want_calls _ ⟨#[59]⟩ _ hz S50.out.row).mono ?_
    rintro _ w51 ⟨⟨_, rfl, rfl⟩, hrw, hk⟩
    obtain ⟨rfl, rfl⟩ := wantZ_ok hz
    have S56 := Lib.hid (S50.out.call hrw hk)
    clear S50
    clear hrw hk hz
    go_wp2_with fail
    refine region_T (fun w => w.heap[w11.heap.size]? = some (.cells c10 28 (0, 0)) ∧ w.heap[w46.heap.size]? = some (.cells c45 28 (0, 0))) (fun j => j == 6) 7 rfl (by kernel_rfl) ?_
    have S57 := Lib.hid (S56.out.drawn (w' := World.drew _) ⟨1, rfl⟩)
    clear S56
    refine anyT_take (i := 0) (oi := _) (v := (.agg c10)) (d := (some 54)) rfl rfl (by kernel_rfl) (by kernel_rfl) rfl (by kernel_rfl) (by kernel_rfl) (fun _ _ _ h => h) (yl_node _ rfl (by rfl) _ rfl _ (fun _ h => h.1) hszc10) ⟨(S57.out.blk _ _ _ (.tail _ (.head _))), (S57.out.blk _ _ _ (.head _))⟩ ?_
    try simp only [Act.put, List.setIfInBounds_toArray, List.set_cons_zero, List.set_cons_succ]
    refine anyT_take (i := 1) (oi := _) (v := (.agg c45)) (d := (some 55)) rfl rfl (by kernel_rfl) (by kernel_rfl) rfl (by kernel_rfl) (by kernel_rfl) (fun _ _ _ h => h) (yl_node _ rfl (by rfl) _ rfl _ (fun _ h => h.2) hszc45) ⟨(S57.out.blk _ _ _ (.tail _ (.head _))), (S57.out.blk _ _ _ (.head _))⟩ ?_
    try simp only [Act.put, List.setIfInBounds_toArray, List.set_cons_zero, List.set_cons_succ]
    refine anyT_take (i := 2) (oi := _) (v := (.pointer (some ⟨p, 0, none⟩))) (d := (some 56)) rfl rfl (by kernel_rfl) (by kernel_rfl) rfl (by kernel_rfl) (by kernel_rfl) (fun _ _ _ h => h) (Or.inl ⟨by rfl, fun _ _ => rfl⟩) ⟨(S57.out.blk _ _ _ (.tail _ (.head _))), (S57.out.blk _ _ _ (.head _))⟩ ?_
    try simp only [Act.put, List.setIfInBounds_toArray, List.set_cons_zero, List.set_cons_succ]
    refine anyT_step (i := 3) (oi := _) rfl (by kernel_rfl) (by rfl) (fun K hK => ?_)
    go_simp
    rcases PR.cases hr with ⟨x61, hz, rfl⟩ | ⟨n58, i59, o60, hz, hr'⟩
    · refine (RC.pipe _ _ _ _ hz S57.out.row).mono ?_
      rintro _ _ ⟨rfl, hk⟩
      exact ⟨rfl, S57.out.dies hk⟩
    replace hr := hr'
    clear hr'
    have ho := (RC.even _ _ _ _ _ _ hz).symm
    subst ho
    refine (RC.pipe _ _ _ _ hz S57.out.row).mono ?_
    rintro _ w63 ⟨⟨_, rfl, hn⟩, hrw, hk⟩
    obtain ⟨c62, rfl, S64⟩ := S57.out.made hrw hk hn
    replace S64 := Lib.hid S64
    have hszc62 := S64.out.fst.size
    have honec62 := S64.out.fst.one
    clear hrw hk hn
    clear S57
    clear hz
    refine hK.out _ _ (fun h => ⟨(S64.out.blk _ _ _ (.tail _ (.head _))), (S64.out.blk _ _ _ (.head _))⟩) ?_
    clear hK K
    try simp only [Act.put, List.setIfInBounds_toArray, List.set_cons_zero, List.set_cons_succ]
    refine anyT_step (i := 4) (oi := _) rfl (by kernel_rfl) (by rfl) (fun K hK => ?_)
    have hB : W.heap.size ≤ w63.heap.size := S64.out.base
    have hl := NdL.carry (F' := (fun k => (W.heap.size ≤ k ∧ k ≠ w63.heap.size) ∧ k ≠ w2.heap.size ∧ k ≠ W.heap.size)) (W' := w63) (fun k hk hlt => ⟨⟨⟨hk.1, Nat.ne_of_lt hlt⟩, hk.2 _ (.tail _ (.tail _ (.head _))), hk.2 _ (.tail _ (.tail _ (.tail _ (.head _))))⟩, rfl⟩) ((NdL.cons (S64.out.nds (c10, n6) (.tail _ (.tail _ (.head _)))) (NdL.cons (S64.out.nds (c45, n41) (.tail _ (.head _))) (NdL.cons (S64.out.nds (c62, n58) (.head _)) NdL.nil))) : NdL _ w63 [c10, c45, c62] [n6, n41, n58])
    refine wp_bs_nodes 3 _ rfl [c10, c45, c62] rfl (by intro c hc; simp only [List.mem_cons, List.not_mem_nil, or_false] at hc; rcases hc with rfl | rfl | rfl <;> first | assumption | rfl) rfl (by decide) (by decide) ?_
    intro cur2 hcur2
    replace hl := NdL.carry (F' := (fun k => (W.heap.size ≤ k ∧ k ≠ w63.heap.size) ∧ k ≠ w2.heap.size ∧ k ≠ W.heap.size)) (W' := w63.alloc (.cells cur2 28)) (fun k hk hlt => ⟨hk, Below.heap_alloc _ _ _ hlt⟩) hl
    have S65 := Lib.hid (S64.out.allocAt (w63.heap.size) rfl 28 cur2)
    clear S64
    refine hK.out (Act.put _ (some 58) _) _ (fun h => ⟨(S65.out.blk _ _ _ (.tail _ (.tail _ (.head _)))), (S65.out.blk _ _ _ (.tail _ (.head _)))⟩) ?_
    clear hK K
    try simp only [Act.put, List.setIfInBounds_toArray, List.set_cons_zero, List.set_cons_succ]
    refine anyT_take (i := 5) (oi := _) (v := (.pointer (some ⟨w2.heap.size, 9, none⟩))) (d := (some 59)) rfl rfl (by kernel_rfl) (by kernel_rfl) rfl (by kernel_rfl) (by kernel_rfl) (fun _ _ _ h => h) (Or.inl ⟨by rfl, fun w hS => by go_simp⟩) ⟨(S65.out.blk _ _ _ (.tail _ (.tail _ (.head _)))), (S65.out.blk _ _ _ (.tail _ (.head _)))⟩ ?_
    try simp only [Act.put, List.setIfInBounds_toArray, List.set_cons_zero, List.set_cons_succ]
    refine anyT_step (i := 6) (oi := _) rfl (by kernel_rfl) (by rfl) (fun K hK => ?_)
    refine wp_st_cell _ _ _ rfl (by kernel_rfl) (w2.heap.size) 9 (.slice (some ⟨w63.heap.size, 0, none⟩) 3 3) rfl rfl rfl _ _ (S65.out.blk _ _ _ (.tail _ (.tail _ (.tail _ (.head _))))) (by simp [ndCells]) ?_
    refine hK.out (Act.put _ none _) _ (fun h => by cases h) ?_
    clear hK K
    try simp only [Act.put, List.setIfInBounds_toArray, List.set_cons_zero, List.set_cons_succ]
    have S66 := Lib.hid (S65.out.setCell 3 _ _ _ rfl 9 (.slice (some ⟨w63.heap.size, 0, none⟩) 3 3) (ndCells op (placeZ ws en i) (saidZ ws (i7 + 1)) 0 ⟨#[]⟩ ⟨#[]⟩ (.slice none 0 0) (.slice (some ⟨w63.heap.size, 0, none⟩) 3 3)) rfl)
    refine anyT_done (by kernel_rfl) ?_ _
    cases hr
    go_wp2_with (first
      | (refine ld_node rfl _ rfl _ rfl _ (S66.out.blk _ _ _ (.tail _ (.tail _ (.tail _ (.head _))))) rfl ?_)
      | (refine st_node rfl _ _ rfl _ _ rfl rfl _ (S66.out.blk _ _ _ (.tail _ (.tail _ (.tail _ (.tail _ (.head _)))))) rfl rfl (by first | (simp [ndCells, Value.oneCell']; done) | exact nd_one rfl hok.one | exact nd_one hok.one rfl) ?_))
    have S67 := Lib.hid (S66.out.setRow 4 _ _ _ (ndCells op (placeZ ws en i) (saidZ ws (i7 + 1)) 0 ⟨#[]⟩ ⟨#[]⟩ (.slice none 0 0) (.slice (some ⟨w63.heap.size, 0, none⟩) 3 3)) rfl)
    clear S66
    refine ret_node rfl _ _ rfl (S67.out.blk _ _ _ (.tail _ (.tail _ (.tail _ (.tail _ (.head _)))))) rfl rfl ?_
    refine ⟨⟨_, rfl, w63.heap.size, _, _, rfl, (S67.out.blk _ _ _ (.head _)), hcur2, hB, ?_, rfl⟩, S67.out.row, S67.out.kep.top⟩
    refine hl.carry fun k hk hlt => ⟨hk.1, ?_⟩
    rw [heap_setRow_ne _ _ _ _ hk.2.2, Below.heap_setCell _ _ _ _ hk.2.1]
  | false =>
    rw [if_neg (by rw [hb32]; decide)] at hr
    have hnot : isZ ws ((i7 + 1) + 1) ⟨#[40]⟩ = false := hb32
    go_wp2_with fail
    rw [failZ_eq] at hr
    cases hr
    refine (fail_calls_row _ S33.out.row).mono ?_
    rintro _ _ ⟨rfl, hd⟩
    exact ⟨rfl, S33.out.dies (Kp.of_drawn hd)⟩

set_option maxHeartbeats 8000000 in
set_option maxRecDepth 100000 in
theorem reduce_calls {p : Nat} {vw : Value} {ws : List Tok} {en : Int} {rc : PC → Nat → Int → PR SN} (RC : RcOk p vw ws en rc) {i : Nat} {o : Int} (W : World) (hi : i < ws.length) (r : Except (Int × Int) (SN × Nat × Int)) (hr : reduceZ ws en rc i o = some r) (h : Rw p vw ws en i o W) :
    Calls Tryd.prog 78 #[.pointer (some ⟨p, 0, none⟩)] W (Ends p vw ws en W (IsN (W.heap.size ≤ ·)) r) := by
  have S0 := Lib.hid (St.start (G := (W.heap.size ≤ ·)) (V := []) h (Nat.not_le.2 h.lt) (fun k hk => hk) (fun _ hx => by cases hx))
  clear h
  go_enter Tryd.func78, Tryd.ntmps78
  go_wp2_with fail
  have S1 := Lib.hid (S0.out.allocAt (W.heap.size) (by simp [World.setCell]) 28 (ndCells 0 0 ⟨#[]⟩ 0 ⟨#[]⟩ ⟨#[]⟩ (.slice none 0 0) (.slice none 0 0)))
  clear S0
  unfold reduceZ at hr
  go_wp2_with fail
  have hol0 := S1.out.row.olo
  rcases PR.cases hr with ⟨x2, hz, rfl⟩ | ⟨⟨nm4, l5⟩, i6, o7, hz, hr'⟩
  · refine (loop_calls RC _ hi 30 _ hz S1.out.row).mono ?_
    rintro _ _ ⟨rfl, hk⟩
    exact ⟨rfl, S1.out.dies hk⟩
  replace hr := hr'
  clear hr'
  have ho := (head_even RC.even _ _ _ _ _ hz).symm
  subst ho
  refine (loop_calls RC _ hi 30 _ hz S1.out.row).mono ?_
  rintro _ w8 ⟨⟨_, rfl, hL⟩, hrw, hk⟩
  obtain ⟨g10, cur11, vs12, rfl, hvl, h3, S9, hok⟩ := S1.out.fromLoop hrw hk hL
  replace S9 := Lib.hid S9
  clear hrw hk hL hz S1
  have holo := S9.out.row.olo
  have S14 : Hid (St p vw ws en W (· = p) (W.heap.size ≤ ·) ([(w8.heap.size, 28, (ndCells 0 0 ⟨#[]⟩ 0 ⟨#[]⟩ ⟨#[]⟩ (.slice none 0 0) (.slice none 0 0))), (W.heap.size, 28, (ndCells 0 0 ⟨#[]⟩ 0 ⟨#[]⟩ ⟨#[]⟩ (.slice none 0 0) (.slice none 0 0)))] ++ own 28 (.slice (some ⟨g10, 0, none⟩) 3 3) cur11) (vs12.zip l5) i6 (o + 1) _) := Lib.hid (S9.out.allocAt (w8.heap.size) rfl 28 (ndCells 0 0 ⟨#[]⟩ 0 ⟨#[]⟩ ⟨#[]⟩ (.slice none 0 0) (.slice none 0 0)))
  clear S9
  go_wp2_with (first
    | (refine st_nodeO rfl _ _ rfl (w8.heap.size) (ndCells 30 (placeZ ws en i) nm4 0 ⟨#[]⟩ ⟨#[]⟩ (.slice none 0 0) (.slice (some ⟨g10, 0, none⟩) 3 3)) rfl rfl _ (S14.out.blk _ _ _ (.head _)) rfl rfl (by first | (simp [ndCells, Value.oneCell']; done) | exact nd_one rfl hok.one | exact nd_one hok.one rfl) ?_; intro w15 hwN; have S16 := Lib.hid (S14.out.setRowO 0 _ _ _ (ndCells 30 (placeZ ws en i) nm4 0 ⟨#[]⟩ ⟨#[]⟩ (.slice none 0 0) (.slice (some ⟨g10, 0, none⟩) 3 3)) rfl hwN); clear hwN))
  have S17 : Hid (St p vw ws en W (· = p) (W.heap.size ≤ ·) ([(w8.heap.size, 28, (ndCells 30 (placeZ ws en i) nm4 0 ⟨#[]⟩ ⟨#[]⟩ (.slice none 0 0) (.slice (some ⟨g10, 0, none⟩) 3 3))), (W.heap.size, 28, (ndCells 0 0 ⟨#[]⟩ 0 ⟨#[]⟩ ⟨#[]⟩ (.slice none 0 0) (.slice none 0 0)))] ++ own 28 (.slice (some ⟨g10, 0, none⟩) 3 3) cur11) (vs12.zip l5) i6 (o + 1) _) := Lib.hid (S16.out)
  clear S16
  rcases PR.cases hr with ⟨x19, hz, rfl⟩ | ⟨u20, i21, o22, hz, hr'⟩
  · refine (closes_calls _ (by omega) ⟨#[41]⟩ _ hz S17.out.row).mono ?_
    rintro _ _ ⟨rfl, hk⟩
    exact ⟨rfl, S17.out.dies hk⟩
  replace hr := hr'
  clear hr'
  refine (closes_calls _ (by omega) ⟨#[41]⟩ _ hz S17.out.row).mono ?_
  rintro _ w18 ⟨⟨_, rfl, rfl⟩, hrw, hk⟩
  obtain ⟨rfl, rfl⟩ := closesZ_ok hz
  have S23 := Lib.hid (S17.out.call hrw hk)
  clear S17
  clear hrw hk hz
  cases hr
  have hok' : OkR W.heap.size 10 (.slice (some ⟨g10, 0, none⟩) 3 3) cur11 l5.length (flat vs12) := by rw [h3]; exact hok
  have S24 := Lib.hid (S23.out.shut vs12 l5 hvl hok' (fun z hz => hz) 30 (placeZ ws en i) nm4)
  clear S23
  go_wp2_with (first
    | (refine ld_node rfl _ rfl _ rfl _ (S24.out.blk _ _ _ (.head _)) rfl ?_)
    | (refine st_node rfl _ _ rfl _ _ rfl rfl _ (S24.out.blk _ _ _ (.tail _ (.head _))) rfl rfl (by first | (simp [ndCells, Value.oneCell']; done) | exact nd_one rfl hok.one | exact nd_one hok.one rfl) ?_))
  have S25 := Lib.hid (S24.out.setRow 1 _ _ _ (ndCells 30 (placeZ ws en i) nm4 0 ⟨#[]⟩ ⟨#[]⟩ (.slice none 0 0) (.slice (some ⟨g10, 0, none⟩) 3 3)) rfl)
  clear S24
  refine ret_node rfl _ _ rfl (S25.out.blk _ _ _ (.tail _ (.head _))) rfl rfl ?_
  first | exact S25.out.done | (have e := S25.out.done; simp only [Int.add_sub_cancel] at e; exact e) | (simp only [Int.add_sub_cancel]; exact S25.out.done)

set_option maxHeartbeats 8000000 in
set_option maxRecDepth 100000 in
theorem foreach_calls {p : Nat} {vw : Value} {ws : List Tok} {en : Int} {rc : PC → Nat → Int → PR SN} (RC : RcOk p vw ws en rc) {i : Nat} {o : Int} (W : World) (hi : i < ws.length) (r : Except (Int × Int) (SN × Nat × Int)) (hr : foreachZ ws en rc i o = some r) (h : Rw p vw ws en i o W) :
    Calls Tryd.prog 79 #[.pointer (some ⟨p, 0, none⟩)] W (Ends p vw ws en W (IsN (W.heap.size ≤ ·)) r) := by
  have S0 := Lib.hid (St.start (G := (W.heap.size ≤ ·)) (V := []) h (Nat.not_le.2 h.lt) (fun k hk => hk) (fun _ hx => by cases hx))
  clear h
  go_enter Tryd.func79, Tryd.ntmps79
  go_wp2_with fail
  have S1 := Lib.hid (S0.out.allocAt (W.heap.size) (by simp [World.setCell]) 28 (ndCells 0 0 ⟨#[]⟩ 0 ⟨#[]⟩ ⟨#[]⟩ (.slice none 0 0) (.slice none 0 0)))
  clear S0
  unfold foreachZ at hr
  go_wp2_with fail
  have hol0 := S1.out.row.olo
  rcases PR.cases hr with ⟨x2, hz, rfl⟩ | ⟨⟨nm4, l5⟩, i6, o7, hz, hr'⟩
  · refine (loop_calls RC _ hi 31 _ hz S1.out.row).mono ?_
    rintro _ _ ⟨rfl, hk⟩
    exact ⟨rfl, S1.out.dies hk⟩
  replace hr := hr'
  clear hr'
  have ho := (head_even RC.even _ _ _ _ _ hz).symm
  subst ho
  refine (loop_calls RC _ hi 31 _ hz S1.out.row).mono ?_
  rintro _ w8 ⟨⟨_, rfl, hL⟩, hrw, hk⟩
  obtain ⟨g10, cur11, vs12, rfl, hvl, h3, S9, hok⟩ := S1.out.fromLoop hrw hk hL
  replace S9 := Lib.hid S9
  clear hrw hk hL hz S1
  have holo := S9.out.row.olo
  have S14 : Hid (St p vw ws en W (· = p) (W.heap.size ≤ ·) ([(w8.heap.size, 28, (ndCells 0 0 ⟨#[]⟩ 0 ⟨#[]⟩ ⟨#[]⟩ (.slice none 0 0) (.slice none 0 0))), (W.heap.size, 28, (ndCells 0 0 ⟨#[]⟩ 0 ⟨#[]⟩ ⟨#[]⟩ (.slice none 0 0) (.slice none 0 0)))] ++ own 28 (.slice (some ⟨g10, 0, none⟩) 3 3) cur11) (vs12.zip l5) i6 (o + 1) _) := Lib.hid (S9.out.allocAt (w8.heap.size) rfl 28 (ndCells 0 0 ⟨#[]⟩ 0 ⟨#[]⟩ ⟨#[]⟩ (.slice none 0 0) (.slice none 0 0)))
  clear S9
  go_wp2_with (first
    | (refine st_nodeO rfl _ _ rfl (w8.heap.size) (ndCells 31 (placeZ ws en i) nm4 0 ⟨#[]⟩ ⟨#[]⟩ (.slice none 0 0) (.slice (some ⟨g10, 0, none⟩) 3 3)) rfl rfl _ (S14.out.blk _ _ _ (.head _)) rfl rfl (by first | (simp [ndCells, Value.oneCell']; done) | exact nd_one rfl hok.one | exact nd_one hok.one rfl) ?_; intro w15 hwN; have S16 := Lib.hid (S14.out.setRowO 0 _ _ _ (ndCells 31 (placeZ ws en i) nm4 0 ⟨#[]⟩ ⟨#[]⟩ (.slice none 0 0) (.slice (some ⟨g10, 0, none⟩) 3 3)) rfl hwN); clear hwN))
  have S17 : Hid (St p vw ws en W (· = p) (W.heap.size ≤ ·) ([(w8.heap.size, 28, (ndCells 31 (placeZ ws en i) nm4 0 ⟨#[]⟩ ⟨#[]⟩ (.slice none 0 0) (.slice (some ⟨g10, 0, none⟩) 3 3))), (W.heap.size, 28, (ndCells 0 0 ⟨#[]⟩ 0 ⟨#[]⟩ ⟨#[]⟩ (.slice none 0 0) (.slice none 0 0)))] ++ own 28 (.slice (some ⟨g10, 0, none⟩) 3 3) cur11) (vs12.zip l5) i6 (o + 1) _) := Lib.hid (S16.out)
  clear S16
  have S18 := Lib.hid (S17.out.waste (.cells #[.string ⟨#[59]⟩] 9))
  clear S17
  cases hb19 : isZ ws i6 ⟨#[59]⟩ with
  | true =>
    rw [if_pos hb19] at hr
    refine (take_calls _ _ ⟨#[59]⟩ _ true hb19 (cell_top _ _ _ _ (by simp)) S18.out.row).mono ?_
    rintro _ w20 ⟨rfl, hrw, hk⟩
    replace hrw : Rw p vw ws en (i6 + 1) _ _ := hrw
    have S21 := Lib.hid (S18.out.call hrw hk)
    clear hrw hk
    rw [andThen_assoc] at hr
    go_wp2_with fail
    refine region_T (fun w => w.cell? ⟨w8.heap.size, 9, none⟩ = some (.slice (some ⟨g10, 0, none⟩) 3 3)) (fun j => j == 7) 8 rfl (by kernel_rfl) ?_
    have S22 := Lib.hid (S21.out.drawn (w' := World.drew _) ⟨1, rfl⟩)
    clear S21
    refine anyT_take (i := 0) (oi := _) (v := (.pointer (some ⟨w8.heap.size, 9, none⟩))) (d := (some 11)) rfl rfl (by kernel_rfl) (by kernel_rfl) rfl (by kernel_rfl) (by kernel_rfl) (fun _ _ _ h => h) (Or.inl ⟨by rfl, fun w hS => by go_simp⟩) (S22.out.cell _ _ _ (.head _) 9 (.slice (some ⟨g10, 0, none⟩) 3 3) rfl) ?_
    try simp only [Act.put, List.setIfInBounds_toArray, List.set_cons_zero, List.set_cons_succ]
    refine anyT_take (i := 1) (oi := _) (v := (.slice (some ⟨g10, 0, none⟩) 3 3)) (d := (some 12)) rfl rfl (by kernel_rfl) (by kernel_rfl) rfl (by kernel_rfl) (by kernel_rfl) (fun _ _ _ h => h) (yl_cell 26 _ rfl (by rfl) (by kernel_rfl) _ _ rfl _ (fun _ h => h)) (S22.out.cell _ _ _ (.head _) 9 (.slice (some ⟨g10, 0, none⟩) 3 3) rfl) ?_
    try simp only [Act.put, List.setIfInBounds_toArray, List.set_cons_zero, List.set_cons_succ]
    refine anyT_take (i := 2) (oi := _) (v := (.pointer (some ⟨p, 0, none⟩))) (d := (some 13)) rfl rfl (by kernel_rfl) (by kernel_rfl) rfl (by kernel_rfl) (by kernel_rfl) (fun _ _ _ h => h) (Or.inl ⟨by rfl, fun _ _ => rfl⟩) (S22.out.cell _ _ _ (.head _) 9 (.slice (some ⟨g10, 0, none⟩) 3 3) rfl) ?_
    try simp only [Act.put, List.setIfInBounds_toArray, List.set_cons_zero, List.set_cons_succ]
    refine anyT_step (i := 3) (oi := _) rfl (by kernel_rfl) (by rfl) (fun K hK => ?_)
    go_simp
    rcases PR.cases hr with ⟨x26, hz, rfl⟩ | ⟨n23, i24, o25, hz, hr'⟩
    · refine (RC.pipe _ _ _ _ hz S22.out.row).mono ?_
      rintro _ _ ⟨rfl, hk⟩
      exact ⟨rfl, S22.out.dies hk⟩
    replace hr := hr'
    clear hr'
    have ho := (RC.even _ _ _ _ _ _ hz).symm
    subst ho
    refine (RC.pipe _ _ _ _ hz S22.out.row).mono ?_
    rintro _ w28 ⟨⟨_, rfl, hn⟩, hrw, hk⟩
    obtain ⟨c27, rfl, S29⟩ := S22.out.made hrw hk hn
    replace S29 := Lib.hid S29
    have hszc27 := S29.out.fst.size
    have honec27 := S29.out.fst.one
    clear hrw hk hn
    clear S22
    clear hz
    refine hK.out _ _ (fun h => (S29.out.cell _ _ _ (.head _) 9 (.slice (some ⟨g10, 0, none⟩) 3 3) rfl)) ?_
    clear hK K
    try simp only [Act.put, List.setIfInBounds_toArray, List.set_cons_zero, List.set_cons_succ]
    refine anyT_step (i := 4) (oi := _) rfl (by kernel_rfl) (by rfl) (fun K hK => ?_)
    refine wp_bs_nodes 1 _ rfl [c27] rfl (by intro c hc; simp only [List.mem_cons, List.not_mem_nil, or_false] at hc; rcases hc with rfl <;> first | assumption | rfl) rfl (by decide) (by decide) ?_
    intro cur2 hcur2
    have S30 := Lib.hid (S29.out.waste (.cells cur2 28))
    clear S29
    refine hK.out (Act.put _ (some 15) _) _ (fun h => (S30.out.cell _ _ _ (.head _) 9 (.slice (some ⟨g10, 0, none⟩) 3 3) rfl)) ?_
    clear hK K
    try simp only [Act.put, List.setIfInBounds_toArray, List.set_cons_zero, List.set_cons_succ]
    refine anyT_step (i := 5) (oi := _) rfl (by kernel_rfl) (by rfl) (fun K hK => ?_)
    refine wp_app S30.out hok infoNode nodesU rfl (by decide) (by decide) _ _ rfl rfl _ 1 _ rfl cur2 (heap_alloc_new _ _) (flat [c27]) (by simp [flat, hszc27]) (news_at hcur2) (all_one honec27) (by decide) (by first | omega | (simp only [List.length_append, List.length_cons, List.length_nil]; omega)) (fun g31 cap32 w33 cur34 S35 hok36 => ?_)
    replace S35 := Lib.hid S35
    refine hK.out (Act.put _ (some 16) _) _ (fun h => (S35.out.cell _ _ _ (.head _) 9 (.slice (some ⟨g10, 0, none⟩) 3 3) rfl)) ?_
    clear hK K
    try simp only [Act.put, List.setIfInBounds_toArray, List.set_cons_zero, List.set_cons_succ]
    refine anyT_take (i := 6) (oi := _) (v := (.pointer (some ⟨w8.heap.size, 9, none⟩))) (d := (some 17)) rfl rfl (by kernel_rfl) (by kernel_rfl) rfl (by kernel_rfl) (by kernel_rfl) (fun _ _ _ h => h) (Or.inl ⟨by rfl, fun w hS => by go_simp⟩) (S35.out.cell _ _ _ (.head _) 9 (.slice (some ⟨g10, 0, none⟩) 3 3) rfl) ?_
    try simp only [Act.put, List.setIfInBounds_toArray, List.set_cons_zero, List.set_cons_succ]
    refine anyT_step (i := 7) (oi := _) rfl (by kernel_rfl) (by rfl) (fun K hK => ?_)
    refine wp_st_cell _ _ _ rfl (by kernel_rfl) (w8.heap.size) 9 (.slice (some ⟨g31, 0, none⟩) (3 + 1) cap32) rfl rfl rfl _ _ (S35.out.blk _ _ _ (.head _)) (by simp [ndCells]) ?_
    refine hK.out (Act.put _ none _) _ (fun h => by cases h) ?_
    clear hK K
    try simp only [Act.put, List.setIfInBounds_toArray, List.set_cons_zero, List.set_cons_succ]
    have S37 : Hid (St p vw ws en W (· = p) (W.heap.size ≤ ·) ([(w8.heap.size, 28, (ndCells 31 (placeZ ws en i) nm4 0 ⟨#[]⟩ ⟨#[]⟩ (.slice none 0 0) (.slice (some ⟨g31, 0, none⟩) (3 + 1) cap32))), (W.heap.size, 28, (ndCells 0 0 ⟨#[]⟩ 0 ⟨#[]⟩ ⟨#[]⟩ (.slice none 0 0) (.slice none 0 0)))] ++ own 28 (.slice (some ⟨g31, 0, none⟩) (3 + 1) cap32) cur34) ((c27, n23) :: vs12.zip l5) i24 (o + 1) _) := Lib.hid (S35.out.setCell 0 _ _ _ rfl 9 (.slice (some ⟨g31, 0, none⟩) (3 + 1) cap32) (ndCells 31 (placeZ ws en i) nm4 0 ⟨#[]⟩ ⟨#[]⟩ (.slice none 0 0) (.slice (some ⟨g31, 0, none⟩) (3 + 1) cap32)) rfl)
    clear S35
    refine anyT_done (by kernel_rfl) ?_ _
    generalize w33.setCell ⟨w8.heap.size, 9, none⟩ (.slice (some ⟨g31, 0, none⟩) (3 + 1) cap32) = w38 at S37 ⊢
    have S39 := Lib.hid (S37.out.snoc hvl)
    clear S37
    rw [ok_andThen] at hr
    go_wp2_with fail
    rcases PR.cases hr with ⟨x41, hz, rfl⟩ | ⟨u42, i43, o44, hz, hr'⟩
    · refine (closes_calls _ (by omega) ⟨#[41]⟩ _ hz S39.out.row).mono ?_
      rintro _ _ ⟨rfl, hk⟩
      exact ⟨rfl, S39.out.dies hk⟩
    replace hr := hr'
    clear hr'
    refine (closes_calls _ (by omega) ⟨#[41]⟩ _ hz S39.out.row).mono ?_
    rintro _ w40 ⟨⟨_, rfl, rfl⟩, hrw, hk⟩
    obtain ⟨rfl, rfl⟩ := closesZ_ok hz
    have S45 := Lib.hid (S39.out.call hrw hk)
    clear S39
    clear hrw hk hz
    cases hr
    have hokz : OkR W.heap.size 10 (.slice (some ⟨g31, 0, none⟩) (3 + 1) cap32) cur34 (l5 ++ [n23]).length (flat (vs12 ++ [c27])) := by
      rw [List.length_append, flat_append, h3]
      exact hok36
    have S46 := Lib.hid (S45.out.shut (vs12 ++ [c27]) (l5 ++ [n23]) (by simp [hvl]) hokz (fun z hz => hz) 31 (placeZ ws en i) nm4)
    clear S45
    go_wp2_with (first
      | (refine ld_node rfl _ rfl _ rfl _ (S46.out.blk _ _ _ (.head _)) rfl ?_)
      | (refine st_node rfl _ _ rfl _ _ rfl rfl _ (S46.out.blk _ _ _ (.tail _ (.head _))) rfl rfl (by first | (simp [ndCells, Value.oneCell']; done) | exact nd_one rfl hok.one | exact nd_one hok.one rfl) ?_))
    have S47 := Lib.hid (S46.out.setRow 1 _ _ _ (ndCells 31 (placeZ ws en i) nm4 0 ⟨#[]⟩ ⟨#[]⟩ (.slice none 0 0) (.slice (some ⟨g31, 0, none⟩) (3 + 1) cap32)) rfl)
    clear S46
    refine ret_node rfl _ _ rfl (S47.out.blk _ _ _ (.tail _ (.head _))) rfl rfl ?_
    first | exact S47.out.done | (have e := S47.out.done; simp only [Int.add_sub_cancel] at e; exact e) | (simp only [Int.add_sub_cancel]; exact S47.out.done)
  | false =>
    rw [if_neg (by rw [hb19]; decide)] at hr
    refine (take_calls _ _ ⟨#[59]⟩ _ false hb19 (cell_top _ _ _ _ (by simp)) S18.out.row).mono ?_
    rintro _ w48 ⟨rfl, hrw, hk⟩
    replace hrw : Rw p vw ws en i6 _ _ := hrw
    have S49 := Lib.hid (S18.out.call hrw hk)
    clear hrw hk
    rw [ok_andThen] at hr
    simp only [List.append_nil] at hr
    go_wp2_with fail
    rcases PR.cases hr with ⟨x51, hz, rfl⟩ | ⟨u52, i53, o54, hz, hr'⟩
    · refine (closes_calls _ (by omega) ⟨#[41]⟩ _ hz S49.out.row).mono ?_
      rintro _ _ ⟨rfl, hk⟩
      exact ⟨rfl, S49.out.dies hk⟩
    replace hr := hr'
    clear hr'
    refine (closes_calls _ (by omega) ⟨#[41]⟩ _ hz S49.out.row).mono ?_
    rintro _ w50 ⟨⟨_, rfl, rfl⟩, hrw, hk⟩
    obtain ⟨rfl, rfl⟩ := closesZ_ok hz
    have S55 := Lib.hid (S49.out.call hrw hk)
    clear S49
    clear hrw hk hz
    cases hr
    have hok' : OkR W.heap.size 10 (.slice (some ⟨g10, 0, none⟩) 3 3) cur11 l5.length (flat vs12) := by rw [h3]; exact hok
    have S56 := Lib.hid (S55.out.shut vs12 l5 hvl hok' (fun z hz => hz) 31 (placeZ ws en i) nm4)
    clear S55
    go_wp2_with (first
      | (refine ld_node rfl _ rfl _ rfl _ (S56.out.blk _ _ _ (.head _)) rfl ?_)
      | (refine st_node rfl _ _ rfl _ _ rfl rfl _ (S56.out.blk _ _ _ (.tail _ (.head _))) rfl rfl (by first | (simp [ndCells, Value.oneCell']; done) | exact nd_one rfl hok.one | exact nd_one hok.one rfl) ?_))
    have S57 := Lib.hid (S56.out.setRow 1 _ _ _ (ndCells 31 (placeZ ws en i) nm4 0 ⟨#[]⟩ ⟨#[]⟩ (.slice none 0 0) (.slice (some ⟨g10, 0, none⟩) 3 3)) rfl)
    clear S56
    refine ret_node rfl _ _ rfl (S57.out.blk _ _ _ (.tail _ (.head _))) rfl rfl ?_
    first | exact S57.out.done | (have e := S57.out.done; simp only [Int.add_sub_cancel] at e; exact e) | (simp only [Int.add_sub_cancel]; exact S57.out.done)

end Go.Proofs.YthlmhnlfcnpocaaDoor.U

namespace Go.Proofs.YthlmhnlfcnpocaaDoor.U
open Go.RowKit Go.Proofs.YthlmhnlfcnpocaaDoorW.PrintWords
set_option linter.unusedSimpArgs false
set_option linter.unusedVariables false

set_option maxHeartbeats 8000000 in
set_option maxRecDepth 100000 in
theorem climb_calls {p : Nat} {vw : Value} {ws : List Tok} {en : Int} {rc : PC → Nat → Int → PR SN} (RC : RcOk p vw ws en rc) {i : Nat} {o : Int} (W : World) (least : Int) (k : Nat) (F : Nat → Prop) (c0 : Array Value) (n0 : SN) (hc : Nd F W c0 n0) (hF : ¬ F p) (r : Except (Int × Int) (SN × Nat × Int)) (hr : climbZ ws en rc least k n0 8 i o = some r) (h : Rw p vw ws en i o W) :
    Calls Tryd.prog 26 #[.pointer (some ⟨p, 0, none⟩), .agg c0, .int .i64 least] W (Ends p vw ws en W (IsN fun k => F k ∨ W.heap.size ≤ k) r) := by
  have S0 := Lib.hid (St.start (G := fun k => F k ∨ W.heap.size ≤ k) (V := [(c0, n0)]) h (fun e => e.elim hF (Nat.not_le.2 h.lt)) (fun k hk => Or.inr hk) (fun x hx => by rw [List.mem_singleton] at hx; subst hx; exact hc.carry fun k hk _ => ⟨Or.inl hk, rfl⟩))
  have hszc0 := hc.size
  have honec0 := hc.one
  clear h hc
  go_enter Tryd.func26, Tryd.ntmps26
  go_wp2_with fail
  have S1 := Lib.hid (S0.out.allocAt (W.heap.size) (by simp [World.setCell]) 28 c0)
  clear S0
  have S2 := Lib.hid (S1.out.allocAt (W.heap.size + 1) (by simp [World.setCell]) 28 (ndCells 0 0 ⟨#[]⟩ 0 ⟨#[]⟩ ⟨#[]⟩ (.slice none 0 0) (.slice none 0 0)))
  clear S1
  try simp only [Act.put, List.setIfInBounds_toArray, List.set_cons_zero, List.set_cons_succ]
  have S3 := Lib.hid (S2.out.swap)
  clear S2
  have HR := Lib.hid hr
  clear hr
  go_loopg [7] k (fun g v7 wx => ∃ (f i1 : Nat) (o1 m : Int) (n : SN) (c : Array Value), v7 = .int .i64 m ∧ g = f ∧ Hid (climbZ ws en rc least f n m i1 o1 = some r) ∧ Hid (St p vw ws en W (· = p) (fun k => F k ∨ W.heap.size ≤ k) [(W.heap.size, 28, c), (W.heap.size + 1, 28, (ndCells 0 0 ⟨#[]⟩ 0 ⟨#[]⟩ ⟨#[]⟩ (.slice none 0 0) (.slice none 0 0)))] [(c, n)] i1 o1 wx))
  case atStart => exact ⟨k, _, _, _, n0, c0, rfl, rfl, HR, S3⟩
  case round =>
    clear HR S3 hszc0 honec0
    obtain ⟨f, i1, o1, m, n, c, rfl, hg, HR, S⟩ := hrel
    have hr := HR.out
    obtain ⟨f, rfl⟩ : ∃ q, f = q + 1 := ⟨f - 1, by have : f ≠ 0 := (by rintro rfl; cases hr); omega⟩
    rw [climbZ] at hr
    clear HR
    have hszc := S.out.fst.size
    have honec := S.out.fst.one
    go_wp2_with fail
    refine (next_calls _ S.out.row).mono ?_
    rintro _ w1 ⟨hrw, hk, he⟩
    have S4 := Lib.hid (S.out.call hrw hk)
    clear S
    clear hrw hk
    cases hz : nextZ ws i1 with
    | none =>
      rw [hz] at hr he
      subst he
      simp only [bdCells]
      have S5 := Lib.hid (S4.out.allocAt (w1.heap.size) rfl 68 #[.string ⟨#[]⟩, .int .i64 0, .int .i64 0, .int .i64 0])
      cases hr
      go_wp2_with (first
        | (refine ld_node rfl _ rfl _ rfl _ (S5.out.blk _ _ _ (.tail _ (.head _))) hszc ?_)
        | (refine st_node rfl _ _ rfl _ _ rfl rfl _ (S5.out.blk _ _ _ (.tail _ (.tail _ (.head _)))) hszc rfl honec ?_))
      have S6 := Lib.hid (S5.out.setRow 2 _ _ _ c rfl)
      clear S5
      refine ret_node rfl _ _ rfl (S6.out.blk _ _ _ (.tail _ (.tail _ (.head _)))) hszc rfl ?_
      first | exact S6.out.done | (have e := S6.out.done; simp only [Int.add_sub_cancel] at e; exact e) | (simp only [Int.add_sub_cancel]; exact S6.out.done)
    | some q =>
      rw [hz] at hr he
      obtain ⟨op, bd, as_⟩ := q
      obtain ⟨sg, rfl⟩ := he
      obtain ⟨hlt, hb1, hb8⟩ := nextZ_lt hz
      simp only [bdCells] at hb1 hb8 hr ⊢
      clear hz
      have S7 := Lib.hid (S4.out.allocAt (w1.heap.size) rfl 68 #[.string sg, .int .i64 op, .int .i64 bd, .int .i64 as_])
      by_cases h1 : bd < least
      ·
        rw [if_pos (Or.inl h1)] at hr
        have hd1 : decide (bd < least) = true := decide_eq_true h1
        cases hr
        go_wp2_with (first
          | (refine ld_cell rfl _ _ rfl (by kernel_rfl) _ _ rfl _ (S7.out.cell _ _ _ (.head _) 2 (.int .i64 bd) rfl) ?_)
          | (refine ld_node rfl _ rfl _ rfl _ (S7.out.blk _ _ _ (.tail _ (.head _))) hszc ?_)
          | (refine st_node rfl _ _ rfl _ _ rfl rfl _ (S7.out.blk _ _ _ (.tail _ (.tail _ (.head _)))) hszc rfl honec ?_))
        have S8 := Lib.hid (S7.out.setRow 2 _ _ _ c rfl)
        refine ret_node rfl _ _ rfl (S8.out.blk _ _ _ (.tail _ (.tail _ (.head _)))) hszc rfl ?_
        first | exact S8.out.done | (have e := S8.out.done; simp only [Int.add_sub_cancel] at e; exact e) | (simp only [Int.add_sub_cancel]; exact S8.out.done)
      have hd1 : decide (bd < least) = false := decide_eq_false h1
      by_cases h2 : m < bd
      ·
        rw [if_pos (Or.inr h2)] at hr
        have hd2 : decide (bd > m) = true := decide_eq_true h2
        cases hr
        go_wp2_with (first
          | (refine ld_cell rfl _ _ rfl (by kernel_rfl) _ _ rfl _ (S7.out.cell _ _ _ (.head _) 2 (.int .i64 bd) rfl) ?_)
          | (refine ld_node rfl _ rfl _ rfl _ (S7.out.blk _ _ _ (.tail _ (.head _))) hszc ?_)
          | (refine st_node rfl _ _ rfl _ _ rfl rfl _ (S7.out.blk _ _ _ (.tail _ (.tail _ (.head _)))) hszc rfl honec ?_))
        have S9 := Lib.hid (S7.out.setRow 2 _ _ _ c rfl)
        refine ret_node rfl _ _ rfl (S9.out.blk _ _ _ (.tail _ (.tail _ (.head _)))) hszc rfl ?_
        first | exact S9.out.done | (have e := S9.out.done; simp only [Int.add_sub_cancel] at e; exact e) | (simp only [Int.add_sub_cancel]; exact S9.out.done)
      have hd2 : decide (bd > m) = false := decide_eq_false h2
      rw [if_neg (fun e => e.elim h1 h2)] at hr
      go_wp2_with (first
        | (refine ld_cell rfl _ _ rfl (by kernel_rfl) _ _ rfl _ (S7.out.cell _ _ _ (.head _) 2 (.int .i64 bd) rfl) ?_))
      refine (place_calls _ S7.out.row).mono ?_
      rintro _ w10 ⟨rfl, hd⟩
      have S11 := Lib.hid (S7.out.drawn hd)
      clear S7
      clear hd
      have hw1_ := S11.out.wrapU
      have hwb : IntKind.i64.wrap (bd + 1) = bd + 1 := IntWalk.i64_in _ (by omega)
      have hwc : IntKind.i64.wrap (bd - 1) = bd - 1 := IntWalk.i64_in _ (by omega)
      by_cases ha : as_ = 1
      ·
        subst ha
        rw [if_pos rfl, if_neg (by decide)] at hr
        go_wp2_with (first
          | (refine ld_cell rfl _ _ rfl (by kernel_rfl) _ _ rfl _ S11.out.row.c1 ?_)
          | (refine st_cellO rfl _ _ _ rfl (by kernel_rfl) p 1 (.int .i64 ((i1 : Int) + 1)) rfl rfl rfl _ _ S11.out.row.blk (by simp [rwCells]) ?_; intro w12 hwN; have S13 := Lib.hid (S11.out.stepO hlt hwN); clear hwN)
          | (refine ld_cell rfl _ _ rfl (by kernel_rfl) _ _ rfl _ (S13.out.cell _ _ _ (.head _) 2 (.int .i64 bd) rfl) ?_)
          | (refine ld_cell rfl _ _ rfl (by kernel_rfl) _ _ rfl _ (S13.out.cell _ _ _ (.head _) 3 (.int .i64 1) rfl) ?_))
        rcases PR.cases hr with ⟨x17, hz, rfl⟩ | ⟨n14, i15, o16, hz, hr'⟩
        · refine (RC.unary _ _ _ _ hz S13.out.row).mono ?_
          rintro _ _ ⟨rfl, hk⟩
          exact ⟨rfl, S13.out.dies hk⟩
        replace hr := hr'
        clear hr'
        have ho := (RC.even _ _ _ _ _ _ hz).symm
        subst ho
        refine (RC.unary _ _ _ _ hz S13.out.row).mono ?_
        rintro _ w19 ⟨⟨_, rfl, hn⟩, hrw, hk⟩
        obtain ⟨c18, rfl, S20⟩ := S13.out.made hrw hk hn
        replace S20 := Lib.hid S20
        have hszc18 := S20.out.fst.size
        have honec18 := S20.out.fst.one
        clear hrw hk hn
        clear S13
        clear hz
        go_wp2_with fail
        rcases PR.cases hr with ⟨x24, hz, rfl⟩ | ⟨n21, i22, o23, hz, hr'⟩
        · refine (RC.climb _ _ _ _ _ _ _ _ hz S20.out.row (S20.out.nds (c18, n14) (.head _)) (fun e => S20.out.gp p S20.out.mp e.1)).mono ?_
          rintro _ _ ⟨rfl, hk⟩
          exact ⟨rfl, S20.out.dies hk⟩
        replace hr := hr'
        clear hr'
        have ho := (RC.even _ _ _ _ _ _ hz).symm
        subst ho
        refine (RC.climb _ _ _ _ _ _ _ _ hz S20.out.row (S20.out.nds (c18, n14) (.head _)) (fun e => S20.out.gp p S20.out.mp e.1)).mono ?_
        rintro _ w26 ⟨⟨_, rfl, hn⟩, hrw, hk⟩
        obtain ⟨c25, rfl, S27⟩ := S20.out.madeF hrw hk hn
        replace S27 := Lib.hid S27
        have hszc25 := S27.out.fst.size
        have honec25 := S27.out.fst.one
        clear hrw hk hn
        clear S20
        clear hz
        have S28 := Lib.hid (S27.out.allocAt (w26.heap.size) (by simp [World.setCell]) 28 (ndCells 0 0 ⟨#[]⟩ 0 ⟨#[]⟩ ⟨#[]⟩ (.slice none 0 0) (.slice none 0 0)))
        clear S27
        go_wp2_with (first
          | (refine st_nodeO rfl _ _ rfl (w26.heap.size) c25 rfl rfl _ (S28.out.blk _ _ _ (.head _)) hszc25 rfl honec25 ?_; intro w29 hwN; have S30 := Lib.hid (S28.out.setRowO 0 _ _ _ c25 rfl hwN); clear hwN)
          | (refine ld_cell rfl _ _ rfl (by kernel_rfl) _ _ rfl _ (S30.out.cell _ _ _ (.tail _ (.head _)) 1 (.int .i64 op) rfl) ?_)
          | (refine ld_node rfl _ rfl _ rfl _ (S30.out.blk _ _ _ (.tail _ (.tail _ (.head _)))) hszc ?_)
          | (refine ld_node rfl _ rfl _ rfl _ (S30.out.blk _ _ _ (.head _)) hszc25 ?_)
          | (refine bs_nodes rfl 2 _ rfl [c, c25] rfl (by intro c hc; simp only [List.mem_cons, List.not_mem_nil, or_false] at hc; rcases hc with rfl | rfl <;> first | assumption | rfl) rfl (by decide) (by decide) ?_; intro cur hcur; have S31 := Lib.hid (S30.out.build op (placeZ ws en i1) ⟨#[]⟩ [c, c25] [n, n21] (.cons (S30.out.nds (c, n) (.tail _ (.tail _ (.head _)))) (.cons (S30.out.nds (c25, n21) (.head _)) .nil)) (by simp) (by simp) cur hcur))
          | (refine st_nodeO rfl _ _ rfl (W.heap.size) (ndCells op (placeZ ws en i1) ⟨#[]⟩ 0 ⟨#[]⟩ ⟨#[]⟩ (.slice none 0 0) (.slice (some ⟨w29.heap.size, 0, none⟩) 2 2)) rfl rfl _ (S31.out.blk _ _ _ (.tail _ (.tail _ (.head _)))) rfl hszc (by first | (simp [ndCells, Value.oneCell']; done) | exact nd_one rfl hok.one | exact nd_one hok.one rfl) ?_; intro w32 hwN; have S33 := Lib.hid (S31.out.setRowO 2 _ _ _ (ndCells op (placeZ ws en i1) ⟨#[]⟩ 0 ⟨#[]⟩ ⟨#[]⟩ (.slice none 0 0) (.slice (some ⟨w29.heap.size, 0, none⟩) 2 2)) rfl hwN); clear hwN)
          | (refine ld_cell rfl _ _ rfl (by kernel_rfl) _ _ rfl _ (S33.out.cell _ _ _ (.tail _ (.head _)) 2 (.int .i64 bd) rfl) ?_)
          | (refine ld_cell rfl _ _ rfl (by kernel_rfl) _ _ rfl _ (S33.out.cell _ _ _ (.tail _ (.head _)) 3 (.int .i64 1) rfl) ?_))
        go_roundg f
        case rel => exact ⟨f, _, _, _, (SN.mk op (placeZ ws en i1) ⟨#[]⟩ 0 ⟨#[]⟩ ⟨#[]⟩ [] [n, n21]), (ndCells op (placeZ ws en i1) ⟨#[]⟩ 0 ⟨#[]⟩ ⟨#[]⟩ (.slice none 0 0) (.slice (some ⟨w29.heap.size, 0, none⟩) 2 2)), rfl, rfl, Lib.hid hr, Lib.hid (S33.out.tl.tl.drop (V' := [((ndCells op (placeZ ws en i1) ⟨#[]⟩ 0 ⟨#[]⟩ ⟨#[]⟩ (.slice none 0 0) (.slice (some ⟨w29.heap.size, 0, none⟩) 2 2)), (SN.mk op (placeZ ws en i1) ⟨#[]⟩ 0 ⟨#[]⟩ ⟨#[]⟩ [] [n, n21]))]) (fun x hx => by rw [List.mem_singleton] at hx; subst hx; exact .head _))⟩
        case measure => omega
      have ha' : (as_ == 1) = false := by simpa using ha
      by_cases ha0 : as_ = 0
      ·
        subst ha0
        rw [if_neg (by decide), if_pos rfl] at hr
        go_wp2_with (first
          | (refine ld_cell rfl _ _ rfl (by kernel_rfl) _ _ rfl _ S11.out.row.c1 ?_)
          | (refine st_cellO rfl _ _ _ rfl (by kernel_rfl) p 1 (.int .i64 ((i1 : Int) + 1)) rfl rfl rfl _ _ S11.out.row.blk (by simp [rwCells]) ?_; intro w34 hwN; have S35 := Lib.hid (S11.out.stepO hlt hwN); clear hwN)
          | (refine ld_cell rfl _ _ rfl (by kernel_rfl) _ _ rfl _ (S35.out.cell _ _ _ (.head _) 2 (.int .i64 bd) rfl) ?_)
          | (refine ld_cell rfl _ _ rfl (by kernel_rfl) _ _ rfl _ (S35.out.cell _ _ _ (.head _) 3 (.int .i64 0) rfl) ?_))
        rcases PR.cases hr with ⟨x39, hz, rfl⟩ | ⟨n36, i37, o38, hz, hr'⟩
        · refine (RC.unary _ _ _ _ hz S35.out.row).mono ?_
          rintro _ _ ⟨rfl, hk⟩
          exact ⟨rfl, S35.out.dies hk⟩
        replace hr := hr'
        clear hr'
        have ho := (RC.even _ _ _ _ _ _ hz).symm
        subst ho
        refine (RC.unary _ _ _ _ hz S35.out.row).mono ?_
        rintro _ w41 ⟨⟨_, rfl, hn⟩, hrw, hk⟩
        obtain ⟨c40, rfl, S42⟩ := S35.out.made hrw hk hn
        replace S42 := Lib.hid S42
        have hszc40 := S42.out.fst.size
        have honec40 := S42.out.fst.one
        clear hrw hk hn
        clear S35
        clear hz
        go_wp2_with fail
        rcases PR.cases hr with ⟨x46, hz, rfl⟩ | ⟨n43, i44, o45, hz, hr'⟩
        · refine (RC.climb _ _ _ _ _ _ _ _ hz S42.out.row (S42.out.nds (c40, n36) (.head _)) (fun e => S42.out.gp p S42.out.mp e.1)).mono ?_
          rintro _ _ ⟨rfl, hk⟩
          exact ⟨rfl, S42.out.dies hk⟩
        replace hr := hr'
        clear hr'
        have ho := (RC.even _ _ _ _ _ _ hz).symm
        subst ho
        refine (RC.climb _ _ _ _ _ _ _ _ hz S42.out.row (S42.out.nds (c40, n36) (.head _)) (fun e => S42.out.gp p S42.out.mp e.1)).mono ?_
        rintro _ w48 ⟨⟨_, rfl, hn⟩, hrw, hk⟩
        obtain ⟨c47, rfl, S49⟩ := S42.out.madeF hrw hk hn
        replace S49 := Lib.hid S49
        have hszc47 := S49.out.fst.size
        have honec47 := S49.out.fst.one
        clear hrw hk hn
        clear S42
        clear hz
        have S50 := Lib.hid (S49.out.allocAt (w48.heap.size) (by simp [World.setCell]) 28 (ndCells 0 0 ⟨#[]⟩ 0 ⟨#[]⟩ ⟨#[]⟩ (.slice none 0 0) (.slice none 0 0)))
        clear S49
        go_wp2_with (first
          | (refine st_nodeO rfl _ _ rfl (w48.heap.size) c47 rfl rfl _ (S50.out.blk _ _ _ (.head _)) hszc47 rfl honec47 ?_; intro w51 hwN; have S52 := Lib.hid (S50.out.setRowO 0 _ _ _ c47 rfl hwN); clear hwN)
          | (refine ld_cell rfl _ _ rfl (by kernel_rfl) _ _ rfl _ (S52.out.cell _ _ _ (.tail _ (.head _)) 1 (.int .i64 op) rfl) ?_)
          | (refine ld_node rfl _ rfl _ rfl _ (S52.out.blk _ _ _ (.tail _ (.tail _ (.head _)))) hszc ?_)
          | (refine ld_node rfl _ rfl _ rfl _ (S52.out.blk _ _ _ (.head _)) hszc47 ?_)
          | (refine bs_nodes rfl 2 _ rfl [c, c47] rfl (by intro c hc; simp only [List.mem_cons, List.not_mem_nil, or_false] at hc; rcases hc with rfl | rfl <;> first | assumption | rfl) rfl (by decide) (by decide) ?_; intro cur hcur; have S53 := Lib.hid (S52.out.build op (placeZ ws en i1) ⟨#[]⟩ [c, c47] [n, n43] (.cons (S52.out.nds (c, n) (.tail _ (.tail _ (.head _)))) (.cons (S52.out.nds (c47, n43) (.head _)) .nil)) (by simp) (by simp) cur hcur))
          | (refine st_nodeO rfl _ _ rfl (W.heap.size) (ndCells op (placeZ ws en i1) ⟨#[]⟩ 0 ⟨#[]⟩ ⟨#[]⟩ (.slice none 0 0) (.slice (some ⟨w51.heap.size, 0, none⟩) 2 2)) rfl rfl _ (S53.out.blk _ _ _ (.tail _ (.tail _ (.head _)))) rfl hszc (by first | (simp [ndCells, Value.oneCell']; done) | exact nd_one rfl hok.one | exact nd_one hok.one rfl) ?_; intro w54 hwN; have S55 := Lib.hid (S53.out.setRowO 2 _ _ _ (ndCells op (placeZ ws en i1) ⟨#[]⟩ 0 ⟨#[]⟩ ⟨#[]⟩ (.slice none 0 0) (.slice (some ⟨w51.heap.size, 0, none⟩) 2 2)) rfl hwN); clear hwN)
          | (refine ld_cell rfl _ _ rfl (by kernel_rfl) _ _ rfl _ (S55.out.cell _ _ _ (.tail _ (.head _)) 2 (.int .i64 bd) rfl) ?_)
          | (refine ld_cell rfl _ _ rfl (by kernel_rfl) _ _ rfl _ (S55.out.cell _ _ _ (.tail _ (.head _)) 3 (.int .i64 0) rfl) ?_))
        go_roundg f
        case rel => exact ⟨f, _, _, _, (SN.mk op (placeZ ws en i1) ⟨#[]⟩ 0 ⟨#[]⟩ ⟨#[]⟩ [] [n, n43]), (ndCells op (placeZ ws en i1) ⟨#[]⟩ 0 ⟨#[]⟩ ⟨#[]⟩ (.slice none 0 0) (.slice (some ⟨w51.heap.size, 0, none⟩) 2 2)), rfl, rfl, Lib.hid hr, Lib.hid (S55.out.tl.tl.drop (V' := [((ndCells op (placeZ ws en i1) ⟨#[]⟩ 0 ⟨#[]⟩ ⟨#[]⟩ (.slice none 0 0) (.slice (some ⟨w51.heap.size, 0, none⟩) 2 2)), (SN.mk op (placeZ ws en i1) ⟨#[]⟩ 0 ⟨#[]⟩ ⟨#[]⟩ [] [n, n43]))]) (fun x hx => by rw [List.mem_singleton] at hx; subst hx; exact .head _))⟩
        case measure => omega
      ·
        have ha0' : (as_ != 0) = true := by simpa using ha0
        rw [if_neg ha, if_neg ha0] at hr
        go_wp2_with (first
          | (refine ld_cell rfl _ _ rfl (by kernel_rfl) _ _ rfl _ S11.out.row.c1 ?_)
          | (refine st_cellO rfl _ _ _ rfl (by kernel_rfl) p 1 (.int .i64 ((i1 : Int) + 1)) rfl rfl rfl _ _ S11.out.row.blk (by simp [rwCells]) ?_; intro w56 hwN; have S57 := Lib.hid (S11.out.stepO hlt hwN); clear hwN)
          | (refine ld_cell rfl _ _ rfl (by kernel_rfl) _ _ rfl _ (S57.out.cell _ _ _ (.head _) 2 (.int .i64 bd) rfl) ?_)
          | (refine ld_cell rfl _ _ rfl (by kernel_rfl) _ _ rfl _ (S57.out.cell _ _ _ (.head _) 3 (.int .i64 as_) rfl) ?_))
        rcases PR.cases hr with ⟨x61, hz, rfl⟩ | ⟨n58, i59, o60, hz, hr'⟩
        · refine (RC.unary _ _ _ _ hz S57.out.row).mono ?_
          rintro _ _ ⟨rfl, hk⟩
          exact ⟨rfl, S57.out.dies hk⟩
        replace hr := hr'
        clear hr'
        have ho := (RC.even _ _ _ _ _ _ hz).symm
        subst ho
        refine (RC.unary _ _ _ _ hz S57.out.row).mono ?_
        rintro _ w63 ⟨⟨_, rfl, hn⟩, hrw, hk⟩
        obtain ⟨c62, rfl, S64⟩ := S57.out.made hrw hk hn
        replace S64 := Lib.hid S64
        have hszc62 := S64.out.fst.size
        have honec62 := S64.out.fst.one
        clear hrw hk hn
        clear S57
        clear hz
        go_wp2_with fail
        rcases PR.cases hr with ⟨x68, hz, rfl⟩ | ⟨n65, i66, o67, hz, hr'⟩
        · refine (RC.climb _ _ _ _ _ _ _ _ hz S64.out.row (S64.out.nds (c62, n58) (.head _)) (fun e => S64.out.gp p S64.out.mp e.1)).mono ?_
          rintro _ _ ⟨rfl, hk⟩
          exact ⟨rfl, S64.out.dies hk⟩
        replace hr := hr'
        clear hr'
        have ho := (RC.even _ _ _ _ _ _ hz).symm
        subst ho
        refine (RC.climb _ _ _ _ _ _ _ _ hz S64.out.row (S64.out.nds (c62, n58) (.head _)) (fun e => S64.out.gp p S64.out.mp e.1)).mono ?_
        rintro _ w70 ⟨⟨_, rfl, hn⟩, hrw, hk⟩
        obtain ⟨c69, rfl, S71⟩ := S64.out.madeF hrw hk hn
        replace S71 := Lib.hid S71
        have hszc69 := S71.out.fst.size
        have honec69 := S71.out.fst.one
        clear hrw hk hn
        clear S64
        clear hz
        have S72 := Lib.hid (S71.out.allocAt (w70.heap.size) (by simp [World.setCell]) 28 (ndCells 0 0 ⟨#[]⟩ 0 ⟨#[]⟩ ⟨#[]⟩ (.slice none 0 0) (.slice none 0 0)))
        clear S71
        go_wp2_with (first
          | (refine st_nodeO rfl _ _ rfl (w70.heap.size) c69 rfl rfl _ (S72.out.blk _ _ _ (.head _)) hszc69 rfl honec69 ?_; intro w73 hwN; have S74 := Lib.hid (S72.out.setRowO 0 _ _ _ c69 rfl hwN); clear hwN)
          | (refine ld_cell rfl _ _ rfl (by kernel_rfl) _ _ rfl _ (S74.out.cell _ _ _ (.tail _ (.head _)) 1 (.int .i64 op) rfl) ?_)
          | (refine ld_node rfl _ rfl _ rfl _ (S74.out.blk _ _ _ (.tail _ (.tail _ (.head _)))) hszc ?_)
          | (refine ld_node rfl _ rfl _ rfl _ (S74.out.blk _ _ _ (.head _)) hszc69 ?_)
          | (refine bs_nodes rfl 2 _ rfl [c, c69] rfl (by intro c hc; simp only [List.mem_cons, List.not_mem_nil, or_false] at hc; rcases hc with rfl | rfl <;> first | assumption | rfl) rfl (by decide) (by decide) ?_; intro cur hcur; have S75 := Lib.hid (S74.out.build op (placeZ ws en i1) ⟨#[]⟩ [c, c69] [n, n65] (.cons (S74.out.nds (c, n) (.tail _ (.tail _ (.head _)))) (.cons (S74.out.nds (c69, n65) (.head _)) .nil)) (by simp) (by simp) cur hcur))
          | (refine st_nodeO rfl _ _ rfl (W.heap.size) (ndCells op (placeZ ws en i1) ⟨#[]⟩ 0 ⟨#[]⟩ ⟨#[]⟩ (.slice none 0 0) (.slice (some ⟨w73.heap.size, 0, none⟩) 2 2)) rfl rfl _ (S75.out.blk _ _ _ (.tail _ (.tail _ (.head _)))) rfl hszc (by first | (simp [ndCells, Value.oneCell']; done) | exact nd_one rfl hok.one | exact nd_one hok.one rfl) ?_; intro w76 hwN; have S77 := Lib.hid (S75.out.setRowO 2 _ _ _ (ndCells op (placeZ ws en i1) ⟨#[]⟩ 0 ⟨#[]⟩ ⟨#[]⟩ (.slice none 0 0) (.slice (some ⟨w73.heap.size, 0, none⟩) 2 2)) rfl hwN); clear hwN)
          | (refine ld_cell rfl _ _ rfl (by kernel_rfl) _ _ rfl _ (S77.out.cell _ _ _ (.tail _ (.head _)) 2 (.int .i64 bd) rfl) ?_)
          | (refine ld_cell rfl _ _ rfl (by kernel_rfl) _ _ rfl _ (S77.out.cell _ _ _ (.tail _ (.head _)) 3 (.int .i64 as_) rfl) ?_))
        go_roundg f
        case rel => exact ⟨f, _, _, _, (SN.mk op (placeZ ws en i1) ⟨#[]⟩ 0 ⟨#[]⟩ ⟨#[]⟩ [] [n, n65]), (ndCells op (placeZ ws en i1) ⟨#[]⟩ 0 ⟨#[]⟩ ⟨#[]⟩ (.slice none 0 0) (.slice (some ⟨w73.heap.size, 0, none⟩) 2 2)), rfl, rfl, Lib.hid hr, Lib.hid (S77.out.tl.tl.drop (V' := [((ndCells op (placeZ ws en i1) ⟨#[]⟩ 0 ⟨#[]⟩ ⟨#[]⟩ (.slice none 0 0) (.slice (some ⟨w73.heap.size, 0, none⟩) 2 2)), (SN.mk op (placeZ ws en i1) ⟨#[]⟩ 0 ⟨#[]⟩ ⟨#[]⟩ [] [n, n65]))]) (fun x hx => by rw [List.mem_singleton] at hx; subst hx; exact .head _))⟩
        case measure => omega

end Go.Proofs.YthlmhnlfcnpocaaDoor.U

namespace Go.Proofs.YthlmhnlfcnpocaaDoor.U
open Go.RowKit Go.Proofs.YthlmhnlfcnpocaaDoorW.PrintWords
set_option linter.unusedSimpArgs false
set_option linter.unusedVariables false

set_option maxHeartbeats 8000000 in
set_option maxRecDepth 100000 in
theorem condition_calls {p : Nat} {vw : Value} {ws : List Tok} {en : Int} {rc : PC → Nat → Int → PR SN} (RC : RcOk p vw ws en rc) {i : Nat} {o : Int} (W : World) (hi : i < ws.length) (r : Except (Int × Int) (SN × Nat × Int)) (hr : ifZ ws en rc i o = some r) (h : Rw p vw ws en i o W) :
    Calls Tryd.prog 76 #[.pointer (some ⟨p, 0, none⟩)] W (Ends p vw ws en W (IsN (W.heap.size ≤ ·)) r) := by
  have S0 := Lib.hid (St.start (G := (W.heap.size ≤ ·)) (V := []) h (Nat.not_le.2 h.lt) (fun k hk => hk) (fun _ hx => by cases hx))
  clear h
  go_enter Tryd.func76, Tryd.ntmps76
  go_wp2_with fail
  have S1 := Lib.hid (S0.out.allocAt (W.heap.size) (by simp [World.setCell]) 28 (ndCells 0 0 ⟨#[]⟩ 0 ⟨#[]⟩ ⟨#[]⟩ (.slice none 0 0) (.slice none 0 0)))
  clear S0
  refine (place_calls _ S1.out.row).mono ?_
  rintro _ w2 ⟨rfl, hd⟩
  have S3 := Lib.hid (S1.out.drawn hd)
  clear S1
  clear hd
  go_wp2_with fail
  have S4 := Lib.hid (S3.out.allocAt (w2.heap.size) (by simp [World.setCell]) 28 (ndCells 28 (placeZ ws en i) ⟨#[]⟩ 0 ⟨#[]⟩ ⟨#[]⟩ (.slice none 0 0) (.slice none 0 0)))
  clear S3
  unfold ifZ at hr
  have holo5 := S4.out.row.olo
  rcases PR.cases hr with ⟨x7, hz, rfl⟩ | ⟨u8, i9, o10, hz, hr'⟩
  · refine (opens_calls _ hi _ hz S4.out.row).mono ?_
    rintro _ _ ⟨rfl, hk⟩
    exact ⟨rfl, S4.out.dies hk⟩
  replace hr := hr'
  clear hr'
  refine (opens_calls _ hi _ hz S4.out.row).mono ?_
  rintro _ w6 ⟨⟨_, rfl, rfl⟩, hrw, hk⟩
  obtain ⟨rfl, rfl⟩ := opensZ_ok hz
  have S11 := Lib.hid (S4.out.call hrw hk)
  clear S4
  clear hrw hk hz
  go_wp2_with fail
  rcases PR.cases hr with ⟨xx, hz, rfl⟩ | ⟨n1, i1, o1, hz, hr'⟩
  · refine (RC.branch _ _ _ _ _ _ hz S11.out.row (S11.out.blk _ _ _ (.head _))).mono ?_
    rintro _ _ ⟨rfl, hk⟩
    exact ⟨rfl, rfl, (S11.out.keqB (.head _) hk).top⟩
  replace hr := hr'
  clear hr'
  have ho := (RC.even _ _ _ _ _ _ hz).symm
  subst ho
  cases hr
  refine (RC.branch _ _ _ _ _ _ hz S11.out.row (S11.out.blk _ _ _ (.head _))).mono ?_
  rintro _ w9 ⟨rfl, hrw, hk, c9, hb9, hn9⟩
  replace hrw : Rw p vw ws en i1 (o + 1) w9 := hrw
  have S12 := Lib.hid (S11.out.callB 0 _ _ _ _ _ rfl hrw hk hb9 hn9)
  clear S11
  clear hrw hk hb9 hn9
  have hszc9 := S12.out.fst.size
  have honec9 := S12.out.fst.one
  have c3_ := S12.out.row.c3
  have f3_ := S12.out.row.fr 3
  have S13 := Lib.hid (S12.out.downTo o (by omega) (by omega))
  clear S12
  have hw3_ := S13.out.wrapO
  go_wp2_with (first
    | (refine ld_node rfl _ rfl _ rfl _ (S13.out.blk _ _ _ (.head _)) hszc9 ?_)
    | (refine st_node rfl _ _ rfl _ _ rfl rfl _ (S13.out.blk _ _ _ (.tail _ (.head _))) hszc9 rfl honec9 ?_))
  have S14 := Lib.hid (S13.out.setRow 1 _ _ _ c9 rfl)
  clear S13
  refine ret_node rfl _ _ rfl (S14.out.blk _ _ _ (.tail _ (.head _))) hszc9 rfl ?_
  first | exact S14.out.done | (have e := S14.out.done; simp only [Int.add_sub_cancel] at e; exact e) | (simp only [Int.add_sub_cancel]; exact S14.out.done)

end Go.Proofs.YthlmhnlfcnpocaaDoor.U

namespace Go.Proofs.YthlmhnlfcnpocaaDoor.U
open Go.RowKit Go.Proofs.YthlmhnlfcnpocaaDoorW.PrintWords
set_option linter.unusedSimpArgs false
set_option linter.unusedVariables false

set_option maxHeartbeats 8000000 in
set_option maxRecDepth 100000 in
theorem pipe_calls {p : Nat} {vw : Value} {ws : List Tok} {en : Int} {rc : PC → Nat → Int → PR SN} (RC : RcOk p vw ws en rc) {i : Nat} {o : Int} (W : World) (k : Nat) (hkb : k ≤ 8589934592) (r : Except (Int × Int) (SN × Nat × Int)) (hr : pipeZ ws en rc k i o = some r) (h : Rw p vw ws en i o W) :
    Calls Tryd.prog 13 #[.pointer (some ⟨p, 0, none⟩)] W (Ends p vw ws en W (IsN (W.heap.size ≤ ·)) r) := by
  have S0 := Lib.hid (St.start (G := (W.heap.size ≤ ·)) (V := []) h (Nat.not_le.2 h.lt) (fun k hk => hk) (fun _ hx => by cases hx))
  clear h
  go_enter Tryd.func13, Tryd.ntmps13
  go_wp2_with fail
  have S1 := Lib.hid (S0.out.allocAt (W.heap.size) (by simp [World.setCell]) 28 (ndCells 0 0 ⟨#[]⟩ 0 ⟨#[]⟩ ⟨#[]⟩ (.slice none 0 0) (.slice none 0 0)))
  clear S0
  refine (place_calls _ S1.out.row).mono ?_
  rintro _ w2 ⟨rfl, hd⟩
  have S3 := Lib.hid (S1.out.drawn hd)
  clear S1
  clear hd
  unfold pipeZ at hr
  go_wp2_with fail
  have S4 := Lib.hid (S3.out.waste (.cells #[.string ⟨#[100, 101, 102]⟩] 9))
  clear S3
  refine (is_calls _ _ ⟨#[100, 101, 102]⟩ _ (cell_top _ _ _ _ (by simp)) S4.out.row).mono ?_
  rintro _ w5 ⟨rfl, hd⟩
  have S7 := Lib.hid (S4.out.drawn hd)
  clear S4
  clear hd
  cases hb6 : isZ ws i ⟨#[100, 101, 102]⟩ with
  | true =>
    rw [if_pos hb6] at hr
    go_wp2_with fail
    rcases PR.split r with ⟨x11, rfl⟩ | ⟨n8, i9, o10, rfl⟩
    · replace hz := hr
      refine (def_calls RC _ (isZ_lt hb6) k hkb _ hz S7.out.row).mono ?_
      rintro _ _ ⟨rfl, hk⟩
      exact ⟨rfl, S7.out.dies hk⟩
    replace hz := hr
    have ho := (def_even RC.even _ _ _ _ _ _ hz).symm
    subst ho
    refine (def_calls RC _ (isZ_lt hb6) k hkb _ hz S7.out.row).mono ?_
    rintro _ w13 ⟨⟨_, rfl, hn⟩, hrw, hk⟩
    obtain ⟨c12, rfl, S14⟩ := S7.out.made hrw hk hn
    replace S14 := Lib.hid S14
    have hszc12 := S14.out.fst.size
    have honec12 := S14.out.fst.one
    clear hrw hk hn
    clear hz
    go_wp2_with (first
      | (refine st_nodeO rfl _ _ rfl (W.heap.size) c12 rfl rfl _ (S14.out.blk _ _ _ (.head _)) hszc12 rfl honec12 ?_; intro w15 hwN; have S16 := Lib.hid (S14.out.setRowO 0 _ _ _ c12 rfl hwN); clear hwN))
    refine ret_node rfl _ _ rfl (S16.out.blk _ _ _ (.head _)) hszc12 rfl ?_
    first | exact S16.out.done | (have e := S16.out.done; simp only [Int.add_sub_cancel] at e; exact e) | (simp only [Int.add_sub_cancel]; exact S16.out.done)
  | false =>
    rw [if_neg (by rw [hb6]; decide)] at hr
    go_wp2_with fail
    have S17 := Lib.hid (S7.out.waste (.cells #[.string ⟨#[108, 97, 98, 101, 108]⟩] 9))
    cases hb18 : isZ ws i ⟨#[108, 97, 98, 101, 108]⟩ with
    | true =>
      rw [if_pos hb18] at hr
      refine (take_calls _ _ ⟨#[108, 97, 98, 101, 108]⟩ _ true hb18 (cell_top _ _ _ _ (by simp)) S17.out.row).mono ?_
      rintro _ w19 ⟨rfl, hrw, hk⟩
      replace hrw : Rw p vw ws en (i + 1) _ _ := hrw
      have S20 := Lib.hid (S17.out.call hrw hk)
      clear hrw hk
      go_wp2_with fail
      rcases PR.cases hr with ⟨x22, hz, rfl⟩ | ⟨u23, i24, o25, hz, hr'⟩
      · refine (name_calls _ 3 (by decide) _ hz S20.out.row).mono ?_
        rintro _ _ ⟨rfl, hk⟩
        exact ⟨rfl, S20.out.dies hk⟩
      replace hr := hr'
      clear hr'
      refine (name_calls _ 3 (by decide) _ hz S20.out.row).mono ?_
      rintro _ w21 ⟨⟨_, rfl, rfl⟩, hrw, hk⟩
      obtain ⟨rfl, rfl, rfl, hkd⟩ := nameZ_ok hz
      have S26 := Lib.hid (S20.out.call hrw hk)
      clear S20
      clear hrw hk hz
      go_wp2_with fail
      rcases PR.cases hr with ⟨x28, hz, rfl⟩ | ⟨u29, i30, o31, hz, hr'⟩
      · refine (want_calls _ ⟨#[124]⟩ _ hz S26.out.row).mono ?_
        rintro _ _ ⟨rfl, hk⟩
        exact ⟨rfl, S26.out.dies hk⟩
      replace hr := hr'
      clear hr'
      refine (want_calls _ ⟨#[124]⟩ _ hz S26.out.row).mono ?_
      rintro _ w27 ⟨⟨_, rfl, rfl⟩, hrw, hk⟩
      obtain ⟨rfl, rfl⟩ := wantZ_ok hz
      have S32 := Lib.hid (S26.out.call hrw hk)
      clear S26
      clear hrw hk hz
      go_wp2_with fail
      rcases PR.cases hr with ⟨x36, hz, rfl⟩ | ⟨n33, i34, o35, hz, hr'⟩
      · refine (RC.pipe _ _ _ _ hz S32.out.row).mono ?_
        rintro _ _ ⟨rfl, hk⟩
        exact ⟨rfl, S32.out.dies hk⟩
      replace hr := hr'
      clear hr'
      have ho := (RC.even _ _ _ _ _ _ hz).symm
      subst ho
      refine (RC.pipe _ _ _ _ hz S32.out.row).mono ?_
      rintro _ w38 ⟨⟨_, rfl, hn⟩, hrw, hk⟩
      obtain ⟨c37, rfl, S39⟩ := S32.out.made hrw hk hn
      replace S39 := Lib.hid S39
      have hszc37 := S39.out.fst.size
      have honec37 := S39.out.fst.one
      clear hrw hk hn
      clear S32
      clear hz
      cases hr
      go_wp2_with (first
        | (refine bs_nodes rfl 1 _ rfl [c37] rfl (by intro c hc; simp only [List.mem_cons, List.not_mem_nil, or_false] at hc; rcases hc with rfl <;> first | assumption | rfl) rfl (by decide) (by decide) ?_; intro cur hcur; have S40 := Lib.hid (S39.out.build 34 (placeZ ws en i) (saidZ ws (i + 1)) [c37] [n33] (.cons (S39.out.nds (c37, n33) (.head _)) .nil) (by simp) (by simp) cur hcur))
        | (refine st_nodeO rfl _ _ rfl (W.heap.size) (ndCells 34 (placeZ ws en i) (saidZ ws (i + 1)) 0 ⟨#[]⟩ ⟨#[]⟩ (.slice none 0 0) (.slice (some ⟨w38.heap.size, 0, none⟩) 1 1)) rfl rfl _ (S40.out.blk _ _ _ (.head _)) rfl rfl (by first | (simp [ndCells, Value.oneCell']; done) | exact nd_one rfl hok.one | exact nd_one hok.one rfl) ?_; intro w41 hwN; have S42 := Lib.hid (S40.out.setRowO 0 _ _ _ (ndCells 34 (placeZ ws en i) (saidZ ws (i + 1)) 0 ⟨#[]⟩ ⟨#[]⟩ (.slice none 0 0) (.slice (some ⟨w38.heap.size, 0, none⟩) 1 1)) rfl hwN); clear hwN))
      refine ret_node rfl _ _ rfl (S42.out.blk _ _ _ (.head _)) rfl rfl ?_
      first | exact S42.out.done | (have e := S42.out.done; simp only [Int.add_sub_cancel] at e; exact e) | (simp only [Int.add_sub_cancel]; exact S42.out.done)
    | false =>
      rw [if_neg (by rw [hb18]; decide)] at hr
      refine (take_calls _ _ ⟨#[108, 97, 98, 101, 108]⟩ _ false hb18 (cell_top _ _ _ _ (by simp)) S17.out.row).mono ?_
      rintro _ w43 ⟨rfl, hrw, hk⟩
      replace hrw : Rw p vw ws en i _ _ := hrw
      have S44 := Lib.hid (S17.out.call hrw hk)
      clear hrw hk
      have S45 := Lib.hid (S44.out.allocAt (w43.heap.size) (by simp [World.setCell]) 28 (ndCells 0 0 ⟨#[]⟩ 0 ⟨#[]⟩ ⟨#[]⟩ (.slice none 0 0) (.slice none 0 0)))
      clear S44
      go_wp2_with fail
      have S46 := Lib.hid (S45.out.waste (.cells #[.string ⟨#[45]⟩] 9))
      clear S45
      refine (is_calls _ _ ⟨#[45]⟩ _ (cell_top _ _ _ _ (by simp)) S46.out.row).mono ?_
      rintro _ w47 ⟨rfl, hd⟩
      have S49 := Lib.hid (S46.out.drawn hd)
      clear S46
      clear hd
      cases hb48 : isZ ws i ⟨#[45]⟩ with
      | true =>
        rw [if_pos hb48] at hr
        go_wp2_with fail
        rcases PR.cases hr with ⟨x53, hz, rfl⟩ | ⟨n50, i51, o52, hz, hr'⟩
        · refine (RC.unary _ _ _ _ hz S49.out.row).mono ?_
          rintro _ _ ⟨rfl, hk⟩
          exact ⟨rfl, S49.out.dies hk⟩
        replace hr := hr'
        clear hr'
        have ho := (RC.even _ _ _ _ _ _ hz).symm
        subst ho
        refine (RC.unary _ _ _ _ hz S49.out.row).mono ?_
        rintro _ w55 ⟨⟨_, rfl, hn⟩, hrw, hk⟩
        obtain ⟨c54, rfl, S56⟩ := S49.out.made hrw hk hn
        replace S56 := Lib.hid S56
        have hszc54 := S56.out.fst.size
        have honec54 := S56.out.fst.one
        clear hrw hk hn
        clear hz
        go_wp2_with fail
        rcases PR.cases hr with ⟨x60, hz, rfl⟩ | ⟨n57, i58, o59, hz, hr'⟩
        · refine (RC.climb _ _ _ _ _ _ _ _ hz S56.out.row (S56.out.nds (c54, n50) (.head _)) (fun e => S56.out.gp p S56.out.mp e.1)).mono ?_
          rintro _ _ ⟨rfl, hk⟩
          exact ⟨rfl, S56.out.dies hk⟩
        replace hr := hr'
        clear hr'
        have ho := (RC.even _ _ _ _ _ _ hz).symm
        subst ho
        refine (RC.climb _ _ _ _ _ _ _ _ hz S56.out.row (S56.out.nds (c54, n50) (.head _)) (fun e => S56.out.gp p S56.out.mp e.1)).mono ?_
        rintro _ w62 ⟨⟨_, rfl, hn⟩, hrw, hk⟩
        obtain ⟨c61, rfl, S63⟩ := S56.out.madeF hrw hk hn
        replace S63 := Lib.hid S63
        have hszc61 := S63.out.fst.size
        have honec61 := S63.out.fst.one
        clear hrw hk hn
        clear S56
        clear hz
        go_wp2_with (first
          | (refine st_nodeO rfl _ _ rfl (w43.heap.size) c61 rfl rfl _ (S63.out.blk _ _ _ (.head _)) hszc61 rfl honec61 ?_; intro w64 hwN; have S65 := Lib.hid (S63.out.setRowO 0 _ _ _ c61 rfl hwN); clear hwN))
        unfold pipedZ at hr
        go_wp2_with fail
        refine (place_calls _ S65.out.row).mono ?_
        rintro _ w66 ⟨rfl, hd⟩
        have S67 := Lib.hid (S65.out.drawn hd)
        clear S65
        clear hd
        go_wp2_with fail
        have S68 := Lib.hid (S67.out.waste (.cells #[.string ⟨#[124]⟩] 9))
        clear S67
        cases hb69 : isZ ws i58 ⟨#[124]⟩ with
        | true =>
          rw [if_pos hb69] at hr
          refine (take_calls _ _ ⟨#[124]⟩ _ true hb69 (cell_top _ _ _ _ (by simp)) S68.out.row).mono ?_
          rintro _ w70 ⟨rfl, hrw, hk⟩
          replace hrw : Rw p vw ws en (i58 + 1) _ _ := hrw
          have S71 := Lib.hid (S68.out.call hrw hk)
          clear hrw hk
          go_wp2_with fail
          refine region_T (fun w => w.heap[w43.heap.size]? = some (.cells c61 28 (0, 0))) (fun j => j == 6) 7 rfl (by kernel_rfl) ?_
          have S72 := Lib.hid (S71.out.drawn (w' := World.drew _) ⟨1, rfl⟩)
          clear S71
          refine anyT_take (i := 0) (oi := _) (v := (.int .i64 (placeZ ws en i58))) (d := (some 88)) rfl rfl (by kernel_rfl) (by kernel_rfl) rfl (by kernel_rfl) (by kernel_rfl) (fun _ _ _ h => h) (Or.inl ⟨by rfl, fun _ _ => rfl⟩) (S72.out.blk _ _ _ (.head _)) ?_
          try simp only [Act.put, List.setIfInBounds_toArray, List.set_cons_zero, List.set_cons_succ]
          refine anyT_take (i := 1) (oi := _) (v := (.agg c61)) (d := (some 89)) rfl rfl (by kernel_rfl) (by kernel_rfl) rfl (by kernel_rfl) (by kernel_rfl) (fun _ _ _ h => h) (yl_node _ rfl (by rfl) _ rfl _ (fun _ h => h) hszc61) (S72.out.blk _ _ _ (.head _)) ?_
          try simp only [Act.put, List.setIfInBounds_toArray, List.set_cons_zero, List.set_cons_succ]
          refine anyT_take (i := 2) (oi := _) (v := (.pointer (some ⟨p, 0, none⟩))) (d := (some 90)) rfl rfl (by kernel_rfl) (by kernel_rfl) rfl (by kernel_rfl) (by kernel_rfl) (fun _ _ _ h => h) (Or.inl ⟨by rfl, fun _ _ => rfl⟩) (S72.out.blk _ _ _ (.head _)) ?_
          try simp only [Act.put, List.setIfInBounds_toArray, List.set_cons_zero, List.set_cons_succ]
          refine anyT_step (i := 3) (oi := _) rfl (by kernel_rfl) (by rfl) (fun K hK => ?_)
          go_simp
          rcases PR.cases hr with ⟨x76, hz, rfl⟩ | ⟨n73, i74, o75, hz, hr'⟩
          · refine (RC.pipe _ _ _ _ hz S72.out.row).mono ?_
            rintro _ _ ⟨rfl, hk⟩
            exact ⟨rfl, S72.out.dies hk⟩
          replace hr := hr'
          clear hr'
          have ho := (RC.even _ _ _ _ _ _ hz).symm
          subst ho
          refine (RC.pipe _ _ _ _ hz S72.out.row).mono ?_
          rintro _ w78 ⟨⟨_, rfl, hn⟩, hrw, hk⟩
          obtain ⟨c77, rfl, S79⟩ := S72.out.made hrw hk hn
          replace S79 := Lib.hid S79
          have hszc77 := S79.out.fst.size
          have honec77 := S79.out.fst.one
          clear hrw hk hn
          clear S72
          clear hz
          refine hK.out _ _ (fun h => (S79.out.blk _ _ _ (.head _))) ?_
          clear hK K
          try simp only [Act.put, List.setIfInBounds_toArray, List.set_cons_zero, List.set_cons_succ]
          refine anyT_step (i := 4) (oi := _) rfl (by kernel_rfl) (by rfl) (fun K hK => ?_)
          refine wp_bs_nodes 2 _ rfl [c61, c77] rfl (by intro c hc; simp only [List.mem_cons, List.not_mem_nil, or_false] at hc; rcases hc with rfl | rfl <;> first | assumption | rfl) rfl (by decide) (by decide) ?_
          intro cur hcur
          have S80 := Lib.hid (S79.out.build 12 (placeZ ws en i58) ⟨#[]⟩ [c61, c77] [n57, n73] (.cons (S79.out.nds (c61, n57) (.tail _ (.head _))) (.cons (S79.out.nds (c77, n73) (.head _)) .nil)) (by simp) (by simp) cur hcur)
          clear S79
          refine hK.out (Act.put _ (some 92) _) _ (fun h => (S80.out.blk _ _ _ (.head _))) ?_
          clear hK K
          try simp only [Act.put, List.setIfInBounds_toArray, List.set_cons_zero, List.set_cons_succ]
          refine anyT_step (i := 5) (oi := _) rfl (by kernel_rfl) (by rfl) (fun K hK => ?_)
          go_simp
          refine hK.out _ _ (fun h => (S80.out.blk _ _ _ (.head _))) ?_
          clear hK K
          try simp only [Act.put, List.setIfInBounds_toArray, List.set_cons_zero, List.set_cons_succ]
          refine anyT_step (i := 6) (oi := _) rfl (by kernel_rfl) (by rfl) (fun K hK => ?_)
          refine wp_st_node _ _ rfl _ _ rfl rfl _ (S80.out.blk _ _ _ (.tail _ (.head _))) rfl rfl (by first | (simp [ndCells, Value.oneCell']; done) | exact nd_one rfl hok.one | exact nd_one hok.one rfl) ?_
          refine hK.out (Act.put _ none _) _ (fun h => by cases h) ?_
          clear hK K
          try simp only [Act.put, List.setIfInBounds_toArray, List.set_cons_zero, List.set_cons_succ]
          have S81 := Lib.hid (S80.out.setRow 1 _ _ _ (ndCells 12 (placeZ ws en i58) ⟨#[]⟩ 0 ⟨#[]⟩ ⟨#[]⟩ (.slice none 0 0) (.slice (some ⟨w78.heap.size, 0, none⟩) 2 2)) rfl)
          clear S80
          refine anyT_done (by kernel_rfl) ?_ _
          cases hr
          go_wp2_with fail
          refine ret_node rfl _ _ rfl (S81.out.blk _ _ _ (.tail _ (.head _))) rfl rfl ?_
          first | exact S81.out.done | (have e := S81.out.done; simp only [Int.add_sub_cancel] at e; exact e) | (simp only [Int.add_sub_cancel]; exact S81.out.done)
        | false =>
          rw [if_neg (by rw [hb69]; decide)] at hr
          refine (take_calls _ _ ⟨#[124]⟩ _ false hb69 (cell_top _ _ _ _ (by simp)) S68.out.row).mono ?_
          rintro _ w82 ⟨rfl, hrw, hk⟩
          replace hrw : Rw p vw ws en i58 _ _ := hrw
          have S83 := Lib.hid (S68.out.call hrw hk)
          clear hrw hk
          cases hr
          go_wp2_with (first
            | (refine ld_node rfl _ rfl _ rfl _ (S83.out.blk _ _ _ (.head _)) hszc61 ?_)
            | (refine st_node rfl _ _ rfl _ _ rfl rfl _ (S83.out.blk _ _ _ (.tail _ (.head _))) hszc61 rfl honec61 ?_))
          have S84 := Lib.hid (S83.out.setRow 1 _ _ _ c61 rfl)
          clear S83
          refine ret_node rfl _ _ rfl (S84.out.blk _ _ _ (.tail _ (.head _))) hszc61 rfl ?_
          first | exact S84.out.done | (have e := S84.out.done; simp only [Int.add_sub_cancel] at e; exact e) | (simp only [Int.add_sub_cancel]; exact S84.out.done)
      | false =>
        rw [if_neg (by rw [hb48]; decide)] at hr
        go_wp2_with fail
        rcases PR.cases hr with ⟨x88, hz, rfl⟩ | ⟨n85, i86, o87, hz, hr'⟩
        · refine (RC.post _ _ _ _ hz S49.out.row).mono ?_
          rintro _ _ ⟨rfl, hk⟩
          exact ⟨rfl, S49.out.dies hk⟩
        replace hr := hr'
        clear hr'
        have ho := (RC.even _ _ _ _ _ _ hz).symm
        subst ho
        refine (RC.post _ _ _ _ hz S49.out.row).mono ?_
        rintro _ w90 ⟨⟨_, rfl, hn⟩, hrw, hk⟩
        obtain ⟨c89, rfl, S91⟩ := S49.out.made hrw hk hn
        replace S91 := Lib.hid S91
        have hszc89 := S91.out.fst.size
        have honec89 := S91.out.fst.one
        clear hrw hk hn
        clear hz
        go_wp2_with (first
          | (refine st_nodeO rfl _ _ rfl (w43.heap.size) c89 rfl rfl _ (S91.out.blk _ _ _ (.head _)) hszc89 rfl honec89 ?_; intro w92 hwN; have S93 := Lib.hid (S91.out.setRowO 0 _ _ _ c89 rfl hwN); clear hwN))
        refine (place_calls _ S93.out.row).mono ?_
        rintro _ w94 ⟨rfl, hd⟩
        have S95 := Lib.hid (S93.out.drawn hd)
        clear S93
        clear hd
        go_wp2_with fail
        have S96 := Lib.hid (S95.out.waste (.cells #[.string ⟨#[97, 115]⟩] 9))
        clear S95
        cases hb97 : isZ ws i86 ⟨#[97, 115]⟩ with
        | true =>
          rw [if_pos hb97] at hr
          refine (take_calls _ _ ⟨#[97, 115]⟩ _ true hb97 (cell_top _ _ _ _ (by simp)) S96.out.row).mono ?_
          rintro _ w98 ⟨rfl, hrw, hk⟩
          replace hrw : Rw p vw ws en (i86 + 1) _ _ := hrw
          have S99 := Lib.hid (S96.out.call hrw hk)
          clear hrw hk
          go_wp2_with fail
          rcases PR.cases hr with ⟨x101, hz, rfl⟩ | ⟨u102, i103, o104, hz, hr'⟩
          · refine (name_calls _ 3 (by decide) _ hz S99.out.row).mono ?_
            rintro _ _ ⟨rfl, hk⟩
            exact ⟨rfl, S99.out.dies hk⟩
          replace hr := hr'
          clear hr'
          refine (name_calls _ 3 (by decide) _ hz S99.out.row).mono ?_
          rintro _ w100 ⟨⟨_, rfl, rfl⟩, hrw, hk⟩
          obtain ⟨rfl, rfl, rfl, hkd⟩ := nameZ_ok hz
          have S105 := Lib.hid (S99.out.call hrw hk)
          clear S99
          clear hrw hk hz
          go_wp2_with fail
          rcases PR.cases hr with ⟨x107, hz, rfl⟩ | ⟨u108, i109, o110, hz, hr'⟩
          · refine (want_calls _ ⟨#[124]⟩ _ hz S105.out.row).mono ?_
            rintro _ _ ⟨rfl, hk⟩
            exact ⟨rfl, S105.out.dies hk⟩
          replace hr := hr'
          clear hr'
          refine (want_calls _ ⟨#[124]⟩ _ hz S105.out.row).mono ?_
          rintro _ w106 ⟨⟨_, rfl, rfl⟩, hrw, hk⟩
          obtain ⟨rfl, rfl⟩ := wantZ_ok hz
          have S111 := Lib.hid (S105.out.call hrw hk)
          clear S105
          clear hrw hk hz
          go_wp2_with fail
          refine region_T (fun w => w.heap[w43.heap.size]? = some (.cells c89 28 (0, 0))) (fun j => j == 7) 8 rfl (by kernel_rfl) ?_
          have S112 := Lib.hid (S111.out.drawn (w' := World.drew _) ⟨1, rfl⟩)
          clear S111
          refine anyT_take (i := 0) (oi := _) (v := (.int .i64 (placeZ ws en i86))) (d := (some 69)) rfl rfl (by kernel_rfl) (by kernel_rfl) rfl (by kernel_rfl) (by kernel_rfl) (fun _ _ _ h => h) (Or.inl ⟨by rfl, fun _ _ => rfl⟩) (S112.out.blk _ _ _ (.head _)) ?_
          try simp only [Act.put, List.setIfInBounds_toArray, List.set_cons_zero, List.set_cons_succ]
          refine anyT_take (i := 1) (oi := _) (v := (.string (saidZ ws (i86 + 1)))) (d := (some 70)) rfl rfl (by kernel_rfl) (by kernel_rfl) rfl (by kernel_rfl) (by kernel_rfl) (fun _ _ _ h => h) (Or.inl ⟨by rfl, fun _ _ => rfl⟩) (S112.out.blk _ _ _ (.head _)) ?_
          try simp only [Act.put, List.setIfInBounds_toArray, List.set_cons_zero, List.set_cons_succ]
          refine anyT_take (i := 2) (oi := _) (v := (.agg c89)) (d := (some 71)) rfl rfl (by kernel_rfl) (by kernel_rfl) rfl (by kernel_rfl) (by kernel_rfl) (fun _ _ _ h => h) (yl_node _ rfl (by rfl) _ rfl _ (fun _ h => h) hszc89) (S112.out.blk _ _ _ (.head _)) ?_
          try simp only [Act.put, List.setIfInBounds_toArray, List.set_cons_zero, List.set_cons_succ]
          refine anyT_take (i := 3) (oi := _) (v := (.pointer (some ⟨p, 0, none⟩))) (d := (some 72)) rfl rfl (by kernel_rfl) (by kernel_rfl) rfl (by kernel_rfl) (by kernel_rfl) (fun _ _ _ h => h) (Or.inl ⟨by rfl, fun _ _ => rfl⟩) (S112.out.blk _ _ _ (.head _)) ?_
          try simp only [Act.put, List.setIfInBounds_toArray, List.set_cons_zero, List.set_cons_succ]
          refine anyT_step (i := 4) (oi := _) rfl (by kernel_rfl) (by rfl) (fun K hK => ?_)
          go_simp
          rcases PR.cases hr with ⟨x116, hz, rfl⟩ | ⟨n113, i114, o115, hz, hr'⟩
          · refine (RC.pipe _ _ _ _ hz S112.out.row).mono ?_
            rintro _ _ ⟨rfl, hk⟩
            exact ⟨rfl, S112.out.dies hk⟩
          replace hr := hr'
          clear hr'
          have ho := (RC.even _ _ _ _ _ _ hz).symm
          subst ho
          refine (RC.pipe _ _ _ _ hz S112.out.row).mono ?_
          rintro _ w118 ⟨⟨_, rfl, hn⟩, hrw, hk⟩
          obtain ⟨c117, rfl, S119⟩ := S112.out.made hrw hk hn
          replace S119 := Lib.hid S119
          have hszc117 := S119.out.fst.size
          have honec117 := S119.out.fst.one
          clear hrw hk hn
          clear S112
          clear hz
          refine hK.out _ _ (fun h => (S119.out.blk _ _ _ (.head _))) ?_
          clear hK K
          try simp only [Act.put, List.setIfInBounds_toArray, List.set_cons_zero, List.set_cons_succ]
          refine anyT_step (i := 5) (oi := _) rfl (by kernel_rfl) (by rfl) (fun K hK => ?_)
          refine wp_bs_nodes 2 _ rfl [c89, c117] rfl (by intro c hc; simp only [List.mem_cons, List.not_mem_nil, or_false] at hc; rcases hc with rfl | rfl <;> first | assumption | rfl) rfl (by decide) (by decide) ?_
          intro cur hcur
          have S120 := Lib.hid (S119.out.build 29 (placeZ ws en i86) (saidZ ws (i86 + 1)) [c89, c117] [n85, n113] (.cons (S119.out.nds (c89, n85) (.tail _ (.head _))) (.cons (S119.out.nds (c117, n113) (.head _)) .nil)) (by simp) (by simp) cur hcur)
          clear S119
          refine hK.out (Act.put _ (some 74) _) _ (fun h => (S120.out.blk _ _ _ (.head _))) ?_
          clear hK K
          try simp only [Act.put, List.setIfInBounds_toArray, List.set_cons_zero, List.set_cons_succ]
          refine anyT_step (i := 6) (oi := _) rfl (by kernel_rfl) (by rfl) (fun K hK => ?_)
          go_simp
          refine hK.out _ _ (fun h => (S120.out.blk _ _ _ (.head _))) ?_
          clear hK K
          try simp only [Act.put, List.setIfInBounds_toArray, List.set_cons_zero, List.set_cons_succ]
          refine anyT_step (i := 7) (oi := _) rfl (by kernel_rfl) (by rfl) (fun K hK => ?_)
          refine wp_st_node _ _ rfl _ _ rfl rfl _ (S120.out.blk _ _ _ (.tail _ (.head _))) rfl rfl (by first | (simp [ndCells, Value.oneCell']; done) | exact nd_one rfl hok.one | exact nd_one hok.one rfl) ?_
          refine hK.out (Act.put _ none _) _ (fun h => by cases h) ?_
          clear hK K
          try simp only [Act.put, List.setIfInBounds_toArray, List.set_cons_zero, List.set_cons_succ]
          have S121 := Lib.hid (S120.out.setRow 1 _ _ _ (ndCells 29 (placeZ ws en i86) (saidZ ws (i86 + 1)) 0 ⟨#[]⟩ ⟨#[]⟩ (.slice none 0 0) (.slice (some ⟨w118.heap.size, 0, none⟩) 2 2)) rfl)
          clear S120
          refine anyT_done (by kernel_rfl) ?_ _
          cases hr
          go_wp2_with fail
          refine ret_node rfl _ _ rfl (S121.out.blk _ _ _ (.tail _ (.head _))) rfl rfl ?_
          first | exact S121.out.done | (have e := S121.out.done; simp only [Int.add_sub_cancel] at e; exact e) | (simp only [Int.add_sub_cancel]; exact S121.out.done)
        | false =>
          rw [if_neg (by rw [hb97]; decide)] at hr
          refine (take_calls _ _ ⟨#[97, 115]⟩ _ false hb97 (cell_top _ _ _ _ (by simp)) S96.out.row).mono ?_
          rintro _ w122 ⟨rfl, hrw, hk⟩
          replace hrw : Rw p vw ws en i86 _ _ := hrw
          have S123 := Lib.hid (S96.out.call hrw hk)
          clear hrw hk
          go_wp2_with (first
            | (refine ld_node rfl _ rfl _ rfl _ (S123.out.blk _ _ _ (.head _)) hszc89 ?_))
          rcases PR.cases hr with ⟨x127, hz, rfl⟩ | ⟨n124, i125, o126, hz, hr'⟩
          · refine (RC.climb _ _ _ _ _ _ _ _ hz S123.out.row (S123.out.nds (c89, n85) (.head _)) (fun e => S123.out.gp p S123.out.mp e.1)).mono ?_
            rintro _ _ ⟨rfl, hk⟩
            exact ⟨rfl, S123.out.dies hk⟩
          replace hr := hr'
          clear hr'
          have ho := (RC.even _ _ _ _ _ _ hz).symm
          subst ho
          refine (RC.climb _ _ _ _ _ _ _ _ hz S123.out.row (S123.out.nds (c89, n85) (.head _)) (fun e => S123.out.gp p S123.out.mp e.1)).mono ?_
          rintro _ w129 ⟨⟨_, rfl, hn⟩, hrw, hk⟩
          obtain ⟨c128, rfl, S130⟩ := S123.out.madeF hrw hk hn
          replace S130 := Lib.hid S130
          have hszc128 := S130.out.fst.size
          have honec128 := S130.out.fst.one
          clear hrw hk hn
          clear S123
          clear hz
          go_wp2_with (first
            | (refine st_nodeO rfl _ _ rfl (w43.heap.size) c128 rfl rfl _ (S130.out.blk _ _ _ (.head _)) hszc128 hszc89 honec128 ?_; intro w131 hwN; have S132 := Lib.hid (S130.out.setRowO 0 _ _ _ c128 rfl hwN); clear hwN))
          unfold pipedZ at hr
          go_wp2_with fail
          refine (place_calls _ S132.out.row).mono ?_
          rintro _ w133 ⟨rfl, hd⟩
          have S134 := Lib.hid (S132.out.drawn hd)
          clear S132
          clear hd
          go_wp2_with fail
          have S135 := Lib.hid (S134.out.waste (.cells #[.string ⟨#[124]⟩] 9))
          clear S134
          cases hb136 : isZ ws i125 ⟨#[124]⟩ with
          | true =>
            rw [if_pos hb136] at hr
            refine (take_calls _ _ ⟨#[124]⟩ _ true hb136 (cell_top _ _ _ _ (by simp)) S135.out.row).mono ?_
            rintro _ w137 ⟨rfl, hrw, hk⟩
            replace hrw : Rw p vw ws en (i125 + 1) _ _ := hrw
            have S138 := Lib.hid (S135.out.call hrw hk)
            clear hrw hk
            go_wp2_with fail
            refine region_T (fun w => w.heap[w43.heap.size]? = some (.cells c128 28 (0, 0))) (fun j => j == 6) 7 rfl (by kernel_rfl) ?_
            have S139 := Lib.hid (S138.out.drawn (w' := World.drew _) ⟨1, rfl⟩)
            clear S138
            refine anyT_take (i := 0) (oi := _) (v := (.int .i64 (placeZ ws en i125))) (d := (some 88)) rfl rfl (by kernel_rfl) (by kernel_rfl) rfl (by kernel_rfl) (by kernel_rfl) (fun _ _ _ h => h) (Or.inl ⟨by rfl, fun _ _ => rfl⟩) (S139.out.blk _ _ _ (.head _)) ?_
            try simp only [Act.put, List.setIfInBounds_toArray, List.set_cons_zero, List.set_cons_succ]
            refine anyT_take (i := 1) (oi := _) (v := (.agg c128)) (d := (some 89)) rfl rfl (by kernel_rfl) (by kernel_rfl) rfl (by kernel_rfl) (by kernel_rfl) (fun _ _ _ h => h) (yl_node _ rfl (by rfl) _ rfl _ (fun _ h => h) hszc128) (S139.out.blk _ _ _ (.head _)) ?_
            try simp only [Act.put, List.setIfInBounds_toArray, List.set_cons_zero, List.set_cons_succ]
            refine anyT_take (i := 2) (oi := _) (v := (.pointer (some ⟨p, 0, none⟩))) (d := (some 90)) rfl rfl (by kernel_rfl) (by kernel_rfl) rfl (by kernel_rfl) (by kernel_rfl) (fun _ _ _ h => h) (Or.inl ⟨by rfl, fun _ _ => rfl⟩) (S139.out.blk _ _ _ (.head _)) ?_
            try simp only [Act.put, List.setIfInBounds_toArray, List.set_cons_zero, List.set_cons_succ]
            refine anyT_step (i := 3) (oi := _) rfl (by kernel_rfl) (by rfl) (fun K hK => ?_)
            go_simp
            rcases PR.cases hr with ⟨x143, hz, rfl⟩ | ⟨n140, i141, o142, hz, hr'⟩
            · refine (RC.pipe _ _ _ _ hz S139.out.row).mono ?_
              rintro _ _ ⟨rfl, hk⟩
              exact ⟨rfl, S139.out.dies hk⟩
            replace hr := hr'
            clear hr'
            have ho := (RC.even _ _ _ _ _ _ hz).symm
            subst ho
            refine (RC.pipe _ _ _ _ hz S139.out.row).mono ?_
            rintro _ w145 ⟨⟨_, rfl, hn⟩, hrw, hk⟩
            obtain ⟨c144, rfl, S146⟩ := S139.out.made hrw hk hn
            replace S146 := Lib.hid S146
            have hszc144 := S146.out.fst.size
            have honec144 := S146.out.fst.one
            clear hrw hk hn
            clear S139
            clear hz
            refine hK.out _ _ (fun h => (S146.out.blk _ _ _ (.head _))) ?_
            clear hK K
            try simp only [Act.put, List.setIfInBounds_toArray, List.set_cons_zero, List.set_cons_succ]
            refine anyT_step (i := 4) (oi := _) rfl (by kernel_rfl) (by rfl) (fun K hK => ?_)
            refine wp_bs_nodes 2 _ rfl [c128, c144] rfl (by intro c hc; simp only [List.mem_cons, List.not_mem_nil, or_false] at hc; rcases hc with rfl | rfl <;> first | assumption | rfl) rfl (by decide) (by decide) ?_
            intro cur hcur
            have S147 := Lib.hid (S146.out.build 12 (placeZ ws en i125) ⟨#[]⟩ [c128, c144] [n124, n140] (.cons (S146.out.nds (c128, n124) (.tail _ (.head _))) (.cons (S146.out.nds (c144, n140) (.head _)) .nil)) (by simp) (by simp) cur hcur)
            clear S146
            refine hK.out (Act.put _ (some 92) _) _ (fun h => (S147.out.blk _ _ _ (.head _))) ?_
            clear hK K
            try simp only [Act.put, List.setIfInBounds_toArray, List.set_cons_zero, List.set_cons_succ]
            refine anyT_step (i := 5) (oi := _) rfl (by kernel_rfl) (by rfl) (fun K hK => ?_)
            go_simp
            refine hK.out _ _ (fun h => (S147.out.blk _ _ _ (.head _))) ?_
            clear hK K
            try simp only [Act.put, List.setIfInBounds_toArray, List.set_cons_zero, List.set_cons_succ]
            refine anyT_step (i := 6) (oi := _) rfl (by kernel_rfl) (by rfl) (fun K hK => ?_)
            refine wp_st_node _ _ rfl _ _ rfl rfl _ (S147.out.blk _ _ _ (.tail _ (.head _))) rfl rfl (by first | (simp [ndCells, Value.oneCell']; done) | exact nd_one rfl hok.one | exact nd_one hok.one rfl) ?_
            refine hK.out (Act.put _ none _) _ (fun h => by cases h) ?_
            clear hK K
            try simp only [Act.put, List.setIfInBounds_toArray, List.set_cons_zero, List.set_cons_succ]
            have S148 := Lib.hid (S147.out.setRow 1 _ _ _ (ndCells 12 (placeZ ws en i125) ⟨#[]⟩ 0 ⟨#[]⟩ ⟨#[]⟩ (.slice none 0 0) (.slice (some ⟨w145.heap.size, 0, none⟩) 2 2)) rfl)
            clear S147
            refine anyT_done (by kernel_rfl) ?_ _
            cases hr
            go_wp2_with fail
            refine ret_node rfl _ _ rfl (S148.out.blk _ _ _ (.tail _ (.head _))) rfl rfl ?_
            first | exact S148.out.done | (have e := S148.out.done; simp only [Int.add_sub_cancel] at e; exact e) | (simp only [Int.add_sub_cancel]; exact S148.out.done)
          | false =>
            rw [if_neg (by rw [hb136]; decide)] at hr
            refine (take_calls _ _ ⟨#[124]⟩ _ false hb136 (cell_top _ _ _ _ (by simp)) S135.out.row).mono ?_
            rintro _ w149 ⟨rfl, hrw, hk⟩
            replace hrw : Rw p vw ws en i125 _ _ := hrw
            have S150 := Lib.hid (S135.out.call hrw hk)
            clear hrw hk
            cases hr
            go_wp2_with (first
              | (refine ld_node rfl _ rfl _ rfl _ (S150.out.blk _ _ _ (.head _)) hszc128 ?_)
              | (refine st_node rfl _ _ rfl _ _ rfl rfl _ (S150.out.blk _ _ _ (.tail _ (.head _))) hszc128 rfl honec128 ?_))
            have S151 := Lib.hid (S150.out.setRow 1 _ _ _ c128 rfl)
            clear S150
            refine ret_node rfl _ _ rfl (S151.out.blk _ _ _ (.tail _ (.head _))) hszc128 rfl ?_
            first | exact S151.out.done | (have e := S151.out.done; simp only [Int.add_sub_cancel] at e; exact e) | (simp only [Int.add_sub_cancel]; exact S151.out.done)

end Go.Proofs.YthlmhnlfcnpocaaDoor.U

namespace Go.Proofs.YthlmhnlfcnpocaaDoor.U
open Go.RowKit Go.Proofs.YthlmhnlfcnpocaaDoorW.PrintWords
set_option linter.unusedSimpArgs false
set_option linter.unusedVariables false

set_option maxHeartbeats 8000000 in
set_option maxRecDepth 100000 in
theorem all_calls {p : Nat} {vw : Value} {ws : List Tok} {en : Int} {i : Nat} {o : Int} (W : World) (hi : i < ws.length) (h : Rw p vw ws en i o W) :
    Calls Tryd.prog 71 #[.pointer (some ⟨p, 0, none⟩)] W (Ends p vw ws en W (IsN (W.heap.size ≤ ·)) (.ok (ndT 33 (placeZ ws en i) ⟨#[114, 101, 99, 117, 114, 115, 101]⟩ [], i + 1, o))) := by
  have S0 := Lib.hid (St.start (G := (W.heap.size ≤ ·)) (V := []) h (Nat.not_le.2 h.lt) (fun k hk => hk) (fun _ hx => by cases hx))
  obtain ⟨g0, cp0, hvg, _, _, _⟩ := h.word i hi
  subst hvg
  clear h
  go_enter Tryd.func71, Tryd.ntmps71
  have S1 := Lib.hid (S0.out.allocAt (W.heap.size) (by simp [World.setCell]) 28 (ndCells 0 0 ⟨#[]⟩ 0 ⟨#[]⟩ ⟨#[]⟩ (.slice none 0 0) (.slice none 0 0)))
  clear S0
  have hw1_ := S1.out.wrapU
  have hi0 : (0 : Int) ≤ (i : Int) := by omega
  have hi1 : (i : Int) < (ws.length : Int) := by omega
  have hw2_ : IntKind.i64.wrap (i : Int) = (i : Int) := IntWalk.i64_in _ (by have := S1.out.row.big; omega)
  have e1_ : (i : Int) + 1 - 1 = (i : Int) := by omega
  go_wp2_with (first
    | (refine ld_cell rfl _ _ rfl (by kernel_rfl) _ _ rfl _ S1.out.row.c1 ?_)
    | (refine st_cellO rfl _ _ _ rfl (by kernel_rfl) p 1 (.int .i64 ((i : Int) + 1)) rfl rfl rfl _ _ S1.out.row.blk (by simp [rwCells]) ?_; intro wA hwN; have SA := Lib.hid (St.stepO S1.out hi hwN); clear hwN))
  refine region_T (fun w => w.cell? ⟨p, 0, none⟩ = some (.slice (some ⟨g0, 0, none⟩) ws.length cp0) ∧ w.cell? ⟨p, 1, none⟩ = some (.int .i64 ((i : Int) + 1)) ∧ w.cell? ⟨g0, i * 4 + 3, none⟩ = some (.string (saidZ ws i)) ∧ w.cell? ⟨g0, i * 4 + 1, none⟩ = some (.int .i64 (placeZ ws en i))) (fun j => j == 15) 16 rfl (by kernel_rfl) ?_
  have S2 := Lib.hid (SA.out.drawn (w' := World.drew _) ⟨1, rfl⟩)
  clear SA
  refine anyT_take (i := 0) (oi := _) (v := (.pointer (some ⟨p, 0, none⟩))) (d := (some 12)) rfl rfl (by kernel_rfl) (by kernel_rfl) rfl (by kernel_rfl) (by kernel_rfl) (fun _ _ _ h => h) (Or.inl ⟨by rfl, fun _ _ => rfl⟩) (S2.out.row.seen i hi) ?_
  try simp only [Act.put, List.setIfInBounds_toArray, List.set_cons_zero, List.set_cons_succ]
  refine anyT_take (i := 1) (oi := _) (v := (.pointer (some ⟨p, 0, none⟩))) (d := (some 13)) rfl rfl (by kernel_rfl) (by kernel_rfl) rfl (by kernel_rfl) (by kernel_rfl) (fun _ _ _ h => h) (Or.inl ⟨by rfl, fun w hS => by go_simp⟩) (S2.out.row.seen i hi) ?_
  try simp only [Act.put, List.setIfInBounds_toArray, List.set_cons_zero, List.set_cons_succ]
  refine anyT_take (i := 2) (oi := _) (v := (.pointer (some ⟨p, 0, none⟩))) (d := (some 14)) rfl rfl (by kernel_rfl) (by kernel_rfl) rfl (by kernel_rfl) (by kernel_rfl) (fun _ _ _ h => h) (Or.inl ⟨by rfl, fun w hS => by go_simp⟩) (S2.out.row.seen i hi) ?_
  try simp only [Act.put, List.setIfInBounds_toArray, List.set_cons_zero, List.set_cons_succ]
  refine anyT_take (i := 3) (oi := _) (v := (.pointer (some ⟨p, 0, none⟩))) (d := (some 15)) rfl rfl (by kernel_rfl) (by kernel_rfl) rfl (by kernel_rfl) (by kernel_rfl) (fun _ _ _ h => h) (Or.inl ⟨by rfl, fun w hS => by go_simp⟩) (S2.out.row.seen i hi) ?_
  try simp only [Act.put, List.setIfInBounds_toArray, List.set_cons_zero, List.set_cons_succ]
  refine anyT_take (i := 4) (oi := _) (v := (.slice (some ⟨g0, 0, none⟩) ws.length cp0)) (d := (some 16)) rfl rfl (by kernel_rfl) (by kernel_rfl) rfl (by kernel_rfl) (by kernel_rfl) (fun _ _ _ h => h) (yl_cell 37 _ rfl (by rfl) (by kernel_rfl) _ _ rfl _ (fun _ h => h.1)) (S2.out.row.seen i hi) ?_
  try simp only [Act.put, List.setIfInBounds_toArray, List.set_cons_zero, List.set_cons_succ]
  refine anyT_take (i := 5) (oi := _) (v := (.pointer (some ⟨p, 0, none⟩))) (d := (some 17)) rfl rfl (by kernel_rfl) (by kernel_rfl) rfl (by kernel_rfl) (by kernel_rfl) (fun _ _ _ h => h) (Or.inl ⟨by rfl, fun _ _ => rfl⟩) (S2.out.row.seen i hi) ?_
  try simp only [Act.put, List.setIfInBounds_toArray, List.set_cons_zero, List.set_cons_succ]
  refine anyT_take (i := 6) (oi := _) (v := (.pointer (some ⟨p, 0, none⟩))) (d := (some 18)) rfl rfl (by kernel_rfl) (by kernel_rfl) rfl (by kernel_rfl) (by kernel_rfl) (fun _ _ _ h => h) (Or.inl ⟨by rfl, fun w hS => by go_simp⟩) (S2.out.row.seen i hi) ?_
  try simp only [Act.put, List.setIfInBounds_toArray, List.set_cons_zero, List.set_cons_succ]
  refine anyT_take (i := 7) (oi := _) (v := (.pointer (some ⟨p, 0, none⟩))) (d := (some 19)) rfl rfl (by kernel_rfl) (by kernel_rfl) rfl (by kernel_rfl) (by kernel_rfl) (fun _ _ _ h => h) (Or.inl ⟨by rfl, fun w hS => by go_simp⟩) (S2.out.row.seen i hi) ?_
  try simp only [Act.put, List.setIfInBounds_toArray, List.set_cons_zero, List.set_cons_succ]
  refine anyT_take (i := 8) (oi := _) (v := (.pointer (some ⟨p, 1, none⟩))) (d := (some 20)) rfl rfl (by kernel_rfl) (by kernel_rfl) rfl (by kernel_rfl) (by kernel_rfl) (fun _ _ _ h => h) (Or.inl ⟨by rfl, fun w hS => by go_simp⟩) (S2.out.row.seen i hi) ?_
  try simp only [Act.put, List.setIfInBounds_toArray, List.set_cons_zero, List.set_cons_succ]
  refine anyT_take (i := 9) (oi := _) (v := (.int .i64 ((i : Int) + 1))) (d := (some 21)) rfl rfl (by kernel_rfl) (by kernel_rfl) rfl (by kernel_rfl) (by kernel_rfl) (fun _ _ _ h => h) (yl_cell 3 _ rfl (by rfl) (by kernel_rfl) _ _ rfl _ (fun _ h => h.2.1)) (S2.out.row.seen i hi) ?_
  try simp only [Act.put, List.setIfInBounds_toArray, List.set_cons_zero, List.set_cons_succ]
  refine anyT_take (i := 10) (oi := _) (v := (.int .i64 (i : Int))) (d := (some 22)) rfl rfl (by kernel_rfl) (by kernel_rfl) rfl (by kernel_rfl) (by kernel_rfl) (fun _ _ _ h => h) (Or.inl ⟨by rfl, fun w hS => by go_simp⟩) (S2.out.row.seen i hi) ?_
  try simp only [Act.put, List.setIfInBounds_toArray, List.set_cons_zero, List.set_cons_succ]
  refine anyT_take (i := 11) (oi := _) (v := (.pointer (some ⟨g0, i * 4, none⟩))) (d := (some 23)) rfl rfl (by kernel_rfl) (by kernel_rfl) rfl (by kernel_rfl) (by kernel_rfl) (fun _ _ _ h => h) (Or.inl ⟨by rfl, fun w hS => by go_simp⟩) (S2.out.row.seen i hi) ?_
  try simp only [Act.put, List.setIfInBounds_toArray, List.set_cons_zero, List.set_cons_succ]
  refine anyT_take (i := 12) (oi := _) (v := (.pointer (some ⟨g0, i * 4 + 1, none⟩))) (d := (some 24)) rfl rfl (by kernel_rfl) (by kernel_rfl) rfl (by kernel_rfl) (by kernel_rfl) (fun _ _ _ h => h) (Or.inl ⟨by rfl, fun w hS => by go_simp⟩) (S2.out.row.seen i hi) ?_
  try simp only [Act.put, List.setIfInBounds_toArray, List.set_cons_zero, List.set_cons_succ]
  refine anyT_take (i := 13) (oi := _) (v := (.int .i64 (placeZ ws en i))) (d := (some 25)) rfl rfl (by kernel_rfl) (by kernel_rfl) rfl (by kernel_rfl) (by kernel_rfl) (fun _ _ _ h => h) (yl_cell 3 _ rfl (by rfl) (by kernel_rfl) _ _ rfl _ (fun _ h => h.2.2.2)) (S2.out.row.seen i hi) ?_
  try simp only [Act.put, List.setIfInBounds_toArray, List.set_cons_zero, List.set_cons_succ]
  have S3 := Lib.hid (S2.out.plain 33 (placeZ ws en i) ⟨#[114, 101, 99, 117, 114, 115, 101]⟩ 0 ⟨#[]⟩ ⟨#[]⟩)
  clear S2
  refine anyT_take (i := 14) (oi := _) (v := (.agg (ndCells 33 (placeZ ws en i) ⟨#[114, 101, 99, 117, 114, 115, 101]⟩ 0 ⟨#[]⟩ ⟨#[]⟩ (.slice none 0 0) (.slice none 0 0)))) (d := (some 26)) rfl rfl (by kernel_rfl) (by kernel_rfl) rfl (by kernel_rfl) (by kernel_rfl) (fun _ _ _ h => h) (Or.inl ⟨by rfl, fun w hS => (by first | (go_simp; done) | (go_simp; rfl))⟩) (S3.out.row.seen i hi) ?_
  try simp only [Act.put, List.setIfInBounds_toArray, List.set_cons_zero, List.set_cons_succ]
  refine anyT_step (i := 15) (oi := _) rfl (by kernel_rfl) (by rfl) (fun K hK => ?_)
  refine wp_st_node _ _ rfl _ _ rfl rfl _ (S3.out.blk _ _ _ (.head _)) rfl rfl (by first | (simp [ndCells, Value.oneCell']; done) | exact nd_one rfl hok.one | exact nd_one hok.one rfl) ?_
  refine hK.out (Act.put _ none _) _ (fun h => by cases h) ?_
  clear hK K
  try simp only [Act.put, List.setIfInBounds_toArray, List.set_cons_zero, List.set_cons_succ]
  have S4 := Lib.hid (S3.out.setRow 0 _ _ _ (ndCells 33 (placeZ ws en i) ⟨#[114, 101, 99, 117, 114, 115, 101]⟩ 0 ⟨#[]⟩ ⟨#[]⟩ (.slice none 0 0) (.slice none 0 0)) rfl)
  clear S3
  refine anyT_done (by kernel_rfl) ?_ _
  go_wp2_with fail
  refine ret_node rfl _ _ rfl (S4.out.blk _ _ _ (.head _)) rfl rfl ?_
  first | exact S4.out.done | (have e := S4.out.done; simp only [Int.add_sub_cancel] at e; exact e) | (simp only [Int.add_sub_cancel]; exact S4.out.done)

end Go.Proofs.YthlmhnlfcnpocaaDoor.U

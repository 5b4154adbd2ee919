/- The walks of syntax's parser: record. Printed by wip/gensyn.py. -/
import Derived.Test.YthlmhnlfcnpocaaDoorRowAll
import Derived.Test.YthlmhnlfcnpocaaDoorSynAll
namespace Go.Proofs.YthlmhnlfcnpocaaDoor.U
open Go.RowKit Go.Proofs.YthlmhnlfcnpocaaDoorW.PrintWords
set_option linter.unusedSimpArgs false
set_option linter.unusedVariables false

set_option maxHeartbeats 8000000 in
set_option maxRecDepth 100000 in
theorem text_calls {p : Nat} {vw : Value} {ws : List Tok} {en : Int} {rc : PC → Nat → Int → PR SN} (RC : RcOk p vw ws en rc) {i : Nat} {o : Int} (W : World) (k : Nat) (hkb : k ≤ 8589934592) (r : Except (Int × Int) (SN × Nat × Int)) (hr : textN ws en rc k i o = some r) (h : Rw p vw ws en i o W) :
    Calls Tryd.prog 48 #[.pointer (some ⟨p, 0, none⟩)] W (Ends p vw ws en W (IsN (W.heap.size ≤ ·)) r) := by
  have S0 := Lib.hid (St.start (G := (W.heap.size ≤ ·)) (V := []) h (Nat.not_le.2 h.lt) (fun k hk => hk) (fun _ hx => by cases hx))
  clear h
  have hkb := hkb
  go_enter Tryd.func48, Tryd.ntmps48
  go_wp2_with fail
  have S1 := Lib.hid (S0.out.allocAt (W.heap.size) (by simp [World.setCell]) 28 (ndCells 0 0 ⟨#[]⟩ 0 ⟨#[]⟩ ⟨#[]⟩ (.slice none 0 0) (.slice none 0 0)))
  clear S0
  refine (place_calls _ S1.out.row).mono ?_
  rintro _ w2 ⟨rfl, hd⟩
  have S3 := Lib.hid (S1.out.drawn hd)
  clear S1
  clear hd
  go_wp2_with fail
  refine (kind_calls _ S3.out.row).mono ?_
  rintro _ w4 ⟨rfl, hd⟩
  have S5 := Lib.hid (S3.out.drawn hd)
  clear S3
  clear hd
  unfold textN at hr
  by_cases h6 : kindZ ws i = 6
  ·
    rw [if_pos h6] at hr
    cases hr
    rw [h6]
    go_wp2_with fail
    refine (name_calls _ 6 (by decide) _ (nameZ_yes h6) S5.out.row).mono ?_
    rintro _ w6 ⟨⟨_, rfl, rfl⟩, hrw, hk⟩
    have S7 := Lib.hid (S5.out.call hrw hk)
    clear hrw hk
    go_wp2_with fail
    refine (txt_calls _ (saidZ ws i) (placeZ ws en i) S7.out.row).mono ?_
    rintro _ w8 ⟨rfl, hrw, hk⟩
    have S9 := Lib.hid (S7.out.call hrw hk)
    clear S7
    clear hrw hk
    have S10 := Lib.hid (S9.out.plain 2 (placeZ ws en i) ⟨#[]⟩ 4 ⟨#[]⟩ (saidZ ws i))
    clear S9
    go_wp2_with (first
      | (refine st_node rfl _ _ rfl _ _ rfl rfl _ (S10.out.blk _ _ _ (.head _)) rfl rfl (by first | (simp [ndCells, Value.oneCell']; done) | exact nd_one rfl hok.one | exact nd_one hok.one rfl) ?_))
    have S11 := Lib.hid (S10.out.setRow 0 _ _ _ (ndCells 2 (placeZ ws en i) ⟨#[]⟩ 4 ⟨#[]⟩ (saidZ ws i) (.slice none 0 0) (.slice none 0 0)) rfl)
    clear S10
    refine ret_node rfl _ _ rfl (S11.out.blk _ _ _ (.head _)) rfl rfl ?_
    first | exact S11.out.done | (have e := S11.out.done; simp only [Int.add_sub_cancel] at e; exact e) | (simp only [Int.add_sub_cancel]; exact S11.out.done)
  rw [if_neg h6] at hr
  have hkd : kindZ ws i ≠ 6 := h6
  by_cases h7 : kindZ ws i = 7
  ·
    rw [if_pos h7] at hr
    rw [h7]
    go_wp2_with fail
    refine (kind_calls _ S5.out.row).mono ?_
    rintro _ w12 ⟨rfl, hd⟩
    have S13 := Lib.hid (S5.out.drawn hd)
    clear hd
    rw [h7]
    go_wp2_with fail
    have hi := kindZ_lt h7 (by decide)
    obtain ⟨g0, cp0, hvg, _, _, _⟩ := S13.out.row.word i hi
    subst hvg
    have hi0 : (0 : Int) ≤ (i : Int) := by omega
    have hi1 : (i : Int) < (ws.length : Int) := by omega
    refine region_T (fun w => w.cell? ⟨p, 0, none⟩ = some (.slice (some ⟨g0, 0, none⟩) ws.length cp0) ∧ w.cell? ⟨p, 1, none⟩ = some (.int .i64 i) ∧ w.cell? ⟨g0, i * 4 + 3, none⟩ = some (.string (saidZ ws i)) ∧ w.cell? ⟨g0, i * 4 + 1, none⟩ = some (.int .i64 (placeZ ws en i))) (fun j => j == 19) 20 rfl (by kernel_rfl) ?_
    have S14 := Lib.hid (S13.out.drawn (w' := World.drew _) ⟨1, rfl⟩)
    clear S13
    refine anyT_take (i := 0) (oi := _) (v := (.int .i64 (placeZ ws en i))) (d := (some 30)) rfl rfl (by kernel_rfl) (by kernel_rfl) rfl (by kernel_rfl) (by kernel_rfl) (fun _ _ _ h => h) (Or.inl ⟨by rfl, fun _ _ => rfl⟩) (S14.out.row.seen i hi) ?_
    try simp only [Act.put, List.setIfInBounds_toArray, List.set_cons_zero, List.set_cons_succ]
    refine anyT_take (i := 1) (oi := _) (v := (.pointer (some ⟨p, 0, none⟩))) (d := (some 31)) rfl rfl (by kernel_rfl) (by kernel_rfl) rfl (by kernel_rfl) (by kernel_rfl) (fun _ _ _ h => h) (Or.inl ⟨by rfl, fun _ _ => rfl⟩) (S14.out.row.seen i hi) ?_
    try simp only [Act.put, List.setIfInBounds_toArray, List.set_cons_zero, List.set_cons_succ]
    refine anyT_take (i := 2) (oi := _) (v := (.pointer (some ⟨p, 0, none⟩))) (d := (some 32)) rfl rfl (by kernel_rfl) (by kernel_rfl) rfl (by kernel_rfl) (by kernel_rfl) (fun _ _ _ h => h) (Or.inl ⟨by rfl, fun w hS => by go_simp⟩) (S14.out.row.seen i hi) ?_
    try simp only [Act.put, List.setIfInBounds_toArray, List.set_cons_zero, List.set_cons_succ]
    refine anyT_take (i := 3) (oi := _) (v := (.pointer (some ⟨p, 0, none⟩))) (d := (some 33)) rfl rfl (by kernel_rfl) (by kernel_rfl) rfl (by kernel_rfl) (by kernel_rfl) (fun _ _ _ h => h) (Or.inl ⟨by rfl, fun w hS => by go_simp⟩) (S14.out.row.seen i hi) ?_
    try simp only [Act.put, List.setIfInBounds_toArray, List.set_cons_zero, List.set_cons_succ]
    refine anyT_take (i := 4) (oi := _) (v := (.pointer (some ⟨p, 0, none⟩))) (d := (some 34)) rfl rfl (by kernel_rfl) (by kernel_rfl) rfl (by kernel_rfl) (by kernel_rfl) (fun _ _ _ h => h) (Or.inl ⟨by rfl, fun w hS => by go_simp⟩) (S14.out.row.seen i hi) ?_
    try simp only [Act.put, List.setIfInBounds_toArray, List.set_cons_zero, List.set_cons_succ]
    refine anyT_take (i := 5) (oi := _) (v := (.slice (some ⟨g0, 0, none⟩) ws.length cp0)) (d := (some 35)) rfl rfl (by kernel_rfl) (by kernel_rfl) rfl (by kernel_rfl) (by kernel_rfl) (fun _ _ _ h => h) (yl_cell 37 _ rfl (by rfl) (by kernel_rfl) _ _ rfl _ (fun _ h => h.1)) (S14.out.row.seen i hi) ?_
    try simp only [Act.put, List.setIfInBounds_toArray, List.set_cons_zero, List.set_cons_succ]
    refine anyT_take (i := 6) (oi := _) (v := (.pointer (some ⟨p, 0, none⟩))) (d := (some 36)) rfl rfl (by kernel_rfl) (by kernel_rfl) rfl (by kernel_rfl) (by kernel_rfl) (fun _ _ _ h => h) (Or.inl ⟨by rfl, fun _ _ => rfl⟩) (S14.out.row.seen i hi) ?_
    try simp only [Act.put, List.setIfInBounds_toArray, List.set_cons_zero, List.set_cons_succ]
    refine anyT_take (i := 7) (oi := _) (v := (.pointer (some ⟨p, 0, none⟩))) (d := (some 37)) rfl rfl (by kernel_rfl) (by kernel_rfl) rfl (by kernel_rfl) (by kernel_rfl) (fun _ _ _ h => h) (Or.inl ⟨by rfl, fun w hS => by go_simp⟩) (S14.out.row.seen i hi) ?_
    try simp only [Act.put, List.setIfInBounds_toArray, List.set_cons_zero, List.set_cons_succ]
    refine anyT_take (i := 8) (oi := _) (v := (.pointer (some ⟨p, 0, none⟩))) (d := (some 38)) rfl rfl (by kernel_rfl) (by kernel_rfl) rfl (by kernel_rfl) (by kernel_rfl) (fun _ _ _ h => h) (Or.inl ⟨by rfl, fun w hS => by go_simp⟩) (S14.out.row.seen i hi) ?_
    try simp only [Act.put, List.setIfInBounds_toArray, List.set_cons_zero, List.set_cons_succ]
    refine anyT_take (i := 9) (oi := _) (v := (.pointer (some ⟨p, 1, none⟩))) (d := (some 39)) rfl rfl (by kernel_rfl) (by kernel_rfl) rfl (by kernel_rfl) (by kernel_rfl) (fun _ _ _ h => h) (Or.inl ⟨by rfl, fun w hS => by go_simp⟩) (S14.out.row.seen i hi) ?_
    try simp only [Act.put, List.setIfInBounds_toArray, List.set_cons_zero, List.set_cons_succ]
    refine anyT_take (i := 10) (oi := _) (v := (.int .i64 (i : Int))) (d := (some 40)) rfl rfl (by kernel_rfl) (by kernel_rfl) rfl (by kernel_rfl) (by kernel_rfl) (fun _ _ _ h => h) (yl_cell 3 _ rfl (by rfl) (by kernel_rfl) _ _ rfl _ (fun _ h => h.2.1)) (S14.out.row.seen i hi) ?_
    try simp only [Act.put, List.setIfInBounds_toArray, List.set_cons_zero, List.set_cons_succ]
    refine anyT_take (i := 11) (oi := _) (v := (.pointer (some ⟨g0, i * 4, none⟩))) (d := (some 41)) rfl rfl (by kernel_rfl) (by kernel_rfl) rfl (by kernel_rfl) (by kernel_rfl) (fun _ _ _ h => h) (Or.inl ⟨by rfl, fun w hS => by go_simp⟩) (S14.out.row.seen i hi) ?_
    try simp only [Act.put, List.setIfInBounds_toArray, List.set_cons_zero, List.set_cons_succ]
    refine anyT_take (i := 12) (oi := _) (v := (.pointer (some ⟨g0, i * 4 + 3, none⟩))) (d := (some 42)) rfl rfl (by kernel_rfl) (by kernel_rfl) rfl (by kernel_rfl) (by kernel_rfl) (fun _ _ _ h => h) (Or.inl ⟨by rfl, fun w hS => by go_simp⟩) (S14.out.row.seen i hi) ?_
    try simp only [Act.put, List.setIfInBounds_toArray, List.set_cons_zero, List.set_cons_succ]
    refine anyT_take (i := 13) (oi := _) (v := (.string (saidZ ws i))) (d := (some 43)) rfl rfl (by kernel_rfl) (by kernel_rfl) rfl (by kernel_rfl) (by kernel_rfl) (fun _ _ _ h => h) (yl_cell 9 _ rfl (by rfl) (by kernel_rfl) _ _ rfl _ (fun _ h => h.2.2.1)) (S14.out.row.seen i hi) ?_
    try simp only [Act.put, List.setIfInBounds_toArray, List.set_cons_zero, List.set_cons_succ]
    refine anyT_take (i := 14) (oi := _) (v := (.int .i64 (placeZ ws en i))) (d := (some 44)) rfl rfl (by kernel_rfl) (by kernel_rfl) rfl (by kernel_rfl) (by kernel_rfl) (fun _ _ _ h => h) (Or.inl ⟨by rfl, fun _ _ => rfl⟩) (S14.out.row.seen i hi) ?_
    try simp only [Act.put, List.setIfInBounds_toArray, List.set_cons_zero, List.set_cons_succ]
    refine anyT_two (i := 15) (j := 18) (oi := _) (oj := _) rfl rfl (by kernel_rfl) (by rfl) (by rfl) (fun K hK => ?_) (fun K hK => ?_)
    ·
      go_simp
      refine (txt_calls _ (saidZ ws i) (placeZ ws en i) S14.out.row).mono ?_
      rintro _ w15 ⟨rfl, hrw, hk⟩
      have S16 := Lib.hid (S14.out.call hrw hk)
      clear hrw hk
      have S17 := Lib.hid (S16.out.plain 2 (placeZ ws en i) ⟨#[]⟩ 4 ⟨#[]⟩ (saidZ ws i))
      clear S16
      refine hK.out _ _ (fun h => (S17.out.row.seen i hi)) ?_
      clear hK K
      try simp only [Act.put, List.setIfInBounds_toArray, List.set_cons_zero, List.set_cons_succ]
      refine anyT_two (i := 16) (j := 18) (oi := _) (oj := _) rfl rfl (by kernel_rfl) (by rfl) (by rfl) (fun K hK => ?_) (fun K hK => ?_)
      ·
        have hB : W.heap.size ≤ w15.heap.size := by first | exact S17.out.base | (have := S17.out.base; simp at this; omega)
        refine wp_bs_nodes 1 _ rfl [(ndCells 2 (placeZ ws en i) ⟨#[]⟩ 4 ⟨#[]⟩ (saidZ ws i) (.slice none 0 0) (.slice none 0 0))] rfl (by intro c hc; simp only [List.mem_cons, List.not_mem_nil, or_false] at hc; rcases hc with rfl <;> first | assumption | rfl) rfl (by decide) (by decide) ?_
        intro cur hcur
        have S18 := Lib.hid (S17.out.allocAt (w15.heap.size) (by simp) 28 cur)
        refine hK.out (Act.put _ (some 46) _) _ (fun h => (S18.out.row.seen i hi)) ?_
        clear hK K
        try simp only [Act.put, List.setIfInBounds_toArray, List.set_cons_zero, List.set_cons_succ]
        refine anyT_take (i := 17) (oi := _) (v := (.agg (ndCells 3 (placeZ ws en i) ⟨#[]⟩ 0 ⟨#[]⟩ ⟨#[]⟩ (.slice none 0 0) (.slice (some ⟨w15.heap.size, 0, none⟩) 1 1)))) (d := (some 47)) rfl rfl (by kernel_rfl) (by kernel_rfl) rfl (by kernel_rfl) (by kernel_rfl) (fun _ _ _ h => h) (Or.inl ⟨by rfl, fun w hS => (by first | (go_simp; done) | (go_simp; rfl))⟩) (S18.out.row.seen i hi) ?_
        try simp only [Act.put, List.setIfInBounds_toArray, List.set_cons_zero, List.set_cons_succ]
        refine anyT_step (i := 18) (oi := _) rfl (by kernel_rfl) (by rfl) (fun K hK => ?_)
        go_simp
        have S19 := Lib.hid (S18.out.allocAt (w15.heap.size + 1) (by simp) 28 (ndCells 0 0 ⟨#[]⟩ 0 ⟨#[]⟩ ⟨#[]⟩ (.slice none 0 0) (.slice none 0 0)))
        clear S18
        refine hK.out _ _ (fun h => (S19.out.row.seen i hi)) ?_
        clear hK K
        try simp only [Act.put, List.setIfInBounds_toArray, List.set_cons_zero, List.set_cons_succ]
        refine anyT_step (i := 19) (oi := _) rfl (by kernel_rfl) (by rfl) (fun K hK => ?_)
        refine wp_st_node _ _ rfl _ _ rfl rfl _ (S19.out.blk _ _ _ (.head _)) rfl rfl (by first | (simp [ndCells, Value.oneCell']; done) | exact nd_one rfl hok.one | exact nd_one hok.one rfl) ?_
        refine hK.out (Act.put _ none _) _ (fun h => by cases h) ?_
        clear hK K
        try simp only [Act.put, List.setIfInBounds_toArray, List.set_cons_zero, List.set_cons_succ]
        have S20 := Lib.hid (S19.out.setRow 0 _ _ _ (ndCells 3 (placeZ ws en i) ⟨#[]⟩ 0 ⟨#[]⟩ ⟨#[]⟩ (.slice none 0 0) (.slice (some ⟨w15.heap.size, 0, none⟩) 1 1)) rfl)
        clear S19
        refine anyT_done (by kernel_rfl) ?_ _
        have S21 := Lib.hid (S20.out.swap)
        clear S20
        have S22 := Lib.hid (S21.out.toOwn 1 1)
        clear S21
        go_wp2_with fail
        have holo23 := S22.out.row.olo
        rcases PR.cases hr with ⟨x25, hz, rfl⟩ | ⟨u26, i27, o28, hz, hr'⟩
        · refine (opens_calls _ hi _ hz S22.out.row).mono ?_
          rintro _ _ ⟨rfl, hk⟩
          exact ⟨rfl, S22.out.dies hk⟩
        replace hr := hr'
        clear hr'
        refine (opens_calls _ hi _ hz S22.out.row).mono ?_
        rintro _ w24 ⟨⟨_, rfl, rfl⟩, hrw, hk⟩
        obtain ⟨rfl, rfl⟩ := opensZ_ok hz
        have S29 := Lib.hid (S22.out.call hrw hk)
        clear S22
        clear hrw hk hz
        go_wp2_with fail
        have HR := Lib.hid hr
        clear hr
        go_loopg [] k (fun g wx => ∃ (f i1 : Nat) (o1 : Int) (l : List SN) (vs : List (Array Value)) (v : Value) (cur : Array Value), g = f ∧ Hid (joinZ ws en rc (placeZ ws en i) f l i1 o1 = some r) ∧ Hid (vs.length = l.length ∧ 1 ≤ o1 ∧ l.length + 2 * f ≤ 2 * k + 1 ∧ OkR W.heap.size 10 v cur l.length (flat vs)) ∧ Hid (St p (.slice (some ⟨g0, 0, none⟩) ws.length cp0) ws en W (· = p) (W.heap.size ≤ ·) ([(w15.heap.size + 1, 28, (ndCells 3 (placeZ ws en i) ⟨#[]⟩ 0 ⟨#[]⟩ ⟨#[]⟩ (.slice none 0 0) v)), (W.heap.size, 28, (ndCells 0 0 ⟨#[]⟩ 0 ⟨#[]⟩ ⟨#[]⟩ (.slice none 0 0) (.slice none 0 0)))] ++ own 28 v cur) (vs.zip l) i1 o1 wx))
        case atStart => exact ⟨k, _, _, [txt (saidZ ws i) (placeZ ws en i)], [(ndCells 2 (placeZ ws en i) ⟨#[]⟩ 4 ⟨#[]⟩ (saidZ ws i) (.slice none 0 0) (.slice none 0 0))], (.slice (some ⟨w15.heap.size, 0, none⟩) 1 1), cur, rfl, HR, ⟨rfl, by omega, by simp; omega, OkR.lit hB hcur rfl (by decide)⟩, S29⟩
        case round =>
          clear HR hcur S29
          obtain ⟨f, i1, o1, l, vs, v, cur, hg, HR, HF, S⟩ := hrel
          obtain ⟨hvl, ho1, hlk, hok⟩ := HF.out
          have hr := HR.out
          obtain ⟨f, rfl⟩ : ∃ m, f = m + 1 := ⟨f - 1, by have : f ≠ 0 := (by rintro rfl; cases hr); omega⟩
          rw [joinZ] at hr
          clear HR HF
          go_wp2_with fail
          refine region_T (fun w => w.cell? ⟨w15.heap.size + 1, 9, none⟩ = some v) (fun j => j == 7) 8 rfl (by kernel_rfl) ?_
          have S30 := Lib.hid (S.out.drawn (w' := World.drew _) ⟨1, rfl⟩)
          clear S
          refine anyT_take (i := 0) (oi := _) (v := (.pointer (some ⟨w15.heap.size + 1, 9, none⟩))) (d := (some 52)) rfl rfl (by kernel_rfl) (by kernel_rfl) rfl (by kernel_rfl) (by kernel_rfl) (fun _ _ _ h => h) (Or.inl ⟨by rfl, fun w hS => by go_simp⟩) (S30.out.cell _ _ _ (.head _) 9 v rfl) ?_
          try simp only [Act.put, List.setIfInBounds_toArray, List.set_cons_zero, List.set_cons_succ]
          refine anyT_take (i := 1) (oi := _) (v := v) (d := (some 53)) rfl rfl (by kernel_rfl) (by kernel_rfl) rfl (by kernel_rfl) (by kernel_rfl) (fun _ _ _ h => h) (yl_cell 26 _ rfl (by rfl) (by kernel_rfl) _ _ rfl _ (fun _ h => h)) (S30.out.cell _ _ _ (.head _) 9 v rfl) ?_
          try simp only [Act.put, List.setIfInBounds_toArray, List.set_cons_zero, List.set_cons_succ]
          refine anyT_take (i := 2) (oi := _) (v := (.pointer (some ⟨p, 0, none⟩))) (d := (some 54)) rfl rfl (by kernel_rfl) (by kernel_rfl) rfl (by kernel_rfl) (by kernel_rfl) (fun _ _ _ h => h) (Or.inl ⟨by rfl, fun _ _ => rfl⟩) (S30.out.cell _ _ _ (.head _) 9 v rfl) ?_
          try simp only [Act.put, List.setIfInBounds_toArray, List.set_cons_zero, List.set_cons_succ]
          refine anyT_step (i := 3) (oi := _) rfl (by kernel_rfl) (by rfl) (fun K hK => ?_)
          go_simp
          rcases PR.cases hr with ⟨x34, hz, rfl⟩ | ⟨n31, i32, o33, hz, hr'⟩
          · refine (RC.pipe _ _ _ _ hz S30.out.row).mono ?_
            rintro _ _ ⟨rfl, hk⟩
            exact ⟨rfl, S30.out.dies hk⟩
          replace hr := hr'
          clear hr'
          have ho := (RC.even _ _ _ _ _ _ hz).symm
          subst ho
          refine (RC.pipe _ _ _ _ hz S30.out.row).mono ?_
          rintro _ w36 ⟨⟨_, rfl, hn⟩, hrw, hk⟩
          obtain ⟨c35, rfl, S37⟩ := S30.out.made hrw hk hn
          replace S37 := Lib.hid S37
          have hszc35 := S37.out.fst.size
          have honec35 := S37.out.fst.one
          clear hrw hk hn
          clear S30
          clear hz
          refine hK.out _ _ (fun h => (S37.out.cell _ _ _ (.head _) 9 v rfl)) ?_
          clear hK K
          try simp only [Act.put, List.setIfInBounds_toArray, List.set_cons_zero, List.set_cons_succ]
          refine anyT_step (i := 4) (oi := _) rfl (by kernel_rfl) (by rfl) (fun K hK => ?_)
          refine wp_bs_nodes 1 _ rfl [c35] rfl (by intro c hc; simp only [List.mem_cons, List.not_mem_nil, or_false] at hc; rcases hc with rfl <;> first | assumption | rfl) rfl (by decide) (by decide) ?_
          intro cur2 hcur2
          have S38 := Lib.hid (S37.out.waste (.cells cur2 28))
          clear S37
          refine hK.out (Act.put _ (some 56) _) _ (fun h => (S38.out.cell _ _ _ (.head _) 9 v rfl)) ?_
          clear hK K
          try simp only [Act.put, List.setIfInBounds_toArray, List.set_cons_zero, List.set_cons_succ]
          refine anyT_step (i := 5) (oi := _) rfl (by kernel_rfl) (by rfl) (fun K hK => ?_)
          refine wp_app S38.out hok infoNode nodesU rfl (by decide) (by decide) _ _ rfl rfl _ 1 _ rfl cur2 (heap_alloc_new _ _) (flat [c35]) (by simp [flat, hszc35]) (news_at hcur2) (all_one honec35) (by decide) (by first | omega | (simp only [List.length_append, List.length_cons, List.length_nil]; omega)) (fun g39 cap40 w41 cur42 S43 hok44 => ?_)
          replace S43 := Lib.hid S43
          refine hK.out (Act.put _ (some 57) _) _ (fun h => (S43.out.cell _ _ _ (.head _) 9 v rfl)) ?_
          clear hK K
          try simp only [Act.put, List.setIfInBounds_toArray, List.set_cons_zero, List.set_cons_succ]
          refine anyT_take (i := 6) (oi := _) (v := (.pointer (some ⟨w15.heap.size + 1, 9, none⟩))) (d := (some 58)) rfl rfl (by kernel_rfl) (by kernel_rfl) rfl (by kernel_rfl) (by kernel_rfl) (fun _ _ _ h => h) (Or.inl ⟨by rfl, fun w hS => by go_simp⟩) (S43.out.cell _ _ _ (.head _) 9 v rfl) ?_
          try simp only [Act.put, List.setIfInBounds_toArray, List.set_cons_zero, List.set_cons_succ]
          refine anyT_step (i := 7) (oi := _) rfl (by kernel_rfl) (by rfl) (fun K hK => ?_)
          refine wp_st_cell _ _ _ rfl (by kernel_rfl) (w15.heap.size + 1) 9 (.slice (some ⟨g39, 0, none⟩) (l.length + 1) cap40) rfl rfl rfl _ _ (S43.out.blk _ _ _ (.head _)) (by simp [ndCells]) ?_
          refine hK.out (Act.put _ none _) _ (fun h => by cases h) ?_
          clear hK K
          try simp only [Act.put, List.setIfInBounds_toArray, List.set_cons_zero, List.set_cons_succ]
          have S45 : Hid (St p (.slice (some ⟨g0, 0, none⟩) ws.length cp0) ws en W (· = p) (W.heap.size ≤ ·) ([(w15.heap.size + 1, 28, (ndCells 3 (placeZ ws en i) ⟨#[]⟩ 0 ⟨#[]⟩ ⟨#[]⟩ (.slice none 0 0) (.slice (some ⟨g39, 0, none⟩) (l.length + 1) cap40))), (W.heap.size, 28, (ndCells 0 0 ⟨#[]⟩ 0 ⟨#[]⟩ ⟨#[]⟩ (.slice none 0 0) (.slice none 0 0)))] ++ own 28 (.slice (some ⟨g39, 0, none⟩) (l.length + 1) cap40) cur42) ((c35, n31) :: vs.zip l) i32 o1 _) := Lib.hid (S43.out.setCell 0 _ _ _ rfl 9 (.slice (some ⟨g39, 0, none⟩) (l.length + 1) cap40) (ndCells 3 (placeZ ws en i) ⟨#[]⟩ 0 ⟨#[]⟩ ⟨#[]⟩ (.slice none 0 0) (.slice (some ⟨g39, 0, none⟩) (l.length + 1) cap40)) rfl)
          clear S43
          refine anyT_done (by kernel_rfl) ?_ _
          generalize w41.setCell ⟨w15.heap.size + 1, 9, none⟩ (.slice (some ⟨g39, 0, none⟩) (l.length + 1) cap40) = w46 at S45 ⊢
          have S47 := Lib.hid (S45.out.snoc hvl)
          clear S45
          go_wp2_with fail
          refine (place_calls _ S47.out.row).mono ?_
          rintro _ w48 ⟨rfl, hd⟩
          have S49 := Lib.hid (S47.out.drawn hd)
          clear S47
          clear hd
          go_wp2_with fail
          refine (kind_calls _ S49.out.row).mono ?_
          rintro _ w50 ⟨rfl, hd⟩
          have S51 := Lib.hid (S49.out.drawn hd)
          clear S49
          clear hd
          have hok2 : OkR W.heap.size 10 (.slice (some ⟨g39, 0, none⟩) (l.length + 1) cap40) cur42 (l.length + 1) (flat (vs ++ [c35])) := by rw [flat_append]; exact hok44
          by_cases h8 : kindZ ws i32 = 8
          ·
            rw [if_pos h8] at hr
            rw [h8]
            go_wp2_with fail
            refine region_T (fun w => w.cell? ⟨w15.heap.size + 1, 9, none⟩ = some (.slice (some ⟨g39, 0, none⟩) (l.length + 1) cap40)) (fun j => j == 11) 12 rfl (by kernel_rfl) ?_
            have S52 := Lib.hid (S51.out.drawn (w' := World.drew _) ⟨1, rfl⟩)
            refine anyT_take (i := 0) (oi := _) (v := (.pointer (some ⟨w15.heap.size + 1, 9, none⟩))) (d := (some 68)) rfl rfl (by kernel_rfl) (by kernel_rfl) rfl (by kernel_rfl) (by kernel_rfl) (fun _ _ _ h => h) (Or.inl ⟨by rfl, fun w hS => by go_simp⟩) (S52.out.cell _ _ _ (.head _) 9 (.slice (some ⟨g39, 0, none⟩) (l.length + 1) cap40) rfl) ?_
            try simp only [Act.put, List.setIfInBounds_toArray, List.set_cons_zero, List.set_cons_succ]
            refine anyT_take (i := 1) (oi := _) (v := (.slice (some ⟨g39, 0, none⟩) (l.length + 1) cap40)) (d := (some 69)) rfl rfl (by kernel_rfl) (by kernel_rfl) rfl (by kernel_rfl) (by kernel_rfl) (fun _ _ _ h => h) (yl_cell 26 _ rfl (by rfl) (by kernel_rfl) _ _ rfl _ (fun _ h => h)) (S52.out.cell _ _ _ (.head _) 9 (.slice (some ⟨g39, 0, none⟩) (l.length + 1) cap40) rfl) ?_
            try simp only [Act.put, List.setIfInBounds_toArray, List.set_cons_zero, List.set_cons_succ]
            refine anyT_take (i := 2) (oi := _) (v := (.pointer (some ⟨p, 0, none⟩))) (d := (some 70)) rfl rfl (by kernel_rfl) (by kernel_rfl) rfl (by kernel_rfl) (by kernel_rfl) (fun _ _ _ h => h) (Or.inl ⟨by rfl, fun _ _ => rfl⟩) (S52.out.cell _ _ _ (.head _) 9 (.slice (some ⟨g39, 0, none⟩) (l.length + 1) cap40) rfl) ?_
            try simp only [Act.put, List.setIfInBounds_toArray, List.set_cons_zero, List.set_cons_succ]
            refine anyT_take (i := 3) (oi := _) (v := (.pointer (some ⟨p, 0, none⟩))) (d := (some 71)) rfl rfl (by kernel_rfl) (by kernel_rfl) rfl (by kernel_rfl) (by kernel_rfl) (fun _ _ _ h => h) (Or.inl ⟨by rfl, fun w hS => by go_simp⟩) (S52.out.cell _ _ _ (.head _) 9 (.slice (some ⟨g39, 0, none⟩) (l.length + 1) cap40) rfl) ?_
            try simp only [Act.put, List.setIfInBounds_toArray, List.set_cons_zero, List.set_cons_succ]
            refine anyT_take (i := 4) (oi := _) (v := (.pointer (some ⟨p, 0, none⟩))) (d := (some 72)) rfl rfl (by kernel_rfl) (by kernel_rfl) rfl (by kernel_rfl) (by kernel_rfl) (fun _ _ _ h => h) (Or.inl ⟨by rfl, fun w hS => by go_simp⟩) (S52.out.cell _ _ _ (.head _) 9 (.slice (some ⟨g39, 0, none⟩) (l.length + 1) cap40) rfl) ?_
            try simp only [Act.put, List.setIfInBounds_toArray, List.set_cons_zero, List.set_cons_succ]
            refine anyT_take (i := 6) (oi := _) (v := (.int .i64 (placeZ ws en i32))) (d := (some 74)) rfl rfl (by kernel_rfl) (by kernel_rfl) rfl (by kernel_rfl) (by kernel_rfl) (fun _ _ _ h => h) (Or.inl ⟨by rfl, fun _ _ => rfl⟩) (S52.out.cell _ _ _ (.head _) 9 (.slice (some ⟨g39, 0, none⟩) (l.length + 1) cap40) rfl) ?_
            try simp only [Act.put, List.setIfInBounds_toArray, List.set_cons_zero, List.set_cons_succ]
            refine anyT_step (i := 5) (oi := _) rfl (by kernel_rfl) (by rfl) (fun K hK => ?_)
            go_simp
            refine (name_calls _ 8 (by decide) _ (nameZ_yes h8) S52.out.row).mono ?_
            rintro _ w53 ⟨⟨_, rfl, rfl⟩, hrw, hk⟩
            have S54 := Lib.hid (S52.out.call hrw hk)
            clear S52
            clear hrw hk
            refine hK.out _ _ (fun h => (S54.out.cell _ _ _ (.head _) 9 (.slice (some ⟨g39, 0, none⟩) (l.length + 1) cap40) rfl)) ?_
            clear hK K
            try simp only [Act.put, List.setIfInBounds_toArray, List.set_cons_zero, List.set_cons_succ]
            refine anyT_step (i := 7) (oi := _) rfl (by kernel_rfl) (by rfl) (fun K hK => ?_)
            go_simp
            refine (txt_calls _ (saidZ ws i32) (placeZ ws en i32) S54.out.row).mono ?_
            rintro _ w55 ⟨rfl, hrw, hk⟩
            have S56 := Lib.hid (S54.out.call hrw hk)
            clear S54
            clear hrw hk
            have S57 := Lib.hid (S56.out.plain 2 (placeZ ws en i32) ⟨#[]⟩ 4 ⟨#[]⟩ (saidZ ws i32))
            clear S56
            refine hK.out _ _ (fun h => (S57.out.cell _ _ _ (.head _) 9 (.slice (some ⟨g39, 0, none⟩) (l.length + 1) cap40) rfl)) ?_
            clear hK K
            try simp only [Act.put, List.setIfInBounds_toArray, List.set_cons_zero, List.set_cons_succ]
            refine anyT_step (i := 8) (oi := _) rfl (by kernel_rfl) (by rfl) (fun K hK => ?_)
            refine wp_bs_nodes 1 _ rfl [(ndCells 2 (placeZ ws en i32) ⟨#[]⟩ 4 ⟨#[]⟩ (saidZ ws i32) (.slice none 0 0) (.slice none 0 0))] rfl (by intro c hc; simp only [List.mem_cons, List.not_mem_nil, or_false] at hc; rcases hc with rfl <;> first | assumption | rfl) rfl (by decide) (by decide) ?_
            intro cur2 hcur2
            have S58 := Lib.hid (S57.out.waste (.cells cur2 28))
            clear S57
            refine hK.out (Act.put _ (some 76) _) _ (fun h => (S58.out.cell _ _ _ (.head _) 9 (.slice (some ⟨g39, 0, none⟩) (l.length + 1) cap40) rfl)) ?_
            clear hK K
            try simp only [Act.put, List.setIfInBounds_toArray, List.set_cons_zero, List.set_cons_succ]
            refine anyT_step (i := 9) (oi := _) rfl (by kernel_rfl) (by rfl) (fun K hK => ?_)
            refine wp_app S58.out hok2 infoNode nodesU rfl (by decide) (by decide) _ _ rfl rfl _ 1 _ rfl cur2 (heap_alloc_new _ _) (flat [(ndCells 2 (placeZ ws en i32) ⟨#[]⟩ 4 ⟨#[]⟩ (saidZ ws i32) (.slice none 0 0) (.slice none 0 0))]) (by simp [flat, ndCells]) (news_at hcur2) (all_one (by simp [ndCells, Value.oneCell'])) (by decide) (by first | omega | (simp only [List.length_append, List.length_cons, List.length_nil]; omega)) (fun g59 cap60 w61 cur62 S63 hok64 => ?_)
            replace S63 := Lib.hid S63
            refine hK.out (Act.put _ (some 77) _) _ (fun h => (S63.out.cell _ _ _ (.head _) 9 (.slice (some ⟨g39, 0, none⟩) (l.length + 1) cap40) rfl)) ?_
            clear hK K
            try simp only [Act.put, List.setIfInBounds_toArray, List.set_cons_zero, List.set_cons_succ]
            refine anyT_take (i := 10) (oi := _) (v := (.pointer (some ⟨w15.heap.size + 1, 9, none⟩))) (d := (some 78)) rfl rfl (by kernel_rfl) (by kernel_rfl) rfl (by kernel_rfl) (by kernel_rfl) (fun _ _ _ h => h) (Or.inl ⟨by rfl, fun w hS => by go_simp⟩) (S63.out.cell _ _ _ (.head _) 9 (.slice (some ⟨g39, 0, none⟩) (l.length + 1) cap40) rfl) ?_
            try simp only [Act.put, List.setIfInBounds_toArray, List.set_cons_zero, List.set_cons_succ]
            refine anyT_step (i := 11) (oi := _) rfl (by kernel_rfl) (by rfl) (fun K hK => ?_)
            refine wp_st_cell _ _ _ rfl (by kernel_rfl) (w15.heap.size + 1) 9 (.slice (some ⟨g59, 0, none⟩) ((l.length + 1) + 1) cap60) rfl rfl rfl _ _ (S63.out.blk _ _ _ (.head _)) (by simp [ndCells]) ?_
            refine hK.out (Act.put _ none _) _ (fun h => by cases h) ?_
            clear hK K
            try simp only [Act.put, List.setIfInBounds_toArray, List.set_cons_zero, List.set_cons_succ]
            have S65 : Hid (St p (.slice (some ⟨g0, 0, none⟩) ws.length cp0) ws en W (· = p) (W.heap.size ≤ ·) ([(w15.heap.size + 1, 28, (ndCells 3 (placeZ ws en i) ⟨#[]⟩ 0 ⟨#[]⟩ ⟨#[]⟩ (.slice none 0 0) (.slice (some ⟨g59, 0, none⟩) ((l.length + 1) + 1) cap60))), (W.heap.size, 28, (ndCells 0 0 ⟨#[]⟩ 0 ⟨#[]⟩ ⟨#[]⟩ (.slice none 0 0) (.slice none 0 0)))] ++ own 28 (.slice (some ⟨g59, 0, none⟩) ((l.length + 1) + 1) cap60) cur62) (((ndCells 2 (placeZ ws en i32) ⟨#[]⟩ 4 ⟨#[]⟩ (saidZ ws i32) (.slice none 0 0) (.slice none 0 0)), (SN.mk 2 (placeZ ws en i32) ⟨#[]⟩ 4 ⟨#[]⟩ (saidZ ws i32) [] [])) :: (vs ++ [c35]).zip (l ++ [n31])) (i32 + 1) o1 _) := Lib.hid (S63.out.setCell 0 _ _ _ rfl 9 (.slice (some ⟨g59, 0, none⟩) ((l.length + 1) + 1) cap60) (ndCells 3 (placeZ ws en i) ⟨#[]⟩ 0 ⟨#[]⟩ ⟨#[]⟩ (.slice none 0 0) (.slice (some ⟨g59, 0, none⟩) ((l.length + 1) + 1) cap60)) rfl)
            clear S63
            refine anyT_done (by kernel_rfl) ?_ _
            generalize w61.setCell ⟨w15.heap.size + 1, 9, none⟩ (.slice (some ⟨g59, 0, none⟩) ((l.length + 1) + 1) cap60) = w66 at S65 ⊢
            have S67 := Lib.hid (S65.out.snoc (by simp [hvl]))
            clear S65
            go_wp2_with fail
            go_roundg f
            case rel => exact ⟨f, _, _, l ++ [n31, txt (saidZ ws i32) (placeZ ws en i32)], vs ++ [c35, (ndCells 2 (placeZ ws en i32) ⟨#[]⟩ 4 ⟨#[]⟩ (saidZ ws i32) (.slice none 0 0) (.slice none 0 0))], (.slice (some ⟨g59, 0, none⟩) ((l.length + 1) + 1) cap60), cur62, rfl, Lib.hid hr, Lib.hid ⟨by simp [hvl], by omega, by simp; omega, (by
              have e1 : (l ++ [n31, txt (saidZ ws i32) (placeZ ws en i32)]).length = l.length + 1 + 1 := by simp
              have e2 : flat (vs ++ [c35, (ndCells 2 (placeZ ws en i32) ⟨#[]⟩ 4 ⟨#[]⟩ (saidZ ws i32) (.slice none 0 0) (.slice none 0 0))]) = flat (vs ++ [c35]) ++ flat [(ndCells 2 (placeZ ws en i32) ⟨#[]⟩ 4 ⟨#[]⟩ (saidZ ws i32) (.slice none 0 0) (.slice none 0 0))] := by simp [flat]
              rw [e1, e2]
              exact hok64)⟩, (by
              have e := S67
              rw [List.append_assoc, List.append_assoc] at e
              exact e)⟩
            case measure => omega
          ·
            rw [if_neg h8] at hr
            have h8' : ¬ kindZ ws i32 = 8 := h8
            go_wp2_with fail
            refine region_T (fun w => w.cell? ⟨w15.heap.size + 1, 9, none⟩ = some (.slice (some ⟨g39, 0, none⟩) (l.length + 1) cap40)) (fun j => j == 11) 12 rfl (by kernel_rfl) ?_
            have S68 := Lib.hid (S51.out.drawn (w' := World.drew _) ⟨1, rfl⟩)
            refine anyT_take (i := 0) (oi := _) (v := (.pointer (some ⟨w15.heap.size + 1, 9, none⟩))) (d := (some 79)) rfl rfl (by kernel_rfl) (by kernel_rfl) rfl (by kernel_rfl) (by kernel_rfl) (fun _ _ _ h => h) (Or.inl ⟨by rfl, fun w hS => by go_simp⟩) (S68.out.cell _ _ _ (.head _) 9 (.slice (some ⟨g39, 0, none⟩) (l.length + 1) cap40) rfl) ?_
            try simp only [Act.put, List.setIfInBounds_toArray, List.set_cons_zero, List.set_cons_succ]
            refine anyT_take (i := 1) (oi := _) (v := (.slice (some ⟨g39, 0, none⟩) (l.length + 1) cap40)) (d := (some 80)) rfl rfl (by kernel_rfl) (by kernel_rfl) rfl (by kernel_rfl) (by kernel_rfl) (fun _ _ _ h => h) (yl_cell 26 _ rfl (by rfl) (by kernel_rfl) _ _ rfl _ (fun _ h => h)) (S68.out.cell _ _ _ (.head _) 9 (.slice (some ⟨g39, 0, none⟩) (l.length + 1) cap40) rfl) ?_
            try simp only [Act.put, List.setIfInBounds_toArray, List.set_cons_zero, List.set_cons_succ]
            refine anyT_take (i := 2) (oi := _) (v := (.pointer (some ⟨p, 0, none⟩))) (d := (some 81)) rfl rfl (by kernel_rfl) (by kernel_rfl) rfl (by kernel_rfl) (by kernel_rfl) (fun _ _ _ h => h) (Or.inl ⟨by rfl, fun _ _ => rfl⟩) (S68.out.cell _ _ _ (.head _) 9 (.slice (some ⟨g39, 0, none⟩) (l.length + 1) cap40) rfl) ?_
            try simp only [Act.put, List.setIfInBounds_toArray, List.set_cons_zero, List.set_cons_succ]
            refine anyT_take (i := 3) (oi := _) (v := (.pointer (some ⟨p, 0, none⟩))) (d := (some 82)) rfl rfl (by kernel_rfl) (by kernel_rfl) rfl (by kernel_rfl) (by kernel_rfl) (fun _ _ _ h => h) (Or.inl ⟨by rfl, fun w hS => by go_simp⟩) (S68.out.cell _ _ _ (.head _) 9 (.slice (some ⟨g39, 0, none⟩) (l.length + 1) cap40) rfl) ?_
            try simp only [Act.put, List.setIfInBounds_toArray, List.set_cons_zero, List.set_cons_succ]
            refine anyT_take (i := 4) (oi := _) (v := (.pointer (some ⟨p, 0, none⟩))) (d := (some 83)) rfl rfl (by kernel_rfl) (by kernel_rfl) rfl (by kernel_rfl) (by kernel_rfl) (fun _ _ _ h => h) (Or.inl ⟨by rfl, fun w hS => by go_simp⟩) (S68.out.cell _ _ _ (.head _) 9 (.slice (some ⟨g39, 0, none⟩) (l.length + 1) cap40) rfl) ?_
            try simp only [Act.put, List.setIfInBounds_toArray, List.set_cons_zero, List.set_cons_succ]
            refine anyT_take (i := 6) (oi := _) (v := (.int .i64 (placeZ ws en i32))) (d := (some 85)) rfl rfl (by kernel_rfl) (by kernel_rfl) rfl (by kernel_rfl) (by kernel_rfl) (fun _ _ _ h => h) (Or.inl ⟨by rfl, fun _ _ => rfl⟩) (S68.out.cell _ _ _ (.head _) 9 (.slice (some ⟨g39, 0, none⟩) (l.length + 1) cap40) rfl) ?_
            try simp only [Act.put, List.setIfInBounds_toArray, List.set_cons_zero, List.set_cons_succ]
            refine anyT_step (i := 5) (oi := _) rfl (by kernel_rfl) (by rfl) (fun K hK => ?_)
            go_simp
            rcases PR.cases hr with ⟨x70, hz, rfl⟩ | ⟨u71, i72, o73, hz, hr'⟩
            · refine (name_calls _ 9 (by decide) _ hz S68.out.row).mono ?_
              rintro _ _ ⟨rfl, hk⟩
              exact ⟨rfl, S68.out.dies hk⟩
            replace hr := hr'
            clear hr'
            refine (name_calls _ 9 (by decide) _ hz S68.out.row).mono ?_
            rintro _ w69 ⟨⟨_, rfl, rfl⟩, hrw, hk⟩
            obtain ⟨rfl, rfl, rfl, hkd⟩ := nameZ_ok hz
            have S74 := Lib.hid (S68.out.call hrw hk)
            clear S68
            clear hrw hk hz
            refine hK.out _ _ (fun h => (S74.out.cell _ _ _ (.head _) 9 (.slice (some ⟨g39, 0, none⟩) (l.length + 1) cap40) rfl)) ?_
            clear hK K
            try simp only [Act.put, List.setIfInBounds_toArray, List.set_cons_zero, List.set_cons_succ]
            refine anyT_step (i := 7) (oi := _) rfl (by kernel_rfl) (by rfl) (fun K hK => ?_)
            go_simp
            refine (txt_calls _ (saidZ ws i32) (placeZ ws en i32) S74.out.row).mono ?_
            rintro _ w75 ⟨rfl, hrw, hk⟩
            have S76 := Lib.hid (S74.out.call hrw hk)
            clear S74
            clear hrw hk
            have S77 := Lib.hid (S76.out.plain 2 (placeZ ws en i32) ⟨#[]⟩ 4 ⟨#[]⟩ (saidZ ws i32))
            clear S76
            refine hK.out _ _ (fun h => (S77.out.cell _ _ _ (.head _) 9 (.slice (some ⟨g39, 0, none⟩) (l.length + 1) cap40) rfl)) ?_
            clear hK K
            try simp only [Act.put, List.setIfInBounds_toArray, List.set_cons_zero, List.set_cons_succ]
            refine anyT_step (i := 8) (oi := _) rfl (by kernel_rfl) (by rfl) (fun K hK => ?_)
            refine wp_bs_nodes 1 _ rfl [(ndCells 2 (placeZ ws en i32) ⟨#[]⟩ 4 ⟨#[]⟩ (saidZ ws i32) (.slice none 0 0) (.slice none 0 0))] rfl (by intro c hc; simp only [List.mem_cons, List.not_mem_nil, or_false] at hc; rcases hc with rfl <;> first | assumption | rfl) rfl (by decide) (by decide) ?_
            intro cur2 hcur2
            have S78 := Lib.hid (S77.out.waste (.cells cur2 28))
            clear S77
            refine hK.out (Act.put _ (some 87) _) _ (fun h => (S78.out.cell _ _ _ (.head _) 9 (.slice (some ⟨g39, 0, none⟩) (l.length + 1) cap40) rfl)) ?_
            clear hK K
            try simp only [Act.put, List.setIfInBounds_toArray, List.set_cons_zero, List.set_cons_succ]
            refine anyT_step (i := 9) (oi := _) rfl (by kernel_rfl) (by rfl) (fun K hK => ?_)
            refine wp_app S78.out hok2 infoNode nodesU rfl (by decide) (by decide) _ _ rfl rfl _ 1 _ rfl cur2 (heap_alloc_new _ _) (flat [(ndCells 2 (placeZ ws en i32) ⟨#[]⟩ 4 ⟨#[]⟩ (saidZ ws i32) (.slice none 0 0) (.slice none 0 0))]) (by simp [flat, ndCells]) (news_at hcur2) (all_one (by simp [ndCells, Value.oneCell'])) (by decide) (by first | omega | (simp only [List.length_append, List.length_cons, List.length_nil]; omega)) (fun g79 cap80 w81 cur82 S83 hok84 => ?_)
            replace S83 := Lib.hid S83
            refine hK.out (Act.put _ (some 88) _) _ (fun h => (S83.out.cell _ _ _ (.head _) 9 (.slice (some ⟨g39, 0, none⟩) (l.length + 1) cap40) rfl)) ?_
            clear hK K
            try simp only [Act.put, List.setIfInBounds_toArray, List.set_cons_zero, List.set_cons_succ]
            refine anyT_take (i := 10) (oi := _) (v := (.pointer (some ⟨w15.heap.size + 1, 9, none⟩))) (d := (some 89)) rfl rfl (by kernel_rfl) (by kernel_rfl) rfl (by kernel_rfl) (by kernel_rfl) (fun _ _ _ h => h) (Or.inl ⟨by rfl, fun w hS => by go_simp⟩) (S83.out.cell _ _ _ (.head _) 9 (.slice (some ⟨g39, 0, none⟩) (l.length + 1) cap40) rfl) ?_
            try simp only [Act.put, List.setIfInBounds_toArray, List.set_cons_zero, List.set_cons_succ]
            refine anyT_step (i := 11) (oi := _) rfl (by kernel_rfl) (by rfl) (fun K hK => ?_)
            refine wp_st_cell _ _ _ rfl (by kernel_rfl) (w15.heap.size + 1) 9 (.slice (some ⟨g79, 0, none⟩) ((l.length + 1) + 1) cap80) rfl rfl rfl _ _ (S83.out.blk _ _ _ (.head _)) (by simp [ndCells]) ?_
            refine hK.out (Act.put _ none _) _ (fun h => by cases h) ?_
            clear hK K
            try simp only [Act.put, List.setIfInBounds_toArray, List.set_cons_zero, List.set_cons_succ]
            have S85 : Hid (St p (.slice (some ⟨g0, 0, none⟩) ws.length cp0) ws en W (· = p) (W.heap.size ≤ ·) ([(w15.heap.size + 1, 28, (ndCells 3 (placeZ ws en i) ⟨#[]⟩ 0 ⟨#[]⟩ ⟨#[]⟩ (.slice none 0 0) (.slice (some ⟨g79, 0, none⟩) ((l.length + 1) + 1) cap80))), (W.heap.size, 28, (ndCells 0 0 ⟨#[]⟩ 0 ⟨#[]⟩ ⟨#[]⟩ (.slice none 0 0) (.slice none 0 0)))] ++ own 28 (.slice (some ⟨g79, 0, none⟩) ((l.length + 1) + 1) cap80) cur82) (((ndCells 2 (placeZ ws en i32) ⟨#[]⟩ 4 ⟨#[]⟩ (saidZ ws i32) (.slice none 0 0) (.slice none 0 0)), (SN.mk 2 (placeZ ws en i32) ⟨#[]⟩ 4 ⟨#[]⟩ (saidZ ws i32) [] [])) :: (vs ++ [c35]).zip (l ++ [n31])) (i32 + 1) o1 _) := Lib.hid (S83.out.setCell 0 _ _ _ rfl 9 (.slice (some ⟨g79, 0, none⟩) ((l.length + 1) + 1) cap80) (ndCells 3 (placeZ ws en i) ⟨#[]⟩ 0 ⟨#[]⟩ ⟨#[]⟩ (.slice none 0 0) (.slice (some ⟨g79, 0, none⟩) ((l.length + 1) + 1) cap80)) rfl)
            clear S83
            refine anyT_done (by kernel_rfl) ?_ _
            generalize w81.setCell ⟨w15.heap.size + 1, 9, none⟩ (.slice (some ⟨g79, 0, none⟩) ((l.length + 1) + 1) cap80) = w86 at S85 ⊢
            have S87 := Lib.hid (S85.out.snoc (by simp [hvl]))
            clear S85
            cases hr
            have c3_ := S87.out.row.c3
            have f3_ := S87.out.row.fr 3
            have hw3_ := S87.out.wrapD
            have S88 := Lib.hid (S87.out.down ho1)
            clear S87
            have e1 : (l ++ [n31, txt (saidZ ws i32) (placeZ ws en i32)]).length = l.length + 1 + 1 := by simp
            have e2 : flat (vs ++ [c35, (ndCells 2 (placeZ ws en i32) ⟨#[]⟩ 4 ⟨#[]⟩ (saidZ ws i32) (.slice none 0 0) (.slice none 0 0))]) = flat (vs ++ [c35]) ++ flat [(ndCells 2 (placeZ ws en i32) ⟨#[]⟩ 4 ⟨#[]⟩ (saidZ ws i32) (.slice none 0 0) (.slice none 0 0))] := by simp [flat]
            have hokz : OkR W.heap.size 10 (.slice (some ⟨g79, 0, none⟩) ((l.length + 1) + 1) cap80) cur82 (l ++ [n31, txt (saidZ ws i32) (placeZ ws en i32)]).length (flat (vs ++ [c35, (ndCells 2 (placeZ ws en i32) ⟨#[]⟩ 4 ⟨#[]⟩ (saidZ ws i32) (.slice none 0 0) (.slice none 0 0))])) := by rw [e1, e2]; exact hok84
            have S89 := Lib.hid (S88.out.shut (vs ++ [c35, (ndCells 2 (placeZ ws en i32) ⟨#[]⟩ 4 ⟨#[]⟩ (saidZ ws i32) (.slice none 0 0) (.slice none 0 0))]) (l ++ [n31, txt (saidZ ws i32) (placeZ ws en i32)]) (by simp [hvl]) hokz (fun z hz => (by have e := hz; rw [List.append_assoc, List.append_assoc]; exact e)) 3 (placeZ ws en i) ⟨#[]⟩)
            clear S88
            clear hokz e1 e2
            go_wp2_with (first
              | (refine ld_node rfl _ rfl _ rfl _ (S89.out.blk _ _ _ (.head _)) rfl ?_)
              | (refine st_node rfl _ _ rfl _ _ rfl rfl _ (S89.out.blk _ _ _ (.tail _ (.head _))) rfl rfl (by first | (simp [ndCells, Value.oneCell']; done) | exact nd_one rfl hok.one | exact nd_one hok.one rfl) ?_))
            have S90 := Lib.hid (S89.out.setRow 1 _ _ _ (ndCells 3 (placeZ ws en i) ⟨#[]⟩ 0 ⟨#[]⟩ ⟨#[]⟩ (.slice none 0 0) (.slice (some ⟨g79, 0, none⟩) ((l.length + 1) + 1) cap80)) rfl)
            clear S89
            refine ret_node rfl _ _ rfl (S90.out.blk _ _ _ (.tail _ (.head _))) rfl rfl ?_
            first | exact S90.out.done | (have e := S90.out.done; simp only [Int.add_sub_cancel] at e; exact e) | (simp only [Int.add_sub_cancel]; exact S90.out.done)
      ·
        go_simp
        have S91 := Lib.hid (S17.out.allocAt (w15.heap.size) (by simp) 28 (ndCells 0 0 ⟨#[]⟩ 0 ⟨#[]⟩ ⟨#[]⟩ (.slice none 0 0) (.slice none 0 0)))
        refine hK.out _ _ (fun h => (S91.out.row.seen i hi)) ?_
        clear hK K
        try simp only [Act.put, List.setIfInBounds_toArray, List.set_cons_zero, List.set_cons_succ]
        refine anyT_step (i := 16) (oi := _) rfl (by kernel_rfl) (by rfl) (fun K hK => ?_)
        have hB : W.heap.size ≤ w15.heap.size + 1 := by first | exact S91.out.base | (have := S91.out.base; simp at this; omega)
        refine wp_bs_nodes 1 _ rfl [(ndCells 2 (placeZ ws en i) ⟨#[]⟩ 4 ⟨#[]⟩ (saidZ ws i) (.slice none 0 0) (.slice none 0 0))] rfl (by intro c hc; simp only [List.mem_cons, List.not_mem_nil, or_false] at hc; rcases hc with rfl <;> first | assumption | rfl) rfl (by decide) (by decide) ?_
        intro cur hcur
        have S92 := Lib.hid (S91.out.allocAt (w15.heap.size + 1) (by simp) 28 cur)
        clear S91
        refine hK.out (Act.put _ (some 46) _) _ (fun h => (S92.out.row.seen i hi)) ?_
        clear hK K
        try simp only [Act.put, List.setIfInBounds_toArray, List.set_cons_zero, List.set_cons_succ]
        refine anyT_take (i := 17) (oi := _) (v := (.agg (ndCells 3 (placeZ ws en i) ⟨#[]⟩ 0 ⟨#[]⟩ ⟨#[]⟩ (.slice none 0 0) (.slice (some ⟨w15.heap.size + 1, 0, none⟩) 1 1)))) (d := (some 47)) rfl rfl (by kernel_rfl) (by kernel_rfl) rfl (by kernel_rfl) (by kernel_rfl) (fun _ _ _ h => h) (Or.inl ⟨by rfl, fun w hS => (by first | (go_simp; done) | (go_simp; rfl))⟩) (S92.out.row.seen i hi) ?_
        try simp only [Act.put, List.setIfInBounds_toArray, List.set_cons_zero, List.set_cons_succ]
        refine anyT_step (i := 19) (oi := _) rfl (by kernel_rfl) (by rfl) (fun K hK => ?_)
        refine wp_st_node _ _ rfl _ _ rfl rfl _ (S92.out.blk _ _ _ (.tail _ (.head _))) rfl rfl (by first | (simp [ndCells, Value.oneCell']; done) | exact nd_one rfl hok.one | exact nd_one hok.one rfl) ?_
        refine hK.out (Act.put _ none _) _ (fun h => by cases h) ?_
        clear hK K
        try simp only [Act.put, List.setIfInBounds_toArray, List.set_cons_zero, List.set_cons_succ]
        have S93 := Lib.hid (S92.out.setRow 1 _ _ _ (ndCells 3 (placeZ ws en i) ⟨#[]⟩ 0 ⟨#[]⟩ ⟨#[]⟩ (.slice none 0 0) (.slice (some ⟨w15.heap.size + 1, 0, none⟩) 1 1)) rfl)
        clear S92
        refine anyT_done (by kernel_rfl) ?_ _
        have S94 := Lib.hid (S93.out.toOwn 1 1)
        clear S93
        go_wp2_with fail
        have holo95 := S94.out.row.olo
        rcases PR.cases hr with ⟨x97, hz, rfl⟩ | ⟨u98, i99, o100, hz, hr'⟩
        · refine (opens_calls _ hi _ hz S94.out.row).mono ?_
          rintro _ _ ⟨rfl, hk⟩
          exact ⟨rfl, S94.out.dies hk⟩
        replace hr := hr'
        clear hr'
        refine (opens_calls _ hi _ hz S94.out.row).mono ?_
        rintro _ w96 ⟨⟨_, rfl, rfl⟩, hrw, hk⟩
        obtain ⟨rfl, rfl⟩ := opensZ_ok hz
        have S101 := Lib.hid (S94.out.call hrw hk)
        clear S94
        clear hrw hk hz
        go_wp2_with fail
        have HR := Lib.hid hr
        clear hr
        go_loopg [] k (fun g wx => ∃ (f i1 : Nat) (o1 : Int) (l : List SN) (vs : List (Array Value)) (v : Value) (cur : Array Value), g = f ∧ Hid (joinZ ws en rc (placeZ ws en i) f l i1 o1 = some r) ∧ Hid (vs.length = l.length ∧ 1 ≤ o1 ∧ l.length + 2 * f ≤ 2 * k + 1 ∧ OkR W.heap.size 10 v cur l.length (flat vs)) ∧ Hid (St p (.slice (some ⟨g0, 0, none⟩) ws.length cp0) ws en W (· = p) (W.heap.size ≤ ·) ([(w15.heap.size, 28, (ndCells 3 (placeZ ws en i) ⟨#[]⟩ 0 ⟨#[]⟩ ⟨#[]⟩ (.slice none 0 0) v)), (W.heap.size, 28, (ndCells 0 0 ⟨#[]⟩ 0 ⟨#[]⟩ ⟨#[]⟩ (.slice none 0 0) (.slice none 0 0)))] ++ own 28 v cur) (vs.zip l) i1 o1 wx))
        case atStart => exact ⟨k, _, _, [txt (saidZ ws i) (placeZ ws en i)], [(ndCells 2 (placeZ ws en i) ⟨#[]⟩ 4 ⟨#[]⟩ (saidZ ws i) (.slice none 0 0) (.slice none 0 0))], (.slice (some ⟨w15.heap.size + 1, 0, none⟩) 1 1), cur, rfl, HR, ⟨rfl, by omega, by simp; omega, OkR.lit hB hcur rfl (by decide)⟩, S101⟩
        case round =>
          clear HR hcur S101
          obtain ⟨f, i1, o1, l, vs, v, cur, hg, HR, HF, S⟩ := hrel
          obtain ⟨hvl, ho1, hlk, hok⟩ := HF.out
          have hr := HR.out
          obtain ⟨f, rfl⟩ : ∃ m, f = m + 1 := ⟨f - 1, by have : f ≠ 0 := (by rintro rfl; cases hr); omega⟩
          rw [joinZ] at hr
          clear HR HF
          go_wp2_with fail
          refine region_T (fun w => w.cell? ⟨w15.heap.size, 9, none⟩ = some v) (fun j => j == 7) 8 rfl (by kernel_rfl) ?_
          have S102 := Lib.hid (S.out.drawn (w' := World.drew _) ⟨1, rfl⟩)
          clear S
          refine anyT_take (i := 0) (oi := _) (v := (.pointer (some ⟨w15.heap.size, 9, none⟩))) (d := (some 52)) rfl rfl (by kernel_rfl) (by kernel_rfl) rfl (by kernel_rfl) (by kernel_rfl) (fun _ _ _ h => h) (Or.inl ⟨by rfl, fun w hS => by go_simp⟩) (S102.out.cell _ _ _ (.head _) 9 v rfl) ?_
          try simp only [Act.put, List.setIfInBounds_toArray, List.set_cons_zero, List.set_cons_succ]
          refine anyT_take (i := 1) (oi := _) (v := v) (d := (some 53)) rfl rfl (by kernel_rfl) (by kernel_rfl) rfl (by kernel_rfl) (by kernel_rfl) (fun _ _ _ h => h) (yl_cell 26 _ rfl (by rfl) (by kernel_rfl) _ _ rfl _ (fun _ h => h)) (S102.out.cell _ _ _ (.head _) 9 v rfl) ?_
          try simp only [Act.put, List.setIfInBounds_toArray, List.set_cons_zero, List.set_cons_succ]
          refine anyT_take (i := 2) (oi := _) (v := (.pointer (some ⟨p, 0, none⟩))) (d := (some 54)) rfl rfl (by kernel_rfl) (by kernel_rfl) rfl (by kernel_rfl) (by kernel_rfl) (fun _ _ _ h => h) (Or.inl ⟨by rfl, fun _ _ => rfl⟩) (S102.out.cell _ _ _ (.head _) 9 v rfl) ?_
          try simp only [Act.put, List.setIfInBounds_toArray, List.set_cons_zero, List.set_cons_succ]
          refine anyT_step (i := 3) (oi := _) rfl (by kernel_rfl) (by rfl) (fun K hK => ?_)
          go_simp
          rcases PR.cases hr with ⟨x106, hz, rfl⟩ | ⟨n103, i104, o105, hz, hr'⟩
          · refine (RC.pipe _ _ _ _ hz S102.out.row).mono ?_
            rintro _ _ ⟨rfl, hk⟩
            exact ⟨rfl, S102.out.dies hk⟩
          replace hr := hr'
          clear hr'
          have ho := (RC.even _ _ _ _ _ _ hz).symm
          subst ho
          refine (RC.pipe _ _ _ _ hz S102.out.row).mono ?_
          rintro _ w108 ⟨⟨_, rfl, hn⟩, hrw, hk⟩
          obtain ⟨c107, rfl, S109⟩ := S102.out.made hrw hk hn
          replace S109 := Lib.hid S109
          have hszc107 := S109.out.fst.size
          have honec107 := S109.out.fst.one
          clear hrw hk hn
          clear S102
          clear hz
          refine hK.out _ _ (fun h => (S109.out.cell _ _ _ (.head _) 9 v rfl)) ?_
          clear hK K
          try simp only [Act.put, List.setIfInBounds_toArray, List.set_cons_zero, List.set_cons_succ]
          refine anyT_step (i := 4) (oi := _) rfl (by kernel_rfl) (by rfl) (fun K hK => ?_)
          refine wp_bs_nodes 1 _ rfl [c107] rfl (by intro c hc; simp only [List.mem_cons, List.not_mem_nil, or_false] at hc; rcases hc with rfl <;> first | assumption | rfl) rfl (by decide) (by decide) ?_
          intro cur2 hcur2
          have S110 := Lib.hid (S109.out.waste (.cells cur2 28))
          clear S109
          refine hK.out (Act.put _ (some 56) _) _ (fun h => (S110.out.cell _ _ _ (.head _) 9 v rfl)) ?_
          clear hK K
          try simp only [Act.put, List.setIfInBounds_toArray, List.set_cons_zero, List.set_cons_succ]
          refine anyT_step (i := 5) (oi := _) rfl (by kernel_rfl) (by rfl) (fun K hK => ?_)
          refine wp_app S110.out hok infoNode nodesU rfl (by decide) (by decide) _ _ rfl rfl _ 1 _ rfl cur2 (heap_alloc_new _ _) (flat [c107]) (by simp [flat, hszc107]) (news_at hcur2) (all_one honec107) (by decide) (by first | omega | (simp only [List.length_append, List.length_cons, List.length_nil]; omega)) (fun g111 cap112 w113 cur114 S115 hok116 => ?_)
          replace S115 := Lib.hid S115
          refine hK.out (Act.put _ (some 57) _) _ (fun h => (S115.out.cell _ _ _ (.head _) 9 v rfl)) ?_
          clear hK K
          try simp only [Act.put, List.setIfInBounds_toArray, List.set_cons_zero, List.set_cons_succ]
          refine anyT_take (i := 6) (oi := _) (v := (.pointer (some ⟨w15.heap.size, 9, none⟩))) (d := (some 58)) rfl rfl (by kernel_rfl) (by kernel_rfl) rfl (by kernel_rfl) (by kernel_rfl) (fun _ _ _ h => h) (Or.inl ⟨by rfl, fun w hS => by go_simp⟩) (S115.out.cell _ _ _ (.head _) 9 v rfl) ?_
          try simp only [Act.put, List.setIfInBounds_toArray, List.set_cons_zero, List.set_cons_succ]
          refine anyT_step (i := 7) (oi := _) rfl (by kernel_rfl) (by rfl) (fun K hK => ?_)
          refine wp_st_cell _ _ _ rfl (by kernel_rfl) (w15.heap.size) 9 (.slice (some ⟨g111, 0, none⟩) (l.length + 1) cap112) rfl rfl rfl _ _ (S115.out.blk _ _ _ (.head _)) (by simp [ndCells]) ?_
          refine hK.out (Act.put _ none _) _ (fun h => by cases h) ?_
          clear hK K
          try simp only [Act.put, List.setIfInBounds_toArray, List.set_cons_zero, List.set_cons_succ]
          have S117 : Hid (St p (.slice (some ⟨g0, 0, none⟩) ws.length cp0) ws en W (· = p) (W.heap.size ≤ ·) ([(w15.heap.size, 28, (ndCells 3 (placeZ ws en i) ⟨#[]⟩ 0 ⟨#[]⟩ ⟨#[]⟩ (.slice none 0 0) (.slice (some ⟨g111, 0, none⟩) (l.length + 1) cap112))), (W.heap.size, 28, (ndCells 0 0 ⟨#[]⟩ 0 ⟨#[]⟩ ⟨#[]⟩ (.slice none 0 0) (.slice none 0 0)))] ++ own 28 (.slice (some ⟨g111, 0, none⟩) (l.length + 1) cap112) cur114) ((c107, n103) :: vs.zip l) i104 o1 _) := Lib.hid (S115.out.setCell 0 _ _ _ rfl 9 (.slice (some ⟨g111, 0, none⟩) (l.length + 1) cap112) (ndCells 3 (placeZ ws en i) ⟨#[]⟩ 0 ⟨#[]⟩ ⟨#[]⟩ (.slice none 0 0) (.slice (some ⟨g111, 0, none⟩) (l.length + 1) cap112)) rfl)
          clear S115
          refine anyT_done (by kernel_rfl) ?_ _
          generalize w113.setCell ⟨w15.heap.size, 9, none⟩ (.slice (some ⟨g111, 0, none⟩) (l.length + 1) cap112) = w118 at S117 ⊢
          have S119 := Lib.hid (S117.out.snoc hvl)
          clear S117
          go_wp2_with fail
          refine (place_calls _ S119.out.row).mono ?_
          rintro _ w120 ⟨rfl, hd⟩
          have S121 := Lib.hid (S119.out.drawn hd)
          clear S119
          clear hd
          go_wp2_with fail
          refine (kind_calls _ S121.out.row).mono ?_
          rintro _ w122 ⟨rfl, hd⟩
          have S123 := Lib.hid (S121.out.drawn hd)
          clear S121
          clear hd
          have hok2 : OkR W.heap.size 10 (.slice (some ⟨g111, 0, none⟩) (l.length + 1) cap112) cur114 (l.length + 1) (flat (vs ++ [c107])) := by rw [flat_append]; exact hok116
          by_cases h8 : kindZ ws i104 = 8
          ·
            rw [if_pos h8] at hr
            rw [h8]
            go_wp2_with fail
            refine region_T (fun w => w.cell? ⟨w15.heap.size, 9, none⟩ = some (.slice (some ⟨g111, 0, none⟩) (l.length + 1) cap112)) (fun j => j == 11) 12 rfl (by kernel_rfl) ?_
            have S124 := Lib.hid (S123.out.drawn (w' := World.drew _) ⟨1, rfl⟩)
            refine anyT_take (i := 0) (oi := _) (v := (.pointer (some ⟨w15.heap.size, 9, none⟩))) (d := (some 68)) rfl rfl (by kernel_rfl) (by kernel_rfl) rfl (by kernel_rfl) (by kernel_rfl) (fun _ _ _ h => h) (Or.inl ⟨by rfl, fun w hS => by go_simp⟩) (S124.out.cell _ _ _ (.head _) 9 (.slice (some ⟨g111, 0, none⟩) (l.length + 1) cap112) rfl) ?_
            try simp only [Act.put, List.setIfInBounds_toArray, List.set_cons_zero, List.set_cons_succ]
            refine anyT_take (i := 1) (oi := _) (v := (.slice (some ⟨g111, 0, none⟩) (l.length + 1) cap112)) (d := (some 69)) rfl rfl (by kernel_rfl) (by kernel_rfl) rfl (by kernel_rfl) (by kernel_rfl) (fun _ _ _ h => h) (yl_cell 26 _ rfl (by rfl) (by kernel_rfl) _ _ rfl _ (fun _ h => h)) (S124.out.cell _ _ _ (.head _) 9 (.slice (some ⟨g111, 0, none⟩) (l.length + 1) cap112) rfl) ?_
            try simp only [Act.put, List.setIfInBounds_toArray, List.set_cons_zero, List.set_cons_succ]
            refine anyT_take (i := 2) (oi := _) (v := (.pointer (some ⟨p, 0, none⟩))) (d := (some 70)) rfl rfl (by kernel_rfl) (by kernel_rfl) rfl (by kernel_rfl) (by kernel_rfl) (fun _ _ _ h => h) (Or.inl ⟨by rfl, fun _ _ => rfl⟩) (S124.out.cell _ _ _ (.head _) 9 (.slice (some ⟨g111, 0, none⟩) (l.length + 1) cap112) rfl) ?_
            try simp only [Act.put, List.setIfInBounds_toArray, List.set_cons_zero, List.set_cons_succ]
            refine anyT_take (i := 3) (oi := _) (v := (.pointer (some ⟨p, 0, none⟩))) (d := (some 71)) rfl rfl (by kernel_rfl) (by kernel_rfl) rfl (by kernel_rfl) (by kernel_rfl) (fun _ _ _ h => h) (Or.inl ⟨by rfl, fun w hS => by go_simp⟩) (S124.out.cell _ _ _ (.head _) 9 (.slice (some ⟨g111, 0, none⟩) (l.length + 1) cap112) rfl) ?_
            try simp only [Act.put, List.setIfInBounds_toArray, List.set_cons_zero, List.set_cons_succ]
            refine anyT_take (i := 4) (oi := _) (v := (.pointer (some ⟨p, 0, none⟩))) (d := (some 72)) rfl rfl (by kernel_rfl) (by kernel_rfl) rfl (by kernel_rfl) (by kernel_rfl) (fun _ _ _ h => h) (Or.inl ⟨by rfl, fun w hS => by go_simp⟩) (S124.out.cell _ _ _ (.head _) 9 (.slice (some ⟨g111, 0, none⟩) (l.length + 1) cap112) rfl) ?_
            try simp only [Act.put, List.setIfInBounds_toArray, List.set_cons_zero, List.set_cons_succ]
            refine anyT_take (i := 6) (oi := _) (v := (.int .i64 (placeZ ws en i104))) (d := (some 74)) rfl rfl (by kernel_rfl) (by kernel_rfl) rfl (by kernel_rfl) (by kernel_rfl) (fun _ _ _ h => h) (Or.inl ⟨by rfl, fun _ _ => rfl⟩) (S124.out.cell _ _ _ (.head _) 9 (.slice (some ⟨g111, 0, none⟩) (l.length + 1) cap112) rfl) ?_
            try simp only [Act.put, List.setIfInBounds_toArray, List.set_cons_zero, List.set_cons_succ]
            refine anyT_step (i := 5) (oi := _) rfl (by kernel_rfl) (by rfl) (fun K hK => ?_)
            go_simp
            refine (name_calls _ 8 (by decide) _ (nameZ_yes h8) S124.out.row).mono ?_
            rintro _ w125 ⟨⟨_, rfl, rfl⟩, hrw, hk⟩
            have S126 := Lib.hid (S124.out.call hrw hk)
            clear S124
            clear hrw hk
            refine hK.out _ _ (fun h => (S126.out.cell _ _ _ (.head _) 9 (.slice (some ⟨g111, 0, none⟩) (l.length + 1) cap112) rfl)) ?_
            clear hK K
            try simp only [Act.put, List.setIfInBounds_toArray, List.set_cons_zero, List.set_cons_succ]
            refine anyT_step (i := 7) (oi := _) rfl (by kernel_rfl) (by rfl) (fun K hK => ?_)
            go_simp
            refine (txt_calls _ (saidZ ws i104) (placeZ ws en i104) S126.out.row).mono ?_
            rintro _ w127 ⟨rfl, hrw, hk⟩
            have S128 := Lib.hid (S126.out.call hrw hk)
            clear S126
            clear hrw hk
            have S129 := Lib.hid (S128.out.plain 2 (placeZ ws en i104) ⟨#[]⟩ 4 ⟨#[]⟩ (saidZ ws i104))
            clear S128
            refine hK.out _ _ (fun h => (S129.out.cell _ _ _ (.head _) 9 (.slice (some ⟨g111, 0, none⟩) (l.length + 1) cap112) rfl)) ?_
            clear hK K
            try simp only [Act.put, List.setIfInBounds_toArray, List.set_cons_zero, List.set_cons_succ]
            refine anyT_step (i := 8) (oi := _) rfl (by kernel_rfl) (by rfl) (fun K hK => ?_)
            refine wp_bs_nodes 1 _ rfl [(ndCells 2 (placeZ ws en i104) ⟨#[]⟩ 4 ⟨#[]⟩ (saidZ ws i104) (.slice none 0 0) (.slice none 0 0))] rfl (by intro c hc; simp only [List.mem_cons, List.not_mem_nil, or_false] at hc; rcases hc with rfl <;> first | assumption | rfl) rfl (by decide) (by decide) ?_
            intro cur2 hcur2
            have S130 := Lib.hid (S129.out.waste (.cells cur2 28))
            clear S129
            refine hK.out (Act.put _ (some 76) _) _ (fun h => (S130.out.cell _ _ _ (.head _) 9 (.slice (some ⟨g111, 0, none⟩) (l.length + 1) cap112) rfl)) ?_
            clear hK K
            try simp only [Act.put, List.setIfInBounds_toArray, List.set_cons_zero, List.set_cons_succ]
            refine anyT_step (i := 9) (oi := _) rfl (by kernel_rfl) (by rfl) (fun K hK => ?_)
            refine wp_app S130.out hok2 infoNode nodesU rfl (by decide) (by decide) _ _ rfl rfl _ 1 _ rfl cur2 (heap_alloc_new _ _) (flat [(ndCells 2 (placeZ ws en i104) ⟨#[]⟩ 4 ⟨#[]⟩ (saidZ ws i104) (.slice none 0 0) (.slice none 0 0))]) (by simp [flat, ndCells]) (news_at hcur2) (all_one (by simp [ndCells, Value.oneCell'])) (by decide) (by first | omega | (simp only [List.length_append, List.length_cons, List.length_nil]; omega)) (fun g131 cap132 w133 cur134 S135 hok136 => ?_)
            replace S135 := Lib.hid S135
            refine hK.out (Act.put _ (some 77) _) _ (fun h => (S135.out.cell _ _ _ (.head _) 9 (.slice (some ⟨g111, 0, none⟩) (l.length + 1) cap112) rfl)) ?_
            clear hK K
            try simp only [Act.put, List.setIfInBounds_toArray, List.set_cons_zero, List.set_cons_succ]
            refine anyT_take (i := 10) (oi := _) (v := (.pointer (some ⟨w15.heap.size, 9, none⟩))) (d := (some 78)) rfl rfl (by kernel_rfl) (by kernel_rfl) rfl (by kernel_rfl) (by kernel_rfl) (fun _ _ _ h => h) (Or.inl ⟨by rfl, fun w hS => by go_simp⟩) (S135.out.cell _ _ _ (.head _) 9 (.slice (some ⟨g111, 0, none⟩) (l.length + 1) cap112) rfl) ?_
            try simp only [Act.put, List.setIfInBounds_toArray, List.set_cons_zero, List.set_cons_succ]
            refine anyT_step (i := 11) (oi := _) rfl (by kernel_rfl) (by rfl) (fun K hK => ?_)
            refine wp_st_cell _ _ _ rfl (by kernel_rfl) (w15.heap.size) 9 (.slice (some ⟨g131, 0, none⟩) ((l.length + 1) + 1) cap132) rfl rfl rfl _ _ (S135.out.blk _ _ _ (.head _)) (by simp [ndCells]) ?_
            refine hK.out (Act.put _ none _) _ (fun h => by cases h) ?_
            clear hK K
            try simp only [Act.put, List.setIfInBounds_toArray, List.set_cons_zero, List.set_cons_succ]
            have S137 : Hid (St p (.slice (some ⟨g0, 0, none⟩) ws.length cp0) ws en W (· = p) (W.heap.size ≤ ·) ([(w15.heap.size, 28, (ndCells 3 (placeZ ws en i) ⟨#[]⟩ 0 ⟨#[]⟩ ⟨#[]⟩ (.slice none 0 0) (.slice (some ⟨g131, 0, none⟩) ((l.length + 1) + 1) cap132))), (W.heap.size, 28, (ndCells 0 0 ⟨#[]⟩ 0 ⟨#[]⟩ ⟨#[]⟩ (.slice none 0 0) (.slice none 0 0)))] ++ own 28 (.slice (some ⟨g131, 0, none⟩) ((l.length + 1) + 1) cap132) cur134) (((ndCells 2 (placeZ ws en i104) ⟨#[]⟩ 4 ⟨#[]⟩ (saidZ ws i104) (.slice none 0 0) (.slice none 0 0)), (SN.mk 2 (placeZ ws en i104) ⟨#[]⟩ 4 ⟨#[]⟩ (saidZ ws i104) [] [])) :: (vs ++ [c107]).zip (l ++ [n103])) (i104 + 1) o1 _) := Lib.hid (S135.out.setCell 0 _ _ _ rfl 9 (.slice (some ⟨g131, 0, none⟩) ((l.length + 1) + 1) cap132) (ndCells 3 (placeZ ws en i) ⟨#[]⟩ 0 ⟨#[]⟩ ⟨#[]⟩ (.slice none 0 0) (.slice (some ⟨g131, 0, none⟩) ((l.length + 1) + 1) cap132)) rfl)
            clear S135
            refine anyT_done (by kernel_rfl) ?_ _
            generalize w133.setCell ⟨w15.heap.size, 9, none⟩ (.slice (some ⟨g131, 0, none⟩) ((l.length + 1) + 1) cap132) = w138 at S137 ⊢
            have S139 := Lib.hid (S137.out.snoc (by simp [hvl]))
            clear S137
            go_wp2_with fail
            go_roundg f
            case rel => exact ⟨f, _, _, l ++ [n103, txt (saidZ ws i104) (placeZ ws en i104)], vs ++ [c107, (ndCells 2 (placeZ ws en i104) ⟨#[]⟩ 4 ⟨#[]⟩ (saidZ ws i104) (.slice none 0 0) (.slice none 0 0))], (.slice (some ⟨g131, 0, none⟩) ((l.length + 1) + 1) cap132), cur134, rfl, Lib.hid hr, Lib.hid ⟨by simp [hvl], by omega, by simp; omega, (by
              have e1 : (l ++ [n103, txt (saidZ ws i104) (placeZ ws en i104)]).length = l.length + 1 + 1 := by simp
              have e2 : flat (vs ++ [c107, (ndCells 2 (placeZ ws en i104) ⟨#[]⟩ 4 ⟨#[]⟩ (saidZ ws i104) (.slice none 0 0) (.slice none 0 0))]) = flat (vs ++ [c107]) ++ flat [(ndCells 2 (placeZ ws en i104) ⟨#[]⟩ 4 ⟨#[]⟩ (saidZ ws i104) (.slice none 0 0) (.slice none 0 0))] := by simp [flat]
              rw [e1, e2]
              exact hok136)⟩, (by
              have e := S139
              rw [List.append_assoc, List.append_assoc] at e
              exact e)⟩
            case measure => omega
          ·
            rw [if_neg h8] at hr
            have h8' : ¬ kindZ ws i104 = 8 := h8
            go_wp2_with fail
            refine region_T (fun w => w.cell? ⟨w15.heap.size, 9, none⟩ = some (.slice (some ⟨g111, 0, none⟩) (l.length + 1) cap112)) (fun j => j == 11) 12 rfl (by kernel_rfl) ?_
            have S140 := Lib.hid (S123.out.drawn (w' := World.drew _) ⟨1, rfl⟩)
            refine anyT_take (i := 0) (oi := _) (v := (.pointer (some ⟨w15.heap.size, 9, none⟩))) (d := (some 79)) rfl rfl (by kernel_rfl) (by kernel_rfl) rfl (by kernel_rfl) (by kernel_rfl) (fun _ _ _ h => h) (Or.inl ⟨by rfl, fun w hS => by go_simp⟩) (S140.out.cell _ _ _ (.head _) 9 (.slice (some ⟨g111, 0, none⟩) (l.length + 1) cap112) rfl) ?_
            try simp only [Act.put, List.setIfInBounds_toArray, List.set_cons_zero, List.set_cons_succ]
            refine anyT_take (i := 1) (oi := _) (v := (.slice (some ⟨g111, 0, none⟩) (l.length + 1) cap112)) (d := (some 80)) rfl rfl (by kernel_rfl) (by kernel_rfl) rfl (by kernel_rfl) (by kernel_rfl) (fun _ _ _ h => h) (yl_cell 26 _ rfl (by rfl) (by kernel_rfl) _ _ rfl _ (fun _ h => h)) (S140.out.cell _ _ _ (.head _) 9 (.slice (some ⟨g111, 0, none⟩) (l.length + 1) cap112) rfl) ?_
            try simp only [Act.put, List.setIfInBounds_toArray, List.set_cons_zero, List.set_cons_succ]
            refine anyT_take (i := 2) (oi := _) (v := (.pointer (some ⟨p, 0, none⟩))) (d := (some 81)) rfl rfl (by kernel_rfl) (by kernel_rfl) rfl (by kernel_rfl) (by kernel_rfl) (fun _ _ _ h => h) (Or.inl ⟨by rfl, fun _ _ => rfl⟩) (S140.out.cell _ _ _ (.head _) 9 (.slice (some ⟨g111, 0, none⟩) (l.length + 1) cap112) rfl) ?_
            try simp only [Act.put, List.setIfInBounds_toArray, List.set_cons_zero, List.set_cons_succ]
            refine anyT_take (i := 3) (oi := _) (v := (.pointer (some ⟨p, 0, none⟩))) (d := (some 82)) rfl rfl (by kernel_rfl) (by kernel_rfl) rfl (by kernel_rfl) (by kernel_rfl) (fun _ _ _ h => h) (Or.inl ⟨by rfl, fun w hS => by go_simp⟩) (S140.out.cell _ _ _ (.head _) 9 (.slice (some ⟨g111, 0, none⟩) (l.length + 1) cap112) rfl) ?_
            try simp only [Act.put, List.setIfInBounds_toArray, List.set_cons_zero, List.set_cons_succ]
            refine anyT_take (i := 4) (oi := _) (v := (.pointer (some ⟨p, 0, none⟩))) (d := (some 83)) rfl rfl (by kernel_rfl) (by kernel_rfl) rfl (by kernel_rfl) (by kernel_rfl) (fun _ _ _ h => h) (Or.inl ⟨by rfl, fun w hS => by go_simp⟩) (S140.out.cell _ _ _ (.head _) 9 (.slice (some ⟨g111, 0, none⟩) (l.length + 1) cap112) rfl) ?_
            try simp only [Act.put, List.setIfInBounds_toArray, List.set_cons_zero, List.set_cons_succ]
            refine anyT_take (i := 6) (oi := _) (v := (.int .i64 (placeZ ws en i104))) (d := (some 85)) rfl rfl (by kernel_rfl) (by kernel_rfl) rfl (by kernel_rfl) (by kernel_rfl) (fun _ _ _ h => h) (Or.inl ⟨by rfl, fun _ _ => rfl⟩) (S140.out.cell _ _ _ (.head _) 9 (.slice (some ⟨g111, 0, none⟩) (l.length + 1) cap112) rfl) ?_
            try simp only [Act.put, List.setIfInBounds_toArray, List.set_cons_zero, List.set_cons_succ]
            refine anyT_step (i := 5) (oi := _) rfl (by kernel_rfl) (by rfl) (fun K hK => ?_)
            go_simp
            rcases PR.cases hr with ⟨x142, hz, rfl⟩ | ⟨u143, i144, o145, hz, hr'⟩
            · refine (name_calls _ 9 (by decide) _ hz S140.out.row).mono ?_
              rintro _ _ ⟨rfl, hk⟩
              exact ⟨rfl, S140.out.dies hk⟩
            replace hr := hr'
            clear hr'
            refine (name_calls _ 9 (by decide) _ hz S140.out.row).mono ?_
            rintro _ w141 ⟨⟨_, rfl, rfl⟩, hrw, hk⟩
            obtain ⟨rfl, rfl, rfl, hkd⟩ := nameZ_ok hz
            have S146 := Lib.hid (S140.out.call hrw hk)
            clear S140
            clear hrw hk hz
            refine hK.out _ _ (fun h => (S146.out.cell _ _ _ (.head _) 9 (.slice (some ⟨g111, 0, none⟩) (l.length + 1) cap112) rfl)) ?_
            clear hK K
            try simp only [Act.put, List.setIfInBounds_toArray, List.set_cons_zero, List.set_cons_succ]
            refine anyT_step (i := 7) (oi := _) rfl (by kernel_rfl) (by rfl) (fun K hK => ?_)
            go_simp
            refine (txt_calls _ (saidZ ws i104) (placeZ ws en i104) S146.out.row).mono ?_
            rintro _ w147 ⟨rfl, hrw, hk⟩
            have S148 := Lib.hid (S146.out.call hrw hk)
            clear S146
            clear hrw hk
            have S149 := Lib.hid (S148.out.plain 2 (placeZ ws en i104) ⟨#[]⟩ 4 ⟨#[]⟩ (saidZ ws i104))
            clear S148
            refine hK.out _ _ (fun h => (S149.out.cell _ _ _ (.head _) 9 (.slice (some ⟨g111, 0, none⟩) (l.length + 1) cap112) rfl)) ?_
            clear hK K
            try simp only [Act.put, List.setIfInBounds_toArray, List.set_cons_zero, List.set_cons_succ]
            refine anyT_step (i := 8) (oi := _) rfl (by kernel_rfl) (by rfl) (fun K hK => ?_)
            refine wp_bs_nodes 1 _ rfl [(ndCells 2 (placeZ ws en i104) ⟨#[]⟩ 4 ⟨#[]⟩ (saidZ ws i104) (.slice none 0 0) (.slice none 0 0))] rfl (by intro c hc; simp only [List.mem_cons, List.not_mem_nil, or_false] at hc; rcases hc with rfl <;> first | assumption | rfl) rfl (by decide) (by decide) ?_
            intro cur2 hcur2
            have S150 := Lib.hid (S149.out.waste (.cells cur2 28))
            clear S149
            refine hK.out (Act.put _ (some 87) _) _ (fun h => (S150.out.cell _ _ _ (.head _) 9 (.slice (some ⟨g111, 0, none⟩) (l.length + 1) cap112) rfl)) ?_
            clear hK K
            try simp only [Act.put, List.setIfInBounds_toArray, List.set_cons_zero, List.set_cons_succ]
            refine anyT_step (i := 9) (oi := _) rfl (by kernel_rfl) (by rfl) (fun K hK => ?_)
            refine wp_app S150.out hok2 infoNode nodesU rfl (by decide) (by decide) _ _ rfl rfl _ 1 _ rfl cur2 (heap_alloc_new _ _) (flat [(ndCells 2 (placeZ ws en i104) ⟨#[]⟩ 4 ⟨#[]⟩ (saidZ ws i104) (.slice none 0 0) (.slice none 0 0))]) (by simp [flat, ndCells]) (news_at hcur2) (all_one (by simp [ndCells, Value.oneCell'])) (by decide) (by first | omega | (simp only [List.length_append, List.length_cons, List.length_nil]; omega)) (fun g151 cap152 w153 cur154 S155 hok156 => ?_)
            replace S155 := Lib.hid S155
            refine hK.out (Act.put _ (some 88) _) _ (fun h => (S155.out.cell _ _ _ (.head _) 9 (.slice (some ⟨g111, 0, none⟩) (l.length + 1) cap112) rfl)) ?_
            clear hK K
            try simp only [Act.put, List.setIfInBounds_toArray, List.set_cons_zero, List.set_cons_succ]
            refine anyT_take (i := 10) (oi := _) (v := (.pointer (some ⟨w15.heap.size, 9, none⟩))) (d := (some 89)) rfl rfl (by kernel_rfl) (by kernel_rfl) rfl (by kernel_rfl) (by kernel_rfl) (fun _ _ _ h => h) (Or.inl ⟨by rfl, fun w hS => by go_simp⟩) (S155.out.cell _ _ _ (.head _) 9 (.slice (some ⟨g111, 0, none⟩) (l.length + 1) cap112) rfl) ?_
            try simp only [Act.put, List.setIfInBounds_toArray, List.set_cons_zero, List.set_cons_succ]
            refine anyT_step (i := 11) (oi := _) rfl (by kernel_rfl) (by rfl) (fun K hK => ?_)
            refine wp_st_cell _ _ _ rfl (by kernel_rfl) (w15.heap.size) 9 (.slice (some ⟨g151, 0, none⟩) ((l.length + 1) + 1) cap152) rfl rfl rfl _ _ (S155.out.blk _ _ _ (.head _)) (by simp [ndCells]) ?_
            refine hK.out (Act.put _ none _) _ (fun h => by cases h) ?_
            clear hK K
            try simp only [Act.put, List.setIfInBounds_toArray, List.set_cons_zero, List.set_cons_succ]
            have S157 : Hid (St p (.slice (some ⟨g0, 0, none⟩) ws.length cp0) ws en W (· = p) (W.heap.size ≤ ·) ([(w15.heap.size, 28, (ndCells 3 (placeZ ws en i) ⟨#[]⟩ 0 ⟨#[]⟩ ⟨#[]⟩ (.slice none 0 0) (.slice (some ⟨g151, 0, none⟩) ((l.length + 1) + 1) cap152))), (W.heap.size, 28, (ndCells 0 0 ⟨#[]⟩ 0 ⟨#[]⟩ ⟨#[]⟩ (.slice none 0 0) (.slice none 0 0)))] ++ own 28 (.slice (some ⟨g151, 0, none⟩) ((l.length + 1) + 1) cap152) cur154) (((ndCells 2 (placeZ ws en i104) ⟨#[]⟩ 4 ⟨#[]⟩ (saidZ ws i104) (.slice none 0 0) (.slice none 0 0)), (SN.mk 2 (placeZ ws en i104) ⟨#[]⟩ 4 ⟨#[]⟩ (saidZ ws i104) [] [])) :: (vs ++ [c107]).zip (l ++ [n103])) (i104 + 1) o1 _) := Lib.hid (S155.out.setCell 0 _ _ _ rfl 9 (.slice (some ⟨g151, 0, none⟩) ((l.length + 1) + 1) cap152) (ndCells 3 (placeZ ws en i) ⟨#[]⟩ 0 ⟨#[]⟩ ⟨#[]⟩ (.slice none 0 0) (.slice (some ⟨g151, 0, none⟩) ((l.length + 1) + 1) cap152)) rfl)
            clear S155
            refine anyT_done (by kernel_rfl) ?_ _
            generalize w153.setCell ⟨w15.heap.size, 9, none⟩ (.slice (some ⟨g151, 0, none⟩) ((l.length + 1) + 1) cap152) = w158 at S157 ⊢
            have S159 := Lib.hid (S157.out.snoc (by simp [hvl]))
            clear S157
            cases hr
            have c3_ := S159.out.row.c3
            have f3_ := S159.out.row.fr 3
            have hw3_ := S159.out.wrapD
            have S160 := Lib.hid (S159.out.down ho1)
            clear S159
            have e1 : (l ++ [n103, txt (saidZ ws i104) (placeZ ws en i104)]).length = l.length + 1 + 1 := by simp
            have e2 : flat (vs ++ [c107, (ndCells 2 (placeZ ws en i104) ⟨#[]⟩ 4 ⟨#[]⟩ (saidZ ws i104) (.slice none 0 0) (.slice none 0 0))]) = flat (vs ++ [c107]) ++ flat [(ndCells 2 (placeZ ws en i104) ⟨#[]⟩ 4 ⟨#[]⟩ (saidZ ws i104) (.slice none 0 0) (.slice none 0 0))] := by simp [flat]
            have hokz : OkR W.heap.size 10 (.slice (some ⟨g151, 0, none⟩) ((l.length + 1) + 1) cap152) cur154 (l ++ [n103, txt (saidZ ws i104) (placeZ ws en i104)]).length (flat (vs ++ [c107, (ndCells 2 (placeZ ws en i104) ⟨#[]⟩ 4 ⟨#[]⟩ (saidZ ws i104) (.slice none 0 0) (.slice none 0 0))])) := by rw [e1, e2]; exact hok156
            have S161 := Lib.hid (S160.out.shut (vs ++ [c107, (ndCells 2 (placeZ ws en i104) ⟨#[]⟩ 4 ⟨#[]⟩ (saidZ ws i104) (.slice none 0 0) (.slice none 0 0))]) (l ++ [n103, txt (saidZ ws i104) (placeZ ws en i104)]) (by simp [hvl]) hokz (fun z hz => (by have e := hz; rw [List.append_assoc, List.append_assoc]; exact e)) 3 (placeZ ws en i) ⟨#[]⟩)
            clear S160
            clear hokz e1 e2
            go_wp2_with (first
              | (refine ld_node rfl _ rfl _ rfl _ (S161.out.blk _ _ _ (.head _)) rfl ?_)
              | (refine st_node rfl _ _ rfl _ _ rfl rfl _ (S161.out.blk _ _ _ (.tail _ (.head _))) rfl rfl (by first | (simp [ndCells, Value.oneCell']; done) | exact nd_one rfl hok.one | exact nd_one hok.one rfl) ?_))
            have S162 := Lib.hid (S161.out.setRow 1 _ _ _ (ndCells 3 (placeZ ws en i) ⟨#[]⟩ 0 ⟨#[]⟩ ⟨#[]⟩ (.slice none 0 0) (.slice (some ⟨g151, 0, none⟩) ((l.length + 1) + 1) cap152)) rfl)
            clear S161
            refine ret_node rfl _ _ rfl (S162.out.blk _ _ _ (.tail _ (.head _))) rfl rfl ?_
            first | exact S162.out.done | (have e := S162.out.done; simp only [Int.add_sub_cancel] at e; exact e) | (simp only [Int.add_sub_cancel]; exact S162.out.done)
    ·
      go_simp
      have S163 := Lib.hid (S14.out.allocAt (w12.heap.size) (by simp) 28 (ndCells 0 0 ⟨#[]⟩ 0 ⟨#[]⟩ ⟨#[]⟩ (.slice none 0 0) (.slice none 0 0)))
      refine hK.out _ _ (fun h => (S163.out.row.seen i hi)) ?_
      clear hK K
      try simp only [Act.put, List.setIfInBounds_toArray, List.set_cons_zero, List.set_cons_succ]
      refine anyT_step (i := 15) (oi := _) rfl (by kernel_rfl) (by rfl) (fun K hK => ?_)
      go_simp
      refine (txt_calls _ (saidZ ws i) (placeZ ws en i) S163.out.row).mono ?_
      rintro _ w164 ⟨rfl, hrw, hk⟩
      have S165 := Lib.hid (S163.out.call hrw hk)
      clear S163
      clear hrw hk
      have S166 := Lib.hid (S165.out.plain 2 (placeZ ws en i) ⟨#[]⟩ 4 ⟨#[]⟩ (saidZ ws i))
      clear S165
      refine hK.out _ _ (fun h => (S166.out.row.seen i hi)) ?_
      clear hK K
      try simp only [Act.put, List.setIfInBounds_toArray, List.set_cons_zero, List.set_cons_succ]
      refine anyT_step (i := 16) (oi := _) rfl (by kernel_rfl) (by rfl) (fun K hK => ?_)
      have hB : W.heap.size ≤ w164.heap.size := by first | exact S166.out.base | (have := S166.out.base; simp at this; omega)
      refine wp_bs_nodes 1 _ rfl [(ndCells 2 (placeZ ws en i) ⟨#[]⟩ 4 ⟨#[]⟩ (saidZ ws i) (.slice none 0 0) (.slice none 0 0))] rfl (by intro c hc; simp only [List.mem_cons, List.not_mem_nil, or_false] at hc; rcases hc with rfl <;> first | assumption | rfl) rfl (by decide) (by decide) ?_
      intro cur hcur
      have S167 := Lib.hid (S166.out.allocAt (w164.heap.size) (by simp) 28 cur)
      clear S166
      refine hK.out (Act.put _ (some 46) _) _ (fun h => (S167.out.row.seen i hi)) ?_
      clear hK K
      try simp only [Act.put, List.setIfInBounds_toArray, List.set_cons_zero, List.set_cons_succ]
      refine anyT_take (i := 17) (oi := _) (v := (.agg (ndCells 3 (placeZ ws en i) ⟨#[]⟩ 0 ⟨#[]⟩ ⟨#[]⟩ (.slice none 0 0) (.slice (some ⟨w164.heap.size, 0, none⟩) 1 1)))) (d := (some 47)) rfl rfl (by kernel_rfl) (by kernel_rfl) rfl (by kernel_rfl) (by kernel_rfl) (fun _ _ _ h => h) (Or.inl ⟨by rfl, fun w hS => (by first | (go_simp; done) | (go_simp; rfl))⟩) (S167.out.row.seen i hi) ?_
      try simp only [Act.put, List.setIfInBounds_toArray, List.set_cons_zero, List.set_cons_succ]
      refine anyT_step (i := 19) (oi := _) rfl (by kernel_rfl) (by rfl) (fun K hK => ?_)
      refine wp_st_node _ _ rfl _ _ rfl rfl _ (S167.out.blk _ _ _ (.tail _ (.head _))) rfl rfl (by first | (simp [ndCells, Value.oneCell']; done) | exact nd_one rfl hok.one | exact nd_one hok.one rfl) ?_
      refine hK.out (Act.put _ none _) _ (fun h => by cases h) ?_
      clear hK K
      try simp only [Act.put, List.setIfInBounds_toArray, List.set_cons_zero, List.set_cons_succ]
      have S168 := Lib.hid (S167.out.setRow 1 _ _ _ (ndCells 3 (placeZ ws en i) ⟨#[]⟩ 0 ⟨#[]⟩ ⟨#[]⟩ (.slice none 0 0) (.slice (some ⟨w164.heap.size, 0, none⟩) 1 1)) rfl)
      clear S167
      refine anyT_done (by kernel_rfl) ?_ _
      have S169 := Lib.hid (S168.out.toOwn 1 1)
      clear S168
      go_wp2_with fail
      have holo170 := S169.out.row.olo
      rcases PR.cases hr with ⟨x172, hz, rfl⟩ | ⟨u173, i174, o175, hz, hr'⟩
      · refine (opens_calls _ hi _ hz S169.out.row).mono ?_
        rintro _ _ ⟨rfl, hk⟩
        exact ⟨rfl, S169.out.dies hk⟩
      replace hr := hr'
      clear hr'
      refine (opens_calls _ hi _ hz S169.out.row).mono ?_
      rintro _ w171 ⟨⟨_, rfl, rfl⟩, hrw, hk⟩
      obtain ⟨rfl, rfl⟩ := opensZ_ok hz
      have S176 := Lib.hid (S169.out.call hrw hk)
      clear S169
      clear hrw hk hz
      go_wp2_with fail
      have HR := Lib.hid hr
      clear hr
      go_loopg [] k (fun g wx => ∃ (f i1 : Nat) (o1 : Int) (l : List SN) (vs : List (Array Value)) (v : Value) (cur : Array Value), g = f ∧ Hid (joinZ ws en rc (placeZ ws en i) f l i1 o1 = some r) ∧ Hid (vs.length = l.length ∧ 1 ≤ o1 ∧ l.length + 2 * f ≤ 2 * k + 1 ∧ OkR W.heap.size 10 v cur l.length (flat vs)) ∧ Hid (St p (.slice (some ⟨g0, 0, none⟩) ws.length cp0) ws en W (· = p) (W.heap.size ≤ ·) ([(w12.heap.size, 28, (ndCells 3 (placeZ ws en i) ⟨#[]⟩ 0 ⟨#[]⟩ ⟨#[]⟩ (.slice none 0 0) v)), (W.heap.size, 28, (ndCells 0 0 ⟨#[]⟩ 0 ⟨#[]⟩ ⟨#[]⟩ (.slice none 0 0) (.slice none 0 0)))] ++ own 28 v cur) (vs.zip l) i1 o1 wx))
      case atStart => exact ⟨k, _, _, [txt (saidZ ws i) (placeZ ws en i)], [(ndCells 2 (placeZ ws en i) ⟨#[]⟩ 4 ⟨#[]⟩ (saidZ ws i) (.slice none 0 0) (.slice none 0 0))], (.slice (some ⟨w164.heap.size, 0, none⟩) 1 1), cur, rfl, HR, ⟨rfl, by omega, by simp; omega, OkR.lit hB hcur rfl (by decide)⟩, S176⟩
      case round =>
        clear HR hcur S176
        obtain ⟨f, i1, o1, l, vs, v, cur, hg, HR, HF, S⟩ := hrel
        obtain ⟨hvl, ho1, hlk, hok⟩ := HF.out
        have hr := HR.out
        obtain ⟨f, rfl⟩ : ∃ m, f = m + 1 := ⟨f - 1, by have : f ≠ 0 := (by rintro rfl; cases hr); omega⟩
        rw [joinZ] at hr
        clear HR HF
        go_wp2_with fail
        refine region_T (fun w => w.cell? ⟨w12.heap.size, 9, none⟩ = some v) (fun j => j == 7) 8 rfl (by kernel_rfl) ?_
        have S177 := Lib.hid (S.out.drawn (w' := World.drew _) ⟨1, rfl⟩)
        clear S
        refine anyT_take (i := 0) (oi := _) (v := (.pointer (some ⟨w12.heap.size, 9, none⟩))) (d := (some 52)) rfl rfl (by kernel_rfl) (by kernel_rfl) rfl (by kernel_rfl) (by kernel_rfl) (fun _ _ _ h => h) (Or.inl ⟨by rfl, fun w hS => by go_simp⟩) (S177.out.cell _ _ _ (.head _) 9 v rfl) ?_
        try simp only [Act.put, List.setIfInBounds_toArray, List.set_cons_zero, List.set_cons_succ]
        refine anyT_take (i := 1) (oi := _) (v := v) (d := (some 53)) rfl rfl (by kernel_rfl) (by kernel_rfl) rfl (by kernel_rfl) (by kernel_rfl) (fun _ _ _ h => h) (yl_cell 26 _ rfl (by rfl) (by kernel_rfl) _ _ rfl _ (fun _ h => h)) (S177.out.cell _ _ _ (.head _) 9 v rfl) ?_
        try simp only [Act.put, List.setIfInBounds_toArray, List.set_cons_zero, List.set_cons_succ]
        refine anyT_take (i := 2) (oi := _) (v := (.pointer (some ⟨p, 0, none⟩))) (d := (some 54)) rfl rfl (by kernel_rfl) (by kernel_rfl) rfl (by kernel_rfl) (by kernel_rfl) (fun _ _ _ h => h) (Or.inl ⟨by rfl, fun _ _ => rfl⟩) (S177.out.cell _ _ _ (.head _) 9 v rfl) ?_
        try simp only [Act.put, List.setIfInBounds_toArray, List.set_cons_zero, List.set_cons_succ]
        refine anyT_step (i := 3) (oi := _) rfl (by kernel_rfl) (by rfl) (fun K hK => ?_)
        go_simp
        rcases PR.cases hr with ⟨x181, hz, rfl⟩ | ⟨n178, i179, o180, hz, hr'⟩
        · refine (RC.pipe _ _ _ _ hz S177.out.row).mono ?_
          rintro _ _ ⟨rfl, hk⟩
          exact ⟨rfl, S177.out.dies hk⟩
        replace hr := hr'
        clear hr'
        have ho := (RC.even _ _ _ _ _ _ hz).symm
        subst ho
        refine (RC.pipe _ _ _ _ hz S177.out.row).mono ?_
        rintro _ w183 ⟨⟨_, rfl, hn⟩, hrw, hk⟩
        obtain ⟨c182, rfl, S184⟩ := S177.out.made hrw hk hn
        replace S184 := Lib.hid S184
        have hszc182 := S184.out.fst.size
        have honec182 := S184.out.fst.one
        clear hrw hk hn
        clear S177
        clear hz
        refine hK.out _ _ (fun h => (S184.out.cell _ _ _ (.head _) 9 v rfl)) ?_
        clear hK K
        try simp only [Act.put, List.setIfInBounds_toArray, List.set_cons_zero, List.set_cons_succ]
        refine anyT_step (i := 4) (oi := _) rfl (by kernel_rfl) (by rfl) (fun K hK => ?_)
        refine wp_bs_nodes 1 _ rfl [c182] rfl (by intro c hc; simp only [List.mem_cons, List.not_mem_nil, or_false] at hc; rcases hc with rfl <;> first | assumption | rfl) rfl (by decide) (by decide) ?_
        intro cur2 hcur2
        have S185 := Lib.hid (S184.out.waste (.cells cur2 28))
        clear S184
        refine hK.out (Act.put _ (some 56) _) _ (fun h => (S185.out.cell _ _ _ (.head _) 9 v rfl)) ?_
        clear hK K
        try simp only [Act.put, List.setIfInBounds_toArray, List.set_cons_zero, List.set_cons_succ]
        refine anyT_step (i := 5) (oi := _) rfl (by kernel_rfl) (by rfl) (fun K hK => ?_)
        refine wp_app S185.out hok infoNode nodesU rfl (by decide) (by decide) _ _ rfl rfl _ 1 _ rfl cur2 (heap_alloc_new _ _) (flat [c182]) (by simp [flat, hszc182]) (news_at hcur2) (all_one honec182) (by decide) (by first | omega | (simp only [List.length_append, List.length_cons, List.length_nil]; omega)) (fun g186 cap187 w188 cur189 S190 hok191 => ?_)
        replace S190 := Lib.hid S190
        refine hK.out (Act.put _ (some 57) _) _ (fun h => (S190.out.cell _ _ _ (.head _) 9 v rfl)) ?_
        clear hK K
        try simp only [Act.put, List.setIfInBounds_toArray, List.set_cons_zero, List.set_cons_succ]
        refine anyT_take (i := 6) (oi := _) (v := (.pointer (some ⟨w12.heap.size, 9, none⟩))) (d := (some 58)) rfl rfl (by kernel_rfl) (by kernel_rfl) rfl (by kernel_rfl) (by kernel_rfl) (fun _ _ _ h => h) (Or.inl ⟨by rfl, fun w hS => by go_simp⟩) (S190.out.cell _ _ _ (.head _) 9 v rfl) ?_
        try simp only [Act.put, List.setIfInBounds_toArray, List.set_cons_zero, List.set_cons_succ]
        refine anyT_step (i := 7) (oi := _) rfl (by kernel_rfl) (by rfl) (fun K hK => ?_)
        refine wp_st_cell _ _ _ rfl (by kernel_rfl) (w12.heap.size) 9 (.slice (some ⟨g186, 0, none⟩) (l.length + 1) cap187) rfl rfl rfl _ _ (S190.out.blk _ _ _ (.head _)) (by simp [ndCells]) ?_
        refine hK.out (Act.put _ none _) _ (fun h => by cases h) ?_
        clear hK K
        try simp only [Act.put, List.setIfInBounds_toArray, List.set_cons_zero, List.set_cons_succ]
        have S192 : Hid (St p (.slice (some ⟨g0, 0, none⟩) ws.length cp0) ws en W (· = p) (W.heap.size ≤ ·) ([(w12.heap.size, 28, (ndCells 3 (placeZ ws en i) ⟨#[]⟩ 0 ⟨#[]⟩ ⟨#[]⟩ (.slice none 0 0) (.slice (some ⟨g186, 0, none⟩) (l.length + 1) cap187))), (W.heap.size, 28, (ndCells 0 0 ⟨#[]⟩ 0 ⟨#[]⟩ ⟨#[]⟩ (.slice none 0 0) (.slice none 0 0)))] ++ own 28 (.slice (some ⟨g186, 0, none⟩) (l.length + 1) cap187) cur189) ((c182, n178) :: vs.zip l) i179 o1 _) := Lib.hid (S190.out.setCell 0 _ _ _ rfl 9 (.slice (some ⟨g186, 0, none⟩) (l.length + 1) cap187) (ndCells 3 (placeZ ws en i) ⟨#[]⟩ 0 ⟨#[]⟩ ⟨#[]⟩ (.slice none 0 0) (.slice (some ⟨g186, 0, none⟩) (l.length + 1) cap187)) rfl)
        clear S190
        refine anyT_done (by kernel_rfl) ?_ _
        generalize w188.setCell ⟨w12.heap.size, 9, none⟩ (.slice (some ⟨g186, 0, none⟩) (l.length + 1) cap187) = w193 at S192 ⊢
        have S194 := Lib.hid (S192.out.snoc hvl)
        clear S192
        go_wp2_with fail
        refine (place_calls _ S194.out.row).mono ?_
        rintro _ w195 ⟨rfl, hd⟩
        have S196 := Lib.hid (S194.out.drawn hd)
        clear S194
        clear hd
        go_wp2_with fail
        refine (kind_calls _ S196.out.row).mono ?_
        rintro _ w197 ⟨rfl, hd⟩
        have S198 := Lib.hid (S196.out.drawn hd)
        clear S196
        clear hd
        have hok2 : OkR W.heap.size 10 (.slice (some ⟨g186, 0, none⟩) (l.length + 1) cap187) cur189 (l.length + 1) (flat (vs ++ [c182])) := by rw [flat_append]; exact hok191
        by_cases h8 : kindZ ws i179 = 8
        ·
          rw [if_pos h8] at hr
          rw [h8]
          go_wp2_with fail
          refine region_T (fun w => w.cell? ⟨w12.heap.size, 9, none⟩ = some (.slice (some ⟨g186, 0, none⟩) (l.length + 1) cap187)) (fun j => j == 11) 12 rfl (by kernel_rfl) ?_
          have S199 := Lib.hid (S198.out.drawn (w' := World.drew _) ⟨1, rfl⟩)
          refine anyT_take (i := 0) (oi := _) (v := (.pointer (some ⟨w12.heap.size, 9, none⟩))) (d := (some 68)) rfl rfl (by kernel_rfl) (by kernel_rfl) rfl (by kernel_rfl) (by kernel_rfl) (fun _ _ _ h => h) (Or.inl ⟨by rfl, fun w hS => by go_simp⟩) (S199.out.cell _ _ _ (.head _) 9 (.slice (some ⟨g186, 0, none⟩) (l.length + 1) cap187) rfl) ?_
          try simp only [Act.put, List.setIfInBounds_toArray, List.set_cons_zero, List.set_cons_succ]
          refine anyT_take (i := 1) (oi := _) (v := (.slice (some ⟨g186, 0, none⟩) (l.length + 1) cap187)) (d := (some 69)) rfl rfl (by kernel_rfl) (by kernel_rfl) rfl (by kernel_rfl) (by kernel_rfl) (fun _ _ _ h => h) (yl_cell 26 _ rfl (by rfl) (by kernel_rfl) _ _ rfl _ (fun _ h => h)) (S199.out.cell _ _ _ (.head _) 9 (.slice (some ⟨g186, 0, none⟩) (l.length + 1) cap187) rfl) ?_
          try simp only [Act.put, List.setIfInBounds_toArray, List.set_cons_zero, List.set_cons_succ]
          refine anyT_take (i := 2) (oi := _) (v := (.pointer (some ⟨p, 0, none⟩))) (d := (some 70)) rfl rfl (by kernel_rfl) (by kernel_rfl) rfl (by kernel_rfl) (by kernel_rfl) (fun _ _ _ h => h) (Or.inl ⟨by rfl, fun _ _ => rfl⟩) (S199.out.cell _ _ _ (.head _) 9 (.slice (some ⟨g186, 0, none⟩) (l.length + 1) cap187) rfl) ?_
          try simp only [Act.put, List.setIfInBounds_toArray, List.set_cons_zero, List.set_cons_succ]
          refine anyT_take (i := 3) (oi := _) (v := (.pointer (some ⟨p, 0, none⟩))) (d := (some 71)) rfl rfl (by kernel_rfl) (by kernel_rfl) rfl (by kernel_rfl) (by kernel_rfl) (fun _ _ _ h => h) (Or.inl ⟨by rfl, fun w hS => by go_simp⟩) (S199.out.cell _ _ _ (.head _) 9 (.slice (some ⟨g186, 0, none⟩) (l.length + 1) cap187) rfl) ?_
          try simp only [Act.put, List.setIfInBounds_toArray, List.set_cons_zero, List.set_cons_succ]
          refine anyT_take (i := 4) (oi := _) (v := (.pointer (some ⟨p, 0, none⟩))) (d := (some 72)) rfl rfl (by kernel_rfl) (by kernel_rfl) rfl (by kernel_rfl) (by kernel_rfl) (fun _ _ _ h => h) (Or.inl ⟨by rfl, fun w hS => by go_simp⟩) (S199.out.cell _ _ _ (.head _) 9 (.slice (some ⟨g186, 0, none⟩) (l.length + 1) cap187) rfl) ?_
          try simp only [Act.put, List.setIfInBounds_toArray, List.set_cons_zero, List.set_cons_succ]
          refine anyT_take (i := 6) (oi := _) (v := (.int .i64 (placeZ ws en i179))) (d := (some 74)) rfl rfl (by kernel_rfl) (by kernel_rfl) rfl (by kernel_rfl) (by kernel_rfl) (fun _ _ _ h => h) (Or.inl ⟨by rfl, fun _ _ => rfl⟩) (S199.out.cell _ _ _ (.head _) 9 (.slice (some ⟨g186, 0, none⟩) (l.length + 1) cap187) rfl) ?_
          try simp only [Act.put, List.setIfInBounds_toArray, List.set_cons_zero, List.set_cons_succ]
          refine anyT_step (i := 5) (oi := _) rfl (by kernel_rfl) (by rfl) (fun K hK => ?_)
          go_simp
          refine (name_calls _ 8 (by decide) _ (nameZ_yes h8) S199.out.row).mono ?_
          rintro _ w200 ⟨⟨_, rfl, rfl⟩, hrw, hk⟩
          have S201 := Lib.hid (S199.out.call hrw hk)
          clear S199
          clear hrw hk
          refine hK.out _ _ (fun h => (S201.out.cell _ _ _ (.head _) 9 (.slice (some ⟨g186, 0, none⟩) (l.length + 1) cap187) rfl)) ?_
          clear hK K
          try simp only [Act.put, List.setIfInBounds_toArray, List.set_cons_zero, List.set_cons_succ]
          refine anyT_step (i := 7) (oi := _) rfl (by kernel_rfl) (by rfl) (fun K hK => ?_)
          go_simp
          refine (txt_calls _ (saidZ ws i179) (placeZ ws en i179) S201.out.row).mono ?_
          rintro _ w202 ⟨rfl, hrw, hk⟩
          have S203 := Lib.hid (S201.out.call hrw hk)
          clear S201
          clear hrw hk
          have S204 := Lib.hid (S203.out.plain 2 (placeZ ws en i179) ⟨#[]⟩ 4 ⟨#[]⟩ (saidZ ws i179))
          clear S203
          refine hK.out _ _ (fun h => (S204.out.cell _ _ _ (.head _) 9 (.slice (some ⟨g186, 0, none⟩) (l.length + 1) cap187) rfl)) ?_
          clear hK K
          try simp only [Act.put, List.setIfInBounds_toArray, List.set_cons_zero, List.set_cons_succ]
          refine anyT_step (i := 8) (oi := _) rfl (by kernel_rfl) (by rfl) (fun K hK => ?_)
          refine wp_bs_nodes 1 _ rfl [(ndCells 2 (placeZ ws en i179) ⟨#[]⟩ 4 ⟨#[]⟩ (saidZ ws i179) (.slice none 0 0) (.slice none 0 0))] rfl (by intro c hc; simp only [List.mem_cons, List.not_mem_nil, or_false] at hc; rcases hc with rfl <;> first | assumption | rfl) rfl (by decide) (by decide) ?_
          intro cur2 hcur2
          have S205 := Lib.hid (S204.out.waste (.cells cur2 28))
          clear S204
          refine hK.out (Act.put _ (some 76) _) _ (fun h => (S205.out.cell _ _ _ (.head _) 9 (.slice (some ⟨g186, 0, none⟩) (l.length + 1) cap187) rfl)) ?_
          clear hK K
          try simp only [Act.put, List.setIfInBounds_toArray, List.set_cons_zero, List.set_cons_succ]
          refine anyT_step (i := 9) (oi := _) rfl (by kernel_rfl) (by rfl) (fun K hK => ?_)
          refine wp_app S205.out hok2 infoNode nodesU rfl (by decide) (by decide) _ _ rfl rfl _ 1 _ rfl cur2 (heap_alloc_new _ _) (flat [(ndCells 2 (placeZ ws en i179) ⟨#[]⟩ 4 ⟨#[]⟩ (saidZ ws i179) (.slice none 0 0) (.slice none 0 0))]) (by simp [flat, ndCells]) (news_at hcur2) (all_one (by simp [ndCells, Value.oneCell'])) (by decide) (by first | omega | (simp only [List.length_append, List.length_cons, List.length_nil]; omega)) (fun g206 cap207 w208 cur209 S210 hok211 => ?_)
          replace S210 := Lib.hid S210
          refine hK.out (Act.put _ (some 77) _) _ (fun h => (S210.out.cell _ _ _ (.head _) 9 (.slice (some ⟨g186, 0, none⟩) (l.length + 1) cap187) rfl)) ?_
          clear hK K
          try simp only [Act.put, List.setIfInBounds_toArray, List.set_cons_zero, List.set_cons_succ]
          refine anyT_take (i := 10) (oi := _) (v := (.pointer (some ⟨w12.heap.size, 9, none⟩))) (d := (some 78)) rfl rfl (by kernel_rfl) (by kernel_rfl) rfl (by kernel_rfl) (by kernel_rfl) (fun _ _ _ h => h) (Or.inl ⟨by rfl, fun w hS => by go_simp⟩) (S210.out.cell _ _ _ (.head _) 9 (.slice (some ⟨g186, 0, none⟩) (l.length + 1) cap187) rfl) ?_
          try simp only [Act.put, List.setIfInBounds_toArray, List.set_cons_zero, List.set_cons_succ]
          refine anyT_step (i := 11) (oi := _) rfl (by kernel_rfl) (by rfl) (fun K hK => ?_)
          refine wp_st_cell _ _ _ rfl (by kernel_rfl) (w12.heap.size) 9 (.slice (some ⟨g206, 0, none⟩) ((l.length + 1) + 1) cap207) rfl rfl rfl _ _ (S210.out.blk _ _ _ (.head _)) (by simp [ndCells]) ?_
          refine hK.out (Act.put _ none _) _ (fun h => by cases h) ?_
          clear hK K
          try simp only [Act.put, List.setIfInBounds_toArray, List.set_cons_zero, List.set_cons_succ]
          have S212 : Hid (St p (.slice (some ⟨g0, 0, none⟩) ws.length cp0) ws en W (· = p) (W.heap.size ≤ ·) ([(w12.heap.size, 28, (ndCells 3 (placeZ ws en i) ⟨#[]⟩ 0 ⟨#[]⟩ ⟨#[]⟩ (.slice none 0 0) (.slice (some ⟨g206, 0, none⟩) ((l.length + 1) + 1) cap207))), (W.heap.size, 28, (ndCells 0 0 ⟨#[]⟩ 0 ⟨#[]⟩ ⟨#[]⟩ (.slice none 0 0) (.slice none 0 0)))] ++ own 28 (.slice (some ⟨g206, 0, none⟩) ((l.length + 1) + 1) cap207) cur209) (((ndCells 2 (placeZ ws en i179) ⟨#[]⟩ 4 ⟨#[]⟩ (saidZ ws i179) (.slice none 0 0) (.slice none 0 0)), (SN.mk 2 (placeZ ws en i179) ⟨#[]⟩ 4 ⟨#[]⟩ (saidZ ws i179) [] [])) :: (vs ++ [c182]).zip (l ++ [n178])) (i179 + 1) o1 _) := Lib.hid (S210.out.setCell 0 _ _ _ rfl 9 (.slice (some ⟨g206, 0, none⟩) ((l.length + 1) + 1) cap207) (ndCells 3 (placeZ ws en i) ⟨#[]⟩ 0 ⟨#[]⟩ ⟨#[]⟩ (.slice none 0 0) (.slice (some ⟨g206, 0, none⟩) ((l.length + 1) + 1) cap207)) rfl)
          clear S210
          refine anyT_done (by kernel_rfl) ?_ _
          generalize w208.setCell ⟨w12.heap.size, 9, none⟩ (.slice (some ⟨g206, 0, none⟩) ((l.length + 1) + 1) cap207) = w213 at S212 ⊢
          have S214 := Lib.hid (S212.out.snoc (by simp [hvl]))
          clear S212
          go_wp2_with fail
          go_roundg f
          case rel => exact ⟨f, _, _, l ++ [n178, txt (saidZ ws i179) (placeZ ws en i179)], vs ++ [c182, (ndCells 2 (placeZ ws en i179) ⟨#[]⟩ 4 ⟨#[]⟩ (saidZ ws i179) (.slice none 0 0) (.slice none 0 0))], (.slice (some ⟨g206, 0, none⟩) ((l.length + 1) + 1) cap207), cur209, rfl, Lib.hid hr, Lib.hid ⟨by simp [hvl], by omega, by simp; omega, (by
            have e1 : (l ++ [n178, txt (saidZ ws i179) (placeZ ws en i179)]).length = l.length + 1 + 1 := by simp
            have e2 : flat (vs ++ [c182, (ndCells 2 (placeZ ws en i179) ⟨#[]⟩ 4 ⟨#[]⟩ (saidZ ws i179) (.slice none 0 0) (.slice none 0 0))]) = flat (vs ++ [c182]) ++ flat [(ndCells 2 (placeZ ws en i179) ⟨#[]⟩ 4 ⟨#[]⟩ (saidZ ws i179) (.slice none 0 0) (.slice none 0 0))] := by simp [flat]
            rw [e1, e2]
            exact hok211)⟩, (by
            have e := S214
            rw [List.append_assoc, List.append_assoc] at e
            exact e)⟩
          case measure => omega
        ·
          rw [if_neg h8] at hr
          have h8' : ¬ kindZ ws i179 = 8 := h8
          go_wp2_with fail
          refine region_T (fun w => w.cell? ⟨w12.heap.size, 9, none⟩ = some (.slice (some ⟨g186, 0, none⟩) (l.length + 1) cap187)) (fun j => j == 11) 12 rfl (by kernel_rfl) ?_
          have S215 := Lib.hid (S198.out.drawn (w' := World.drew _) ⟨1, rfl⟩)
          refine anyT_take (i := 0) (oi := _) (v := (.pointer (some ⟨w12.heap.size, 9, none⟩))) (d := (some 79)) rfl rfl (by kernel_rfl) (by kernel_rfl) rfl (by kernel_rfl) (by kernel_rfl) (fun _ _ _ h => h) (Or.inl ⟨by rfl, fun w hS => by go_simp⟩) (S215.out.cell _ _ _ (.head _) 9 (.slice (some ⟨g186, 0, none⟩) (l.length + 1) cap187) rfl) ?_
          try simp only [Act.put, List.setIfInBounds_toArray, List.set_cons_zero, List.set_cons_succ]
          refine anyT_take (i := 1) (oi := _) (v := (.slice (some ⟨g186, 0, none⟩) (l.length + 1) cap187)) (d := (some 80)) rfl rfl (by kernel_rfl) (by kernel_rfl) rfl (by kernel_rfl) (by kernel_rfl) (fun _ _ _ h => h) (yl_cell 26 _ rfl (by rfl) (by kernel_rfl) _ _ rfl _ (fun _ h => h)) (S215.out.cell _ _ _ (.head _) 9 (.slice (some ⟨g186, 0, none⟩) (l.length + 1) cap187) rfl) ?_
          try simp only [Act.put, List.setIfInBounds_toArray, List.set_cons_zero, List.set_cons_succ]
          refine anyT_take (i := 2) (oi := _) (v := (.pointer (some ⟨p, 0, none⟩))) (d := (some 81)) rfl rfl (by kernel_rfl) (by kernel_rfl) rfl (by kernel_rfl) (by kernel_rfl) (fun _ _ _ h => h) (Or.inl ⟨by rfl, fun _ _ => rfl⟩) (S215.out.cell _ _ _ (.head _) 9 (.slice (some ⟨g186, 0, none⟩) (l.length + 1) cap187) rfl) ?_
          try simp only [Act.put, List.setIfInBounds_toArray, List.set_cons_zero, List.set_cons_succ]
          refine anyT_take (i := 3) (oi := _) (v := (.pointer (some ⟨p, 0, none⟩))) (d := (some 82)) rfl rfl (by kernel_rfl) (by kernel_rfl) rfl (by kernel_rfl) (by kernel_rfl) (fun _ _ _ h => h) (Or.inl ⟨by rfl, fun w hS => by go_simp⟩) (S215.out.cell _ _ _ (.head _) 9 (.slice (some ⟨g186, 0, none⟩) (l.length + 1) cap187) rfl) ?_
          try simp only [Act.put, List.setIfInBounds_toArray, List.set_cons_zero, List.set_cons_succ]
          refine anyT_take (i := 4) (oi := _) (v := (.pointer (some ⟨p, 0, none⟩))) (d := (some 83)) rfl rfl (by kernel_rfl) (by kernel_rfl) rfl (by kernel_rfl) (by kernel_rfl) (fun _ _ _ h => h) (Or.inl ⟨by rfl, fun w hS => by go_simp⟩) (S215.out.cell _ _ _ (.head _) 9 (.slice (some ⟨g186, 0, none⟩) (l.length + 1) cap187) rfl) ?_
          try simp only [Act.put, List.setIfInBounds_toArray, List.set_cons_zero, List.set_cons_succ]
          refine anyT_take (i := 6) (oi := _) (v := (.int .i64 (placeZ ws en i179))) (d := (some 85)) rfl rfl (by kernel_rfl) (by kernel_rfl) rfl (by kernel_rfl) (by kernel_rfl) (fun _ _ _ h => h) (Or.inl ⟨by rfl, fun _ _ => rfl⟩) (S215.out.cell _ _ _ (.head _) 9 (.slice (some ⟨g186, 0, none⟩) (l.length + 1) cap187) rfl) ?_
          try simp only [Act.put, List.setIfInBounds_toArray, List.set_cons_zero, List.set_cons_succ]
          refine anyT_step (i := 5) (oi := _) rfl (by kernel_rfl) (by rfl) (fun K hK => ?_)
          go_simp
          rcases PR.cases hr with ⟨x217, hz, rfl⟩ | ⟨u218, i219, o220, hz, hr'⟩
          · refine (name_calls _ 9 (by decide) _ hz S215.out.row).mono ?_
            rintro _ _ ⟨rfl, hk⟩
            exact ⟨rfl, S215.out.dies hk⟩
          replace hr := hr'
          clear hr'
          refine (name_calls _ 9 (by decide) _ hz S215.out.row).mono ?_
          rintro _ w216 ⟨⟨_, rfl, rfl⟩, hrw, hk⟩
          obtain ⟨rfl, rfl, rfl, hkd⟩ := nameZ_ok hz
          have S221 := Lib.hid (S215.out.call hrw hk)
          clear S215
          clear hrw hk hz
          refine hK.out _ _ (fun h => (S221.out.cell _ _ _ (.head _) 9 (.slice (some ⟨g186, 0, none⟩) (l.length + 1) cap187) rfl)) ?_
          clear hK K
          try simp only [Act.put, List.setIfInBounds_toArray, List.set_cons_zero, List.set_cons_succ]
          refine anyT_step (i := 7) (oi := _) rfl (by kernel_rfl) (by rfl) (fun K hK => ?_)
          go_simp
          refine (txt_calls _ (saidZ ws i179) (placeZ ws en i179) S221.out.row).mono ?_
          rintro _ w222 ⟨rfl, hrw, hk⟩
          have S223 := Lib.hid (S221.out.call hrw hk)
          clear S221
          clear hrw hk
          have S224 := Lib.hid (S223.out.plain 2 (placeZ ws en i179) ⟨#[]⟩ 4 ⟨#[]⟩ (saidZ ws i179))
          clear S223
          refine hK.out _ _ (fun h => (S224.out.cell _ _ _ (.head _) 9 (.slice (some ⟨g186, 0, none⟩) (l.length + 1) cap187) rfl)) ?_
          clear hK K
          try simp only [Act.put, List.setIfInBounds_toArray, List.set_cons_zero, List.set_cons_succ]
          refine anyT_step (i := 8) (oi := _) rfl (by kernel_rfl) (by rfl) (fun K hK => ?_)
          refine wp_bs_nodes 1 _ rfl [(ndCells 2 (placeZ ws en i179) ⟨#[]⟩ 4 ⟨#[]⟩ (saidZ ws i179) (.slice none 0 0) (.slice none 0 0))] rfl (by intro c hc; simp only [List.mem_cons, List.not_mem_nil, or_false] at hc; rcases hc with rfl <;> first | assumption | rfl) rfl (by decide) (by decide) ?_
          intro cur2 hcur2
          have S225 := Lib.hid (S224.out.waste (.cells cur2 28))
          clear S224
          refine hK.out (Act.put _ (some 87) _) _ (fun h => (S225.out.cell _ _ _ (.head _) 9 (.slice (some ⟨g186, 0, none⟩) (l.length + 1) cap187) rfl)) ?_
          clear hK K
          try simp only [Act.put, List.setIfInBounds_toArray, List.set_cons_zero, List.set_cons_succ]
          refine anyT_step (i := 9) (oi := _) rfl (by kernel_rfl) (by rfl) (fun K hK => ?_)
          refine wp_app S225.out hok2 infoNode nodesU rfl (by decide) (by decide) _ _ rfl rfl _ 1 _ rfl cur2 (heap_alloc_new _ _) (flat [(ndCells 2 (placeZ ws en i179) ⟨#[]⟩ 4 ⟨#[]⟩ (saidZ ws i179) (.slice none 0 0) (.slice none 0 0))]) (by simp [flat, ndCells]) (news_at hcur2) (all_one (by simp [ndCells, Value.oneCell'])) (by decide) (by first | omega | (simp only [List.length_append, List.length_cons, List.length_nil]; omega)) (fun g226 cap227 w228 cur229 S230 hok231 => ?_)
          replace S230 := Lib.hid S230
          refine hK.out (Act.put _ (some 88) _) _ (fun h => (S230.out.cell _ _ _ (.head _) 9 (.slice (some ⟨g186, 0, none⟩) (l.length + 1) cap187) rfl)) ?_
          clear hK K
          try simp only [Act.put, List.setIfInBounds_toArray, List.set_cons_zero, List.set_cons_succ]
          refine anyT_take (i := 10) (oi := _) (v := (.pointer (some ⟨w12.heap.size, 9, none⟩))) (d := (some 89)) rfl rfl (by kernel_rfl) (by kernel_rfl) rfl (by kernel_rfl) (by kernel_rfl) (fun _ _ _ h => h) (Or.inl ⟨by rfl, fun w hS => by go_simp⟩) (S230.out.cell _ _ _ (.head _) 9 (.slice (some ⟨g186, 0, none⟩) (l.length + 1) cap187) rfl) ?_
          try simp only [Act.put, List.setIfInBounds_toArray, List.set_cons_zero, List.set_cons_succ]
          refine anyT_step (i := 11) (oi := _) rfl (by kernel_rfl) (by rfl) (fun K hK => ?_)
          refine wp_st_cell _ _ _ rfl (by kernel_rfl) (w12.heap.size) 9 (.slice (some ⟨g226, 0, none⟩) ((l.length + 1) + 1) cap227) rfl rfl rfl _ _ (S230.out.blk _ _ _ (.head _)) (by simp [ndCells]) ?_
          refine hK.out (Act.put _ none _) _ (fun h => by cases h) ?_
          clear hK K
          try simp only [Act.put, List.setIfInBounds_toArray, List.set_cons_zero, List.set_cons_succ]
          have S232 : Hid (St p (.slice (some ⟨g0, 0, none⟩) ws.length cp0) ws en W (· = p) (W.heap.size ≤ ·) ([(w12.heap.size, 28, (ndCells 3 (placeZ ws en i) ⟨#[]⟩ 0 ⟨#[]⟩ ⟨#[]⟩ (.slice none 0 0) (.slice (some ⟨g226, 0, none⟩) ((l.length + 1) + 1) cap227))), (W.heap.size, 28, (ndCells 0 0 ⟨#[]⟩ 0 ⟨#[]⟩ ⟨#[]⟩ (.slice none 0 0) (.slice none 0 0)))] ++ own 28 (.slice (some ⟨g226, 0, none⟩) ((l.length + 1) + 1) cap227) cur229) (((ndCells 2 (placeZ ws en i179) ⟨#[]⟩ 4 ⟨#[]⟩ (saidZ ws i179) (.slice none 0 0) (.slice none 0 0)), (SN.mk 2 (placeZ ws en i179) ⟨#[]⟩ 4 ⟨#[]⟩ (saidZ ws i179) [] [])) :: (vs ++ [c182]).zip (l ++ [n178])) (i179 + 1) o1 _) := Lib.hid (S230.out.setCell 0 _ _ _ rfl 9 (.slice (some ⟨g226, 0, none⟩) ((l.length + 1) + 1) cap227) (ndCells 3 (placeZ ws en i) ⟨#[]⟩ 0 ⟨#[]⟩ ⟨#[]⟩ (.slice none 0 0) (.slice (some ⟨g226, 0, none⟩) ((l.length + 1) + 1) cap227)) rfl)
          clear S230
          refine anyT_done (by kernel_rfl) ?_ _
          generalize w228.setCell ⟨w12.heap.size, 9, none⟩ (.slice (some ⟨g226, 0, none⟩) ((l.length + 1) + 1) cap227) = w233 at S232 ⊢
          have S234 := Lib.hid (S232.out.snoc (by simp [hvl]))
          clear S232
          cases hr
          have c3_ := S234.out.row.c3
          have f3_ := S234.out.row.fr 3
          have hw3_ := S234.out.wrapD
          have S235 := Lib.hid (S234.out.down ho1)
          clear S234
          have e1 : (l ++ [n178, txt (saidZ ws i179) (placeZ ws en i179)]).length = l.length + 1 + 1 := by simp
          have e2 : flat (vs ++ [c182, (ndCells 2 (placeZ ws en i179) ⟨#[]⟩ 4 ⟨#[]⟩ (saidZ ws i179) (.slice none 0 0) (.slice none 0 0))]) = flat (vs ++ [c182]) ++ flat [(ndCells 2 (placeZ ws en i179) ⟨#[]⟩ 4 ⟨#[]⟩ (saidZ ws i179) (.slice none 0 0) (.slice none 0 0))] := by simp [flat]
          have hokz : OkR W.heap.size 10 (.slice (some ⟨g226, 0, none⟩) ((l.length + 1) + 1) cap227) cur229 (l ++ [n178, txt (saidZ ws i179) (placeZ ws en i179)]).length (flat (vs ++ [c182, (ndCells 2 (placeZ ws en i179) ⟨#[]⟩ 4 ⟨#[]⟩ (saidZ ws i179) (.slice none 0 0) (.slice none 0 0))])) := by rw [e1, e2]; exact hok231
          have S236 := Lib.hid (S235.out.shut (vs ++ [c182, (ndCells 2 (placeZ ws en i179) ⟨#[]⟩ 4 ⟨#[]⟩ (saidZ ws i179) (.slice none 0 0) (.slice none 0 0))]) (l ++ [n178, txt (saidZ ws i179) (placeZ ws en i179)]) (by simp [hvl]) hokz (fun z hz => (by have e := hz; rw [List.append_assoc, List.append_assoc]; exact e)) 3 (placeZ ws en i) ⟨#[]⟩)
          clear S235
          clear hokz e1 e2
          go_wp2_with (first
            | (refine ld_node rfl _ rfl _ rfl _ (S236.out.blk _ _ _ (.head _)) rfl ?_)
            | (refine st_node rfl _ _ rfl _ _ rfl rfl _ (S236.out.blk _ _ _ (.tail _ (.head _))) rfl rfl (by first | (simp [ndCells, Value.oneCell']; done) | exact nd_one rfl hok.one | exact nd_one hok.one rfl) ?_))
          have S237 := Lib.hid (S236.out.setRow 1 _ _ _ (ndCells 3 (placeZ ws en i) ⟨#[]⟩ 0 ⟨#[]⟩ ⟨#[]⟩ (.slice none 0 0) (.slice (some ⟨g226, 0, none⟩) ((l.length + 1) + 1) cap227)) rfl)
          clear S236
          refine ret_node rfl _ _ rfl (S237.out.blk _ _ _ (.tail _ (.head _))) rfl rfl ?_
          first | exact S237.out.done | (have e := S237.out.done; simp only [Int.add_sub_cancel] at e; exact e) | (simp only [Int.add_sub_cancel]; exact S237.out.done)
  ·
    rw [if_neg h7] at hr
    have h7' : ¬ kindZ ws i = 7 := h7
    generalize hkz : kindZ ws i = kd at *
    go_wp2_with fail
    refine (kind_calls _ S5.out.row).mono ?_
    rintro _ w238 ⟨rfl, hd⟩
    have S239 := Lib.hid (S5.out.drawn hd)
    clear hd
    rw [hkz]
    go_wp2_with fail
    rw [failZ_eq] at hr
    cases hr
    refine (fail_calls_row _ S239.out.row).mono ?_
    rintro _ _ ⟨rfl, hd⟩
    exact ⟨rfl, S239.out.dies (Kp.of_drawn hd)⟩

end Go.Proofs.YthlmhnlfcnpocaaDoor.U

namespace Go.Proofs.YthlmhnlfcnpocaaDoor.U
open Go.RowKit Go.Proofs.YthlmhnlfcnpocaaDoorW.PrintWords
set_option linter.unusedSimpArgs false
set_option linter.unusedVariables false

set_option maxHeartbeats 8000000 in
set_option maxRecDepth 100000 in
theorem list_calls {p : Nat} {vw : Value} {ws : List Tok} {en : Int} {rc : PC → Nat → Int → PR SN} (RC : RcOk p vw ws en rc) {i : Nat} {o : Int} (W : World) (hi : i < ws.length) (r : Except (Int × Int) (SN × Nat × Int)) (hr : listZ ws en rc i o = some r) (h : Rw p vw ws en i o W) :
    Calls Tryd.prog 73 #[.pointer (some ⟨p, 0, none⟩)] W (Ends p vw ws en W (IsN (W.heap.size ≤ ·)) r) := by
  have S0 := Lib.hid (St.start (G := (W.heap.size ≤ ·)) (V := []) h (Nat.not_le.2 h.lt) (fun k hk => hk) (fun _ hx => by cases hx))
  clear h
  go_enter Tryd.func73, Tryd.ntmps73
  go_wp2_with fail
  have S1 := Lib.hid (S0.out.allocAt (W.heap.size) (by simp [World.setCell]) 28 (ndCells 0 0 ⟨#[]⟩ 0 ⟨#[]⟩ ⟨#[]⟩ (.slice none 0 0) (.slice none 0 0)))
  clear S0
  refine (place_calls _ S1.out.row).mono ?_
  rintro _ w2 ⟨rfl, hd⟩
  have S3 := Lib.hid (S1.out.drawn hd)
  clear S1
  clear hd
  go_wp2_with fail
  have S4 := Lib.hid (S3.out.allocAt (w2.heap.size) (by simp [World.setCell]) 28 (ndCells 4 (placeZ ws en i) ⟨#[]⟩ 0 ⟨#[]⟩ ⟨#[]⟩ (.slice none 0 0) (.slice none 0 0)))
  clear S3
  unfold listZ at hr
  have holo5 := S4.out.row.olo
  rcases PR.cases hr with ⟨x7, hz, rfl⟩ | ⟨u8, i9, o10, hz, hr'⟩
  · refine (opens_calls _ hi _ hz S4.out.row).mono ?_
    rintro _ _ ⟨rfl, hk⟩
    exact ⟨rfl, S4.out.dies hk⟩
  replace hr := hr'
  clear hr'
  refine (opens_calls _ hi _ hz S4.out.row).mono ?_
  rintro _ w6 ⟨⟨_, rfl, rfl⟩, hrw, hk⟩
  obtain ⟨rfl, rfl⟩ := opensZ_ok hz
  have S11 := Lib.hid (S4.out.call hrw hk)
  clear S4
  clear hrw hk hz
  go_wp2_with fail
  have S12 := Lib.hid (S11.out.waste (.cells #[.string ⟨#[93]⟩] 9))
  clear S11
  refine (is_calls _ _ ⟨#[93]⟩ _ (cell_top _ _ _ _ (by simp)) S12.out.row).mono ?_
  rintro _ w13 ⟨rfl, hd⟩
  have S15 := Lib.hid (S12.out.drawn hd)
  clear S12
  clear hd
  cases hb14 : isZ ws (i + 1) ⟨#[93]⟩ with
  | true =>
    rw [if_pos hb14] at hr
    rw [ok_andThen] at hr
    go_wp2_with fail
    rcases PR.cases hr with ⟨x17, hz, rfl⟩ | ⟨u18, i19, o20, hz, hr'⟩
    · refine (closes_calls _ (by omega) ⟨#[93]⟩ _ hz S15.out.row).mono ?_
      rintro _ _ ⟨rfl, hk⟩
      exact ⟨rfl, S15.out.dies hk⟩
    replace hr := hr'
    clear hr'
    refine (closes_calls _ (by omega) ⟨#[93]⟩ _ hz S15.out.row).mono ?_
    rintro _ w16 ⟨⟨_, rfl, rfl⟩, hrw, hk⟩
    obtain ⟨rfl, rfl⟩ := closesZ_ok hz
    have S21 := Lib.hid (S15.out.call hrw hk)
    clear hrw hk hz
    cases hr
    have S22 := Lib.hid (S21.out.plain 4 (placeZ ws en i) ⟨#[]⟩ 0 ⟨#[]⟩ ⟨#[]⟩)
    clear S21
    go_wp2_with (first
      | (refine ld_node rfl _ rfl _ rfl _ (S22.out.blk _ _ _ (.head _)) rfl ?_)
      | (refine st_node rfl _ _ rfl _ _ rfl rfl _ (S22.out.blk _ _ _ (.tail _ (.head _))) rfl rfl (by first | (simp [ndCells, Value.oneCell']; done) | exact nd_one rfl hok.one | exact nd_one hok.one rfl) ?_))
    have S23 := Lib.hid (S22.out.setRow 1 _ _ _ (ndCells 4 (placeZ ws en i) ⟨#[]⟩ 0 ⟨#[]⟩ ⟨#[]⟩ (.slice none 0 0) (.slice none 0 0)) rfl)
    clear S22
    refine ret_node rfl _ _ rfl (S23.out.blk _ _ _ (.tail _ (.head _))) rfl rfl ?_
    first | exact S23.out.done | (have e := S23.out.done; simp only [Int.add_sub_cancel] at e; exact e) | (simp only [Int.add_sub_cancel]; exact S23.out.done)
  | false =>
    rw [if_neg (by rw [hb14]; decide)] at hr
    go_wp2_with fail
    rw [andThen_assoc] at hr
    rcases PR.cases hr with ⟨x27, hz, rfl⟩ | ⟨n24, i25, o26, hz, hr'⟩
    · refine (RC.pipe _ _ _ _ hz S15.out.row).mono ?_
      rintro _ _ ⟨rfl, hk⟩
      exact ⟨rfl, S15.out.dies hk⟩
    replace hr := hr'
    clear hr'
    have ho := (RC.even _ _ _ _ _ _ hz).symm
    subst ho
    refine (RC.pipe _ _ _ _ hz S15.out.row).mono ?_
    rintro _ w29 ⟨⟨_, rfl, hn⟩, hrw, hk⟩
    obtain ⟨c28, rfl, S30⟩ := S15.out.made hrw hk hn
    replace S30 := Lib.hid S30
    have hszc28 := S30.out.fst.size
    have honec28 := S30.out.fst.one
    clear hrw hk hn
    clear hz
    rw [ok_andThen] at hr
    go_wp2_with (first
      | (refine bs_nodes rfl 1 _ rfl [c28] rfl (by intro c hc; simp only [List.mem_cons, List.not_mem_nil, or_false] at hc; rcases hc with rfl <;> first | assumption | rfl) rfl (by decide) (by decide) ?_; intro cur hcur; have S31 := Lib.hid (S30.out.build 4 (placeZ ws en i) ⟨#[]⟩ [c28] [n24] (.cons (S30.out.nds (c28, n24) (.head _)) .nil) (by simp) (by simp) cur hcur))
      | (refine st_cell rfl _ _ _ rfl (by kernel_rfl) _ _ _ rfl rfl rfl _ _ (S31.out.blk _ _ _ (.head _)) (by simp [ndCells]) ?_))
    have S32 := Lib.hid (S31.out.setCell 0 _ _ _ rfl 9 (.slice (some ⟨w29.heap.size, 0, none⟩) 1 1) (ndCells 4 (placeZ ws en i) ⟨#[]⟩ 0 ⟨#[]⟩ ⟨#[]⟩ (.slice none 0 0) (.slice (some ⟨w29.heap.size, 0, none⟩) 1 1)) rfl)
    clear S31
    rcases PR.cases hr with ⟨x34, hz, rfl⟩ | ⟨u35, i36, o37, hz, hr'⟩
    · refine (closes_calls _ (by omega) ⟨#[93]⟩ _ hz S32.out.row).mono ?_
      rintro _ _ ⟨rfl, hk⟩
      exact ⟨rfl, S32.out.dies hk⟩
    replace hr := hr'
    clear hr'
    refine (closes_calls _ (by omega) ⟨#[93]⟩ _ hz S32.out.row).mono ?_
    rintro _ w33 ⟨⟨_, rfl, rfl⟩, hrw, hk⟩
    obtain ⟨rfl, rfl⟩ := closesZ_ok hz
    have S38 := Lib.hid (S32.out.call hrw hk)
    clear S32
    clear hrw hk hz
    cases hr
    go_wp2_with (first
      | (refine ld_node rfl _ rfl _ rfl _ (S38.out.blk _ _ _ (.head _)) rfl ?_)
      | (refine st_node rfl _ _ rfl _ _ rfl rfl _ (S38.out.blk _ _ _ (.tail _ (.head _))) rfl rfl (by first | (simp [ndCells, Value.oneCell']; done) | exact nd_one rfl hok.one | exact nd_one hok.one rfl) ?_))
    have S39 := Lib.hid (S38.out.setRow 1 _ _ _ (ndCells 4 (placeZ ws en i) ⟨#[]⟩ 0 ⟨#[]⟩ ⟨#[]⟩ (.slice none 0 0) (.slice (some ⟨w29.heap.size, 0, none⟩) 1 1)) rfl)
    clear S38
    refine ret_node rfl _ _ rfl (S39.out.blk _ _ _ (.tail _ (.head _))) rfl rfl ?_
    first | exact S39.out.done | (have e := S39.out.done; simp only [Int.add_sub_cancel] at e; exact e) | (simp only [Int.add_sub_cancel]; exact S39.out.done)

set_option maxHeartbeats 8000000 in
set_option maxRecDepth 100000 in
theorem unary_calls {p : Nat} {vw : Value} {ws : List Tok} {en : Int} {rc : PC → Nat → Int → PR SN} (RC : RcOk p vw ws en rc) {i : Nat} {o : Int} (W : World) (r : Except (Int × Int) (SN × Nat × Int)) (hr : unaryZ ws en rc i o = some r) (h : Rw p vw ws en i o W) :
    Calls Tryd.prog 27 #[.pointer (some ⟨p, 0, none⟩)] W (Ends p vw ws en W (IsN (W.heap.size ≤ ·)) r) := by
  have S0 := Lib.hid (St.start (G := (W.heap.size ≤ ·)) (V := []) h (Nat.not_le.2 h.lt) (fun k hk => hk) (fun _ hx => by cases hx))
  clear h
  go_enter Tryd.func27, Tryd.ntmps27
  go_wp2_with fail
  have S1 := Lib.hid (S0.out.allocAt (W.heap.size) (by simp [World.setCell]) 28 (ndCells 0 0 ⟨#[]⟩ 0 ⟨#[]⟩ ⟨#[]⟩ (.slice none 0 0) (.slice none 0 0)))
  clear S0
  refine (place_calls _ S1.out.row).mono ?_
  rintro _ w2 ⟨rfl, hd⟩
  have S3 := Lib.hid (S1.out.drawn hd)
  clear S1
  clear hd
  unfold unaryZ at hr
  go_wp2_with fail
  have S4 := Lib.hid (S3.out.waste (.cells #[.string ⟨#[45]⟩] 9))
  clear S3
  cases hb5 : isZ ws i ⟨#[45]⟩ with
  | true =>
    rw [if_pos hb5] at hr
    refine (take_calls _ _ ⟨#[45]⟩ _ true hb5 (cell_top _ _ _ _ (by simp)) S4.out.row).mono ?_
    rintro _ w6 ⟨rfl, hrw, hk⟩
    replace hrw : Rw p vw ws en (i + 1) _ _ := hrw
    have S7 := Lib.hid (S4.out.call hrw hk)
    clear hrw hk
    go_wp2_with fail
    rcases PR.cases hr with ⟨x11, hz, rfl⟩ | ⟨n8, i9, o10, hz, hr'⟩
    · refine (RC.unary _ _ _ _ hz S7.out.row).mono ?_
      rintro _ _ ⟨rfl, hk⟩
      exact ⟨rfl, S7.out.dies hk⟩
    replace hr := hr'
    clear hr'
    have ho := (RC.even _ _ _ _ _ _ hz).symm
    subst ho
    refine (RC.unary _ _ _ _ hz S7.out.row).mono ?_
    rintro _ w13 ⟨⟨_, rfl, hn⟩, hrw, hk⟩
    obtain ⟨c12, rfl, S14⟩ := S7.out.made hrw hk hn
    replace S14 := Lib.hid S14
    have hszc12 := S14.out.fst.size
    have honec12 := S14.out.fst.one
    clear hrw hk hn
    clear S7
    clear hz
    cases hr
    go_wp2_with (first
      | (refine bs_nodes rfl 1 _ rfl [c12] rfl (by intro c hc; simp only [List.mem_cons, List.not_mem_nil, or_false] at hc; rcases hc with rfl <;> first | assumption | rfl) rfl (by decide) (by decide) ?_; intro cur hcur; have S15 := Lib.hid (S14.out.build 11 (placeZ ws en i) ⟨#[]⟩ [c12] [n8] (.cons (S14.out.nds (c12, n8) (.head _)) .nil) (by simp) (by simp) cur hcur))
      | (refine st_node rfl _ _ rfl _ _ rfl rfl _ (S15.out.blk _ _ _ (.head _)) rfl rfl (by first | (simp [ndCells, Value.oneCell']; done) | exact nd_one rfl hok.one | exact nd_one hok.one rfl) ?_))
    clear S14
    have S16 := Lib.hid (S15.out.setRow 0 _ _ _ (ndCells 11 (placeZ ws en i) ⟨#[]⟩ 0 ⟨#[]⟩ ⟨#[]⟩ (.slice none 0 0) (.slice (some ⟨w13.heap.size, 0, none⟩) 1 1)) rfl)
    clear S15
    refine ret_node rfl _ _ rfl (S16.out.blk _ _ _ (.head _)) rfl rfl ?_
    first | exact S16.out.done | (have e := S16.out.done; simp only [Int.add_sub_cancel] at e; exact e) | (simp only [Int.add_sub_cancel]; exact S16.out.done)
  | false =>
    rw [if_neg (by rw [hb5]; decide)] at hr
    refine (take_calls _ _ ⟨#[45]⟩ _ false hb5 (cell_top _ _ _ _ (by simp)) S4.out.row).mono ?_
    rintro _ w17 ⟨rfl, hrw, hk⟩
    replace hrw : Rw p vw ws en i _ _ := hrw
    have S18 := Lib.hid (S4.out.call hrw hk)
    clear hrw hk
    go_wp2_with fail
    rcases PR.split r with ⟨x22, rfl⟩ | ⟨n19, i20, o21, rfl⟩
    · replace hz := hr
      refine (RC.post _ _ _ _ hz S18.out.row).mono ?_
      rintro _ _ ⟨rfl, hk⟩
      exact ⟨rfl, S18.out.dies hk⟩
    replace hz := hr
    have ho := (RC.even _ _ _ _ _ _ hz).symm
    subst ho
    refine (RC.post _ _ _ _ hz S18.out.row).mono ?_
    rintro _ w24 ⟨⟨_, rfl, hn⟩, hrw, hk⟩
    obtain ⟨c23, rfl, S25⟩ := S18.out.made hrw hk hn
    replace S25 := Lib.hid S25
    have hszc23 := S25.out.fst.size
    have honec23 := S25.out.fst.one
    clear hrw hk hn
    clear S18
    clear hz
    go_wp2_with (first
      | (refine st_node rfl _ _ rfl _ _ rfl rfl _ (S25.out.blk _ _ _ (.head _)) hszc23 rfl honec23 ?_))
    have S26 := Lib.hid (S25.out.setRow 0 _ _ _ c23 rfl)
    clear S25
    refine ret_node rfl _ _ rfl (S26.out.blk _ _ _ (.head _)) hszc23 rfl ?_
    first | exact S26.out.done | (have e := S26.out.done; simp only [Int.add_sub_cancel] at e; exact e) | (simp only [Int.add_sub_cancel]; exact S26.out.done)

set_option maxHeartbeats 8000000 in
set_option maxRecDepth 100000 in
theorem inner_calls {p : Nat} {vw : Value} {ws : List Tok} {en : Int} {rc : PC → Nat → Int → PR SN} (RC : RcOk p vw ws en rc) {i : Nat} {o : Int} (W : World) (hi : i < ws.length) (r : Except (Int × Int) (SN × Nat × Int)) (hr : innerZ ws en rc i o = some r) (h : Rw p vw ws en i o W) :
    Calls Tryd.prog 72 #[.pointer (some ⟨p, 0, none⟩)] W (Ends p vw ws en W (IsN (W.heap.size ≤ ·)) r) := by
  have S0 := Lib.hid (St.start (G := (W.heap.size ≤ ·)) (V := []) h (Nat.not_le.2 h.lt) (fun k hk => hk) (fun _ hx => by cases hx))
  clear h
  go_enter Tryd.func72, Tryd.ntmps72
  go_wp2_with fail
  have S1 := Lib.hid (S0.out.allocAt (W.heap.size) (by simp [World.setCell]) 28 (ndCells 0 0 ⟨#[]⟩ 0 ⟨#[]⟩ ⟨#[]⟩ (.slice none 0 0) (.slice none 0 0)))
  clear S0
  unfold innerZ at hr
  have holo2 := S1.out.row.olo
  rcases PR.cases hr with ⟨x4, hz, rfl⟩ | ⟨u5, i6, o7, hz, hr'⟩
  · refine (opens_calls _ hi _ hz S1.out.row).mono ?_
    rintro _ _ ⟨rfl, hk⟩
    exact ⟨rfl, S1.out.dies hk⟩
  replace hr := hr'
  clear hr'
  refine (opens_calls _ hi _ hz S1.out.row).mono ?_
  rintro _ w3 ⟨⟨_, rfl, rfl⟩, hrw, hk⟩
  obtain ⟨rfl, rfl⟩ := opensZ_ok hz
  have S8 := Lib.hid (S1.out.call hrw hk)
  clear S1
  clear hrw hk hz
  go_wp2_with fail
  rcases PR.cases hr with ⟨x12, hz, rfl⟩ | ⟨n9, i10, o11, hz, hr'⟩
  · refine (RC.pipe _ _ _ _ hz S8.out.row).mono ?_
    rintro _ _ ⟨rfl, hk⟩
    exact ⟨rfl, S8.out.dies hk⟩
  replace hr := hr'
  clear hr'
  have ho := (RC.even _ _ _ _ _ _ hz).symm
  subst ho
  refine (RC.pipe _ _ _ _ hz S8.out.row).mono ?_
  rintro _ w14 ⟨⟨_, rfl, hn⟩, hrw, hk⟩
  obtain ⟨c13, rfl, S15⟩ := S8.out.made hrw hk hn
  replace S15 := Lib.hid S15
  have hszc13 := S15.out.fst.size
  have honec13 := S15.out.fst.one
  clear hrw hk hn
  clear S8
  clear hz
  have S16 := Lib.hid (S15.out.allocAt (w14.heap.size) (by simp [World.setCell]) 28 (ndCells 0 0 ⟨#[]⟩ 0 ⟨#[]⟩ ⟨#[]⟩ (.slice none 0 0) (.slice none 0 0)))
  clear S15
  go_wp2_with (first
    | (refine st_node rfl _ _ rfl _ _ rfl rfl _ (S16.out.blk _ _ _ (.head _)) hszc13 rfl honec13 ?_))
  have S17 := Lib.hid (S16.out.setRow 0 _ _ _ c13 rfl)
  clear S16
  rcases PR.cases hr with ⟨x19, hz, rfl⟩ | ⟨u20, i21, o22, hz, hr'⟩
  · refine (closes_calls _ (by omega) ⟨#[41]⟩ _ hz S17.out.row).mono ?_
    rintro _ _ ⟨rfl, hk⟩
    exact ⟨rfl, S17.out.dies hk⟩
  replace hr := hr'
  clear hr'
  refine (closes_calls _ (by omega) ⟨#[41]⟩ _ hz S17.out.row).mono ?_
  rintro _ w18 ⟨⟨_, rfl, rfl⟩, hrw, hk⟩
  obtain ⟨rfl, rfl⟩ := closesZ_ok hz
  have S23 := Lib.hid (S17.out.call hrw hk)
  clear S17
  clear hrw hk hz
  cases hr
  go_wp2_with (first
    | (refine ld_node rfl _ rfl _ rfl _ (S23.out.blk _ _ _ (.head _)) hszc13 ?_)
    | (refine st_node rfl _ _ rfl _ _ rfl rfl _ (S23.out.blk _ _ _ (.tail _ (.head _))) hszc13 rfl honec13 ?_))
  have S24 := Lib.hid (S23.out.setRow 1 _ _ _ c13 rfl)
  clear S23
  refine ret_node rfl _ _ rfl (S24.out.blk _ _ _ (.tail _ (.head _))) hszc13 rfl ?_
  first | exact S24.out.done | (have e := S24.out.done; simp only [Int.add_sub_cancel] at e; exact e) | (simp only [Int.add_sub_cancel]; exact S24.out.done)

set_option maxHeartbeats 8000000 in
set_option maxRecDepth 100000 in
theorem leave_calls {p : Nat} {vw : Value} {ws : List Tok} {en : Int} {rc : PC → Nat → Int → PR SN} (RC : RcOk p vw ws en rc) {i : Nat} {o : Int} (W : World) (hi : i < ws.length) (r : Except (Int × Int) (SN × Nat × Int)) (hr : leaveZ ws en i o = some r) (h : Rw p vw ws en i o W) :
    Calls Tryd.prog 80 #[.pointer (some ⟨p, 0, none⟩)] W (Ends p vw ws en W (IsN (W.heap.size ≤ ·)) r) := by
  have S0 := Lib.hid (St.start (G := (W.heap.size ≤ ·)) (V := []) h (Nat.not_le.2 h.lt) (fun k hk => hk) (fun _ hx => by cases hx))
  clear h
  go_enter Tryd.func80, Tryd.ntmps80
  go_wp2_with fail
  have S1 := Lib.hid (S0.out.allocAt (W.heap.size) (by simp [World.setCell]) 28 (ndCells 0 0 ⟨#[]⟩ 0 ⟨#[]⟩ ⟨#[]⟩ (.slice none 0 0) (.slice none 0 0)))
  clear S0
  refine (place_calls _ S1.out.row).mono ?_
  rintro _ w2 ⟨rfl, hd⟩
  have S3 := Lib.hid (S1.out.drawn hd)
  clear S1
  clear hd
  have c1_ := S3.out.row.c1
  have f1_ := S3.out.row.fr 1
  have hw1_ := S3.out.wrapU
  go_wp2_with fail
  clear c1_ f1_ hw1_
  have S4 := Lib.hid (S3.out.step hi)
  clear S3
  unfold leaveZ at hr
  rcases PR.cases hr with ⟨x6, hz, rfl⟩ | ⟨u7, i8, o9, hz, hr'⟩
  · refine (name_calls _ 3 (by decide) _ hz S4.out.row).mono ?_
    rintro _ _ ⟨rfl, hk⟩
    exact ⟨rfl, S4.out.dies hk⟩
  replace hr := hr'
  clear hr'
  refine (name_calls _ 3 (by decide) _ hz S4.out.row).mono ?_
  rintro _ w5 ⟨⟨_, rfl, rfl⟩, hrw, hk⟩
  obtain ⟨rfl, rfl, rfl, hkd⟩ := nameZ_ok hz
  have S10 := Lib.hid (S4.out.call hrw hk)
  clear S4
  clear hrw hk hz
  cases hr
  have S11 := Lib.hid (S10.out.plain 35 (placeZ ws en i) (saidZ ws (i + 1)) 0 ⟨#[]⟩ ⟨#[]⟩)
  clear S10
  go_wp2_with (first
    | (refine st_node rfl _ _ rfl _ _ rfl rfl _ (S11.out.blk _ _ _ (.head _)) rfl rfl (by first | (simp [ndCells, Value.oneCell']; done) | exact nd_one rfl hok.one | exact nd_one hok.one rfl) ?_))
  have S12 := Lib.hid (S11.out.setRow 0 _ _ _ (ndCells 35 (placeZ ws en i) (saidZ ws (i + 1)) 0 ⟨#[]⟩ ⟨#[]⟩ (.slice none 0 0) (.slice none 0 0)) rfl)
  clear S11
  refine ret_node rfl _ _ rfl (S12.out.blk _ _ _ (.head _)) rfl rfl ?_
  first | exact S12.out.done | (have e := S12.out.done; simp only [Int.add_sub_cancel] at e; exact e) | (simp only [Int.add_sub_cancel]; exact S12.out.done)

end Go.Proofs.YthlmhnlfcnpocaaDoor.U

namespace Go.Proofs.YthlmhnlfcnpocaaDoor.U
open Go.RowKit Go.Proofs.YthlmhnlfcnpocaaDoorW.PrintWords
set_option linter.unusedSimpArgs false
set_option linter.unusedVariables false

set_option maxHeartbeats 8000000 in
set_option maxRecDepth 100000 in
theorem self_calls {p : Nat} {vw : Value} {ws : List Tok} {en : Int} {rc : PC → Nat → Int → PR SN} (RC : RcOk p vw ws en rc) {i : Nat} {o : Int} (W : World) (hi : i < ws.length) (k : Nat) (hkb : k ≤ 8589934592) (r : Except (Int × Int) (SN × Nat × Int)) (hr : selfZ ws en rc k i o = some r) (h : Rw p vw ws en i o W) :
    Calls Tryd.prog 70 #[.pointer (some ⟨p, 0, none⟩)] W (Ends p vw ws en W (IsN (W.heap.size ≤ ·)) r) := by
  have S0 := Lib.hid (St.start (G := (W.heap.size ≤ ·)) (V := []) h (Nat.not_le.2 h.lt) (fun k hk => hk) (fun _ hx => by cases hx))
  clear h
  go_enter Tryd.func70, Tryd.ntmps70
  go_wp2_with fail
  have S1 := Lib.hid (S0.out.allocAt (W.heap.size) (by simp [World.setCell]) 28 (ndCells 0 0 ⟨#[]⟩ 0 ⟨#[]⟩ ⟨#[]⟩ (.slice none 0 0) (.slice none 0 0)))
  clear S0
  refine (place_calls _ S1.out.row).mono ?_
  rintro _ w2 ⟨rfl, hd⟩
  have S3 := Lib.hid (S1.out.drawn hd)
  clear S1
  clear hd
  have c1_ := S3.out.row.c1
  have f1_ := S3.out.row.fr 1
  have hw1_ := S3.out.wrapU
  go_wp2_with fail
  clear c1_ f1_ hw1_
  have S4 := Lib.hid (S3.out.step hi)
  clear S3
  have S5 := Lib.hid (S4.out.allocAt (w2.heap.size) (by simp [World.setCell]) 28 (ndCells 1 (placeZ ws en i) ⟨#[]⟩ 0 ⟨#[]⟩ ⟨#[]⟩ (.slice none 0 0) (.slice none 0 0)))
  clear S4
  refine (kind_calls _ S5.out.row).mono ?_
  rintro _ w6 ⟨rfl, hd⟩
  have S7 := Lib.hid (S5.out.drawn hd)
  clear S5
  clear hd
  unfold selfZ at hr
  by_cases hk : kindZ ws (i + 1) = 6 ∨ kindZ ws (i + 1) = 7
  · rw [if_pos hk] at hr
    have hk' : kindZ ws (i + 1) = 6 ∨ (¬ kindZ ws (i + 1) = 6 ∧ kindZ ws (i + 1) = 7) := by omega
    clear hk
    rcases hk' with hk | ⟨hk1, hk⟩
    all_goals
      rw [hk]
      go_wp2_with fail
      refine region_T (fun w => w.heap[w2.heap.size]? = some (.cells (ndCells 1 (placeZ ws en i) ⟨#[]⟩ 0 ⟨#[]⟩ ⟨#[]⟩ (.slice none 0 0) (.slice none 0 0)) 28 (0, 0))) (fun j => j == 6) 7 rfl (by kernel_rfl) ?_
      have S8 := Lib.hid (S7.out.drawn (w' := World.drew _) ⟨1, rfl⟩)
      refine anyT_take (i := 0) (oi := _) (v := (.int .i64 (placeZ ws en i))) (d := (some 31)) rfl rfl (by kernel_rfl) (by kernel_rfl) rfl (by kernel_rfl) (by kernel_rfl) (fun _ _ _ h => h) (Or.inl ⟨by rfl, fun _ _ => rfl⟩) (S8.out.blk _ _ _ (.head _)) ?_
      try simp only [Act.put, List.setIfInBounds_toArray, List.set_cons_zero, List.set_cons_succ]
      refine anyT_take (i := 1) (oi := _) (v := (.agg (ndCells 1 (placeZ ws en i) ⟨#[]⟩ 0 ⟨#[]⟩ ⟨#[]⟩ (.slice none 0 0) (.slice none 0 0)))) (d := (some 32)) rfl rfl (by kernel_rfl) (by kernel_rfl) rfl (by kernel_rfl) (by kernel_rfl) (fun _ _ _ h => h) (yl_node _ rfl (by rfl) _ rfl _ (fun _ h => h) rfl) (S8.out.blk _ _ _ (.head _)) ?_
      try simp only [Act.put, List.setIfInBounds_toArray, List.set_cons_zero, List.set_cons_succ]
      refine anyT_take (i := 2) (oi := _) (v := (.pointer (some ⟨p, 0, none⟩))) (d := (some 33)) rfl rfl (by kernel_rfl) (by kernel_rfl) rfl (by kernel_rfl) (by kernel_rfl) (fun _ _ _ h => h) (Or.inl ⟨by rfl, fun _ _ => rfl⟩) (S8.out.blk _ _ _ (.head _)) ?_
      try simp only [Act.put, List.setIfInBounds_toArray, List.set_cons_zero, List.set_cons_succ]
      refine anyT_step (i := 3) (oi := _) rfl (by kernel_rfl) (by rfl) (fun K hK => ?_)
      go_simp
      rcases PR.cases hr with ⟨x12, hz, rfl⟩ | ⟨n9, i10, o11, hz, hr'⟩
      · refine (text_calls RC _ k hkb _ hz S8.out.row).mono ?_
        rintro _ _ ⟨rfl, hk⟩
        exact ⟨rfl, S8.out.dies hk⟩
      replace hr := hr'
      clear hr'
      have ho := (text_even RC.even _ _ _ _ _ _ hz).symm
      subst ho
      refine (text_calls RC _ k hkb _ hz S8.out.row).mono ?_
      rintro _ w14 ⟨⟨_, rfl, hn⟩, hrw, hk⟩
      obtain ⟨c13, rfl, S15⟩ := S8.out.made hrw hk hn
      replace S15 := Lib.hid S15
      have hszc13 := S15.out.fst.size
      have honec13 := S15.out.fst.one
      clear hrw hk hn
      clear S8
      clear hz
      refine hK.out _ _ (fun h => (S15.out.blk _ _ _ (.head _))) ?_
      clear hK K
      try simp only [Act.put, List.setIfInBounds_toArray, List.set_cons_zero, List.set_cons_succ]
      have S16 := Lib.hid (S15.out.plain 1 (placeZ ws en i) ⟨#[]⟩ 0 ⟨#[]⟩ ⟨#[]⟩)
      clear S15
      refine anyT_step (i := 4) (oi := _) rfl (by kernel_rfl) (by rfl) (fun K hK => ?_)
      refine wp_bs_nodes 2 _ rfl [(ndCells 1 (placeZ ws en i) ⟨#[]⟩ 0 ⟨#[]⟩ ⟨#[]⟩ (.slice none 0 0) (.slice none 0 0)), c13] rfl (by intro c hc; simp only [List.mem_cons, List.not_mem_nil, or_false] at hc; rcases hc with rfl | rfl <;> first | assumption | rfl) rfl (by decide) (by decide) ?_
      intro cur hcur
      have S17 := Lib.hid (S16.out.build 7 (placeZ ws en i) ⟨#[]⟩ [(ndCells 1 (placeZ ws en i) ⟨#[]⟩ 0 ⟨#[]⟩ ⟨#[]⟩ (.slice none 0 0) (.slice none 0 0)), c13] [(SN.mk 1 (placeZ ws en i) ⟨#[]⟩ 0 ⟨#[]⟩ ⟨#[]⟩ [] []), n9] (.cons (S16.out.nds ((ndCells 1 (placeZ ws en i) ⟨#[]⟩ 0 ⟨#[]⟩ ⟨#[]⟩ (.slice none 0 0) (.slice none 0 0)), (SN.mk 1 (placeZ ws en i) ⟨#[]⟩ 0 ⟨#[]⟩ ⟨#[]⟩ [] [])) (.head _)) (.cons (S16.out.nds (c13, n9) (.tail _ (.head _))) .nil)) (by simp) (by simp) cur hcur)
      clear S16
      refine hK.out (Act.put _ (some 35) _) _ (fun h => (S17.out.blk _ _ _ (.head _))) ?_
      clear hK K
      try simp only [Act.put, List.setIfInBounds_toArray, List.set_cons_zero, List.set_cons_succ]
      refine anyT_step (i := 5) (oi := _) rfl (by kernel_rfl) (by rfl) (fun K hK => ?_)
      go_simp
      refine hK.out _ _ (fun h => (S17.out.blk _ _ _ (.head _))) ?_
      clear hK K
      try simp only [Act.put, List.setIfInBounds_toArray, List.set_cons_zero, List.set_cons_succ]
      refine anyT_step (i := 6) (oi := _) rfl (by kernel_rfl) (by rfl) (fun K hK => ?_)
      refine wp_st_node _ _ rfl _ _ rfl rfl _ (S17.out.blk _ _ _ (.tail _ (.head _))) rfl rfl (by first | (simp [ndCells, Value.oneCell']; done) | exact nd_one rfl hok.one | exact nd_one hok.one rfl) ?_
      refine hK.out (Act.put _ none _) _ (fun h => by cases h) ?_
      clear hK K
      try simp only [Act.put, List.setIfInBounds_toArray, List.set_cons_zero, List.set_cons_succ]
      have S18 := Lib.hid (S17.out.setRow 1 _ _ _ (ndCells 7 (placeZ ws en i) ⟨#[]⟩ 0 ⟨#[]⟩ ⟨#[]⟩ (.slice none 0 0) (.slice (some ⟨w14.heap.size, 0, none⟩) 2 2)) rfl)
      clear S17
      refine anyT_done (by kernel_rfl) ?_ _
      cases hr
      go_wp2_with fail
      refine ret_node rfl _ _ rfl (S18.out.blk _ _ _ (.tail _ (.head _))) rfl rfl ?_
      first | exact S18.out.done | (have e := S18.out.done; simp only [Int.add_sub_cancel] at e; exact e) | (simp only [Int.add_sub_cancel]; exact S18.out.done)
  · rw [if_neg hk] at hr
    cases hr
    have hk1 : (kindZ ws (i + 1) == 6) = false := by simpa using fun e => hk (Or.inl e)
    have hk2 : (kindZ ws (i + 1) == 7) = false := by simpa using fun e => hk (Or.inr e)
    clear hk
    have S19 := Lib.hid (S7.out.plain 1 (placeZ ws en i) ⟨#[]⟩ 0 ⟨#[]⟩ ⟨#[]⟩)
    generalize kindZ ws (i + 1) = kd at *
    go_wp2_with (first
      | (refine ld_node rfl _ rfl _ rfl _ (S19.out.blk _ _ _ (.head _)) rfl ?_)
      | (refine st_node rfl _ _ rfl _ _ rfl rfl _ (S19.out.blk _ _ _ (.tail _ (.head _))) rfl rfl (by first | (simp [ndCells, Value.oneCell']; done) | exact nd_one rfl hok.one | exact nd_one hok.one rfl) ?_))
    have S20 := Lib.hid (S19.out.setRow 1 _ _ _ (ndCells 1 (placeZ ws en i) ⟨#[]⟩ 0 ⟨#[]⟩ ⟨#[]⟩ (.slice none 0 0) (.slice none 0 0)) rfl)
    clear S19
    refine ret_node rfl _ _ rfl (S20.out.blk _ _ _ (.tail _ (.head _))) rfl rfl ?_
    first | exact S20.out.done | (have e := S20.out.done; simp only [Int.add_sub_cancel] at e; exact e) | (simp only [Int.add_sub_cancel]; exact S20.out.done)

end Go.Proofs.YthlmhnlfcnpocaaDoor.U

namespace Go.Proofs.YthlmhnlfcnpocaaDoor.U
open Go.RowKit Go.Proofs.YthlmhnlfcnpocaaDoorW.PrintWords
set_option linter.unusedSimpArgs false
set_option linter.unusedVariables false

set_option maxHeartbeats 8000000 in
set_option maxRecDepth 100000 in
theorem entry_calls {p : Nat} {vw : Value} {ws : List Tok} {en : Int} {rc : PC → Nat → Int → PR SN} (RC : RcOk p vw ws en rc) {i : Nat} {o : Int} (W : World) (k : Nat) (hkb : k ≤ 8589934592) (r : Except (Int × Int) (List SN × Nat × Int)) (hr : entryZ ws en rc k i o = some r) (h : Rw p vw ws en i o W) :
    Calls Tryd.prog 86 #[.pointer (some ⟨p, 0, none⟩)] W (Ends p vw ws en W (IsE W.heap.size) r) := by
  have S0 := Lib.hid (St.start (G := (W.heap.size ≤ ·)) (V := []) h (Nat.not_le.2 h.lt) (fun k hk => hk) (fun _ hx => by cases hx))
  clear h
  go_enter Tryd.func86, Tryd.ntmps86
  go_wp2_with fail
  refine (place_calls _ S0.out.row).mono ?_
  rintro _ w1 ⟨rfl, hd⟩
  have S2 := Lib.hid (S0.out.drawn hd)
  clear S0
  clear hd
  go_wp2_with fail
  have S3 := Lib.hid (S2.out.allocAt (w1.heap.size) (by simp [World.setCell]) 28 (ndCells 0 0 ⟨#[]⟩ 0 ⟨#[]⟩ ⟨#[]⟩ (.slice none 0 0) (.slice none 0 0)))
  clear S2
  have S4 := Lib.hid (S3.out.allocAt (w1.heap.size + 1) (by simp [World.setCell]) 28 (ndCells 0 0 ⟨#[]⟩ 0 ⟨#[]⟩ ⟨#[]⟩ (.slice none 0 0) (.slice none 0 0)))
  clear S3
  refine (kind_calls _ S4.out.row).mono ?_
  rintro _ w5 ⟨rfl, hd⟩
  have S6 := Lib.hid (S4.out.drawn hd)
  clear S4
  clear hd
  unfold entryZ at hr
  simp only at hr
  by_cases h126 : kindZ ws i = 1 ∨ kindZ ws i = 2 ∨ kindZ ws i = 6
  · rw [if_pos h126] at hr
    rcases h126 with hk | hk | hk
    ·
      rw [hk]
      go_wp2_with fail
      have hk0 := hk
      refine (name_calls _ 1 (by decide) _ (nameZ_yes hk) S6.out.row).mono ?_
      rintro _ w7 ⟨⟨_, rfl, rfl⟩, hrw, hk⟩
      have S8 := Lib.hid (S6.out.call hrw hk)
      clear hrw hk
      go_wp2_with fail
      refine (txt_calls _ (saidZ ws i) (placeZ ws en i) S8.out.row).mono ?_
      rintro _ w9 ⟨rfl, hrw, hk⟩
      have S10 := Lib.hid (S8.out.call hrw hk)
      clear S8
      clear hrw hk
      have S11 := Lib.hid (S10.out.plain 2 (placeZ ws en i) ⟨#[]⟩ 4 ⟨#[]⟩ (saidZ ws i))
      clear S10
      have S12 := Lib.hid (S11.out.plain 1 (placeZ ws en i) ⟨#[]⟩ 0 ⟨#[]⟩ ⟨#[]⟩)
      clear S11
      go_wp2_with (first
        | (refine st_nodeO rfl _ _ rfl (w1.heap.size) (ndCells 2 (placeZ ws en i) ⟨#[]⟩ 4 ⟨#[]⟩ (saidZ ws i) (.slice none 0 0) (.slice none 0 0)) rfl rfl _ (S12.out.blk _ _ _ (.tail _ (.head _))) rfl rfl (by first | (simp [ndCells, Value.oneCell']; done) | exact nd_one rfl hok.one | exact nd_one hok.one rfl) ?_; intro w13 hwN; have S14 := Lib.hid (S12.out.setRowO 1 _ _ _ (ndCells 2 (placeZ ws en i) ⟨#[]⟩ 4 ⟨#[]⟩ (saidZ ws i) (.slice none 0 0) (.slice none 0 0)) rfl hwN); clear hwN)
        | (refine ld_node rfl _ rfl _ rfl _ (S14.out.blk _ _ _ (.tail _ (.head _))) rfl ?_)
        | (refine bs_nodes rfl 2 _ rfl [(ndCells 1 (placeZ ws en i) ⟨#[]⟩ 0 ⟨#[]⟩ ⟨#[]⟩ (.slice none 0 0) (.slice none 0 0)), (ndCells 2 (placeZ ws en i) ⟨#[]⟩ 4 ⟨#[]⟩ (saidZ ws i) (.slice none 0 0) (.slice none 0 0))] rfl (by intro c hc; simp only [List.mem_cons, List.not_mem_nil, or_false] at hc; rcases hc with rfl | rfl <;> first | assumption | rfl) rfl (by decide) (by decide) ?_; intro cur hcur; have S15 := Lib.hid (S14.out.build 7 (placeZ ws en i) ⟨#[]⟩ [(ndCells 1 (placeZ ws en i) ⟨#[]⟩ 0 ⟨#[]⟩ ⟨#[]⟩ (.slice none 0 0) (.slice none 0 0)), (ndCells 2 (placeZ ws en i) ⟨#[]⟩ 4 ⟨#[]⟩ (saidZ ws i) (.slice none 0 0) (.slice none 0 0))] [(SN.mk 1 (placeZ ws en i) ⟨#[]⟩ 0 ⟨#[]⟩ ⟨#[]⟩ [] []), (SN.mk 2 (placeZ ws en i) ⟨#[]⟩ 4 ⟨#[]⟩ (saidZ ws i) [] [])] (.cons (S14.out.nds ((ndCells 1 (placeZ ws en i) ⟨#[]⟩ 0 ⟨#[]⟩ ⟨#[]⟩ (.slice none 0 0) (.slice none 0 0)), (SN.mk 1 (placeZ ws en i) ⟨#[]⟩ 0 ⟨#[]⟩ ⟨#[]⟩ [] [])) (.head _)) (.cons (S14.out.nds ((ndCells 2 (placeZ ws en i) ⟨#[]⟩ 4 ⟨#[]⟩ (saidZ ws i) (.slice none 0 0) (.slice none 0 0)), (SN.mk 2 (placeZ ws en i) ⟨#[]⟩ 4 ⟨#[]⟩ (saidZ ws i) [] [])) (.tail _ (.head _))) .nil)) (by simp) (by simp) cur hcur))
        | (refine st_nodeO rfl _ _ rfl (w1.heap.size + 1) (ndCells 7 (placeZ ws en i) ⟨#[]⟩ 0 ⟨#[]⟩ ⟨#[]⟩ (.slice none 0 0) (.slice (some ⟨w13.heap.size, 0, none⟩) 2 2)) rfl rfl _ (S15.out.blk _ _ _ (.head _)) rfl rfl (by first | (simp [ndCells, Value.oneCell']; done) | exact nd_one rfl hok.one | exact nd_one hok.one rfl) ?_; intro w16 hwN; have S17 := Lib.hid (S15.out.setRowO 0 _ _ _ (ndCells 7 (placeZ ws en i) ⟨#[]⟩ 0 ⟨#[]⟩ ⟨#[]⟩ (.slice none 0 0) (.slice (some ⟨w13.heap.size, 0, none⟩) 2 2)) rfl hwN); clear hwN))
      clear hcur
      have S18 := Lib.hid (S17.out.waste (.cells #[.string ⟨#[58]⟩] 9))
      clear S17
      refine (is_calls _ _ ⟨#[58]⟩ _ (cell_top _ _ _ _ (by simp)) S18.out.row).mono ?_
      rintro _ w19 ⟨rfl, hd⟩
      have S21 := Lib.hid (S18.out.drawn hd)
      clear S18
      clear hd
      cases hb20 : isZ ws (i + 1) ⟨#[58]⟩ with
      | true =>
        rw [if_pos hb20] at hr
        go_wp2_with fail
        refine (want_calls _ ⟨#[58]⟩ _ (wantZ_yes hb20) S21.out.row).mono ?_
        rintro _ w22 ⟨⟨_, rfl, rfl⟩, hrw, hk⟩
        have S23 := Lib.hid (S21.out.call hrw hk)
        clear hrw hk
        unfold valueZ at hr
        rw [andThen_assoc] at hr
        go_wp2_with fail
        refine region_T (fun w => w.heap[w1.heap.size]? = some (.cells (ndCells 2 (placeZ ws en i) ⟨#[]⟩ 4 ⟨#[]⟩ (saidZ ws i) (.slice none 0 0) (.slice none 0 0)) 28 (0, 0))) (fun j => j == 6) 7 rfl (by kernel_rfl) ?_
        have S24 := Lib.hid (S23.out.drawn (w' := World.drew _) ⟨1, rfl⟩)
        clear S23
        refine anyT_take (i := 0) (oi := _) (v := (.agg (ndCells 2 (placeZ ws en i) ⟨#[]⟩ 4 ⟨#[]⟩ (saidZ ws i) (.slice none 0 0) (.slice none 0 0)))) (d := (some 84)) rfl rfl (by kernel_rfl) (by kernel_rfl) rfl (by kernel_rfl) (by kernel_rfl) (fun _ _ _ h => h) (yl_node _ rfl (by rfl) _ rfl _ (fun _ h => h) rfl) (S24.out.blk _ _ _ (.tail _ (.head _))) ?_
        try simp only [Act.put, List.setIfInBounds_toArray, List.set_cons_zero, List.set_cons_succ]
        refine anyT_take (i := 1) (oi := _) (v := (.pointer (some ⟨p, 0, none⟩))) (d := (some 85)) rfl rfl (by kernel_rfl) (by kernel_rfl) rfl (by kernel_rfl) (by kernel_rfl) (fun _ _ _ h => h) (Or.inl ⟨by rfl, fun _ _ => rfl⟩) (S24.out.blk _ _ _ (.tail _ (.head _))) ?_
        try simp only [Act.put, List.setIfInBounds_toArray, List.set_cons_zero, List.set_cons_succ]
        refine anyT_take (i := 2) (oi := _) (v := (.pointer (some ⟨p, 0, none⟩))) (d := (some 86)) rfl rfl (by kernel_rfl) (by kernel_rfl) rfl (by kernel_rfl) (by kernel_rfl) (fun _ _ _ h => h) (Or.inl ⟨by rfl, fun _ _ => rfl⟩) (S24.out.blk _ _ _ (.tail _ (.head _))) ?_
        try simp only [Act.put, List.setIfInBounds_toArray, List.set_cons_zero, List.set_cons_succ]
        refine anyT_step (i := 3) (oi := _) rfl (by kernel_rfl) (by rfl) (fun K hK => ?_)
        go_simp
        rcases PR.cases hr with ⟨x28, hz, rfl⟩ | ⟨n25, i26, o27, hz, hr'⟩
        · refine (RC.unary _ _ _ _ hz S24.out.row).mono ?_
          rintro _ _ ⟨rfl, hk⟩
          exact ⟨rfl, S24.out.dies hk⟩
        replace hr := hr'
        clear hr'
        have ho := (RC.even _ _ _ _ _ _ hz).symm
        subst ho
        refine (RC.unary _ _ _ _ hz S24.out.row).mono ?_
        rintro _ w30 ⟨⟨_, rfl, hn⟩, hrw, hk⟩
        obtain ⟨c29, rfl, S31⟩ := S24.out.made hrw hk hn
        replace S31 := Lib.hid S31
        have hszc29 := S31.out.fst.size
        have honec29 := S31.out.fst.one
        clear hrw hk hn
        clear S24
        clear hz
        refine hK.out _ _ (fun h => (S31.out.blk _ _ _ (.tail _ (.head _)))) ?_
        clear hK K
        try simp only [Act.put, List.setIfInBounds_toArray, List.set_cons_zero, List.set_cons_succ]
        refine anyT_step (i := 4) (oi := _) rfl (by kernel_rfl) (by rfl) (fun K hK => ?_)
        go_simp
        rcases PR.cases hr with ⟨x35, hz, rfl⟩ | ⟨n32, i33, o34, hz, hr'⟩
        · refine (RC.climb _ _ _ _ _ _ _ _ hz S31.out.row (S31.out.nds (c29, n25) (.head _)) (fun e => S31.out.gp p S31.out.mp e.1)).mono ?_
          rintro _ _ ⟨rfl, hk⟩
          exact ⟨rfl, S31.out.dies hk⟩
        replace hr := hr'
        clear hr'
        have ho := (RC.even _ _ _ _ _ _ hz).symm
        subst ho
        refine (RC.climb _ _ _ _ _ _ _ _ hz S31.out.row (S31.out.nds (c29, n25) (.head _)) (fun e => S31.out.gp p S31.out.mp e.1)).mono ?_
        rintro _ w37 ⟨⟨_, rfl, hn⟩, hrw, hk⟩
        obtain ⟨c36, rfl, S38⟩ := S31.out.madeF hrw hk hn
        replace S38 := Lib.hid S38
        have hszc36 := S38.out.fst.size
        have honec36 := S38.out.fst.one
        clear hrw hk hn
        clear S31
        clear hz
        refine hK.out _ _ (fun h => (S38.out.blk _ _ _ (.tail _ (.head _)))) ?_
        clear hK K
        try simp only [Act.put, List.setIfInBounds_toArray, List.set_cons_zero, List.set_cons_succ]
        refine anyT_step (i := 5) (oi := _) rfl (by kernel_rfl) (by rfl) (fun K hK => ?_)
        refine wp_bs_nodes 2 _ rfl [(ndCells 2 (placeZ ws en i) ⟨#[]⟩ 4 ⟨#[]⟩ (saidZ ws i) (.slice none 0 0) (.slice none 0 0)), c36] rfl (by intro c hc; simp only [List.mem_cons, List.not_mem_nil, or_false] at hc; rcases hc with rfl | rfl <;> first | assumption | rfl) rfl (by decide) (by decide) ?_
        intro cur hcur
        have hE := Lib.hid (S38.out.pair (NdL.cons (S38.out.nds ((ndCells 2 (placeZ ws en i) ⟨#[]⟩ 4 ⟨#[]⟩ (saidZ ws i) (.slice none 0 0) (.slice none 0 0)), (SN.mk 2 (placeZ ws en i) ⟨#[]⟩ 4 ⟨#[]⟩ (saidZ ws i) [] [])) (.tail _ (.tail _ (.tail _ (.tail _ (.head _)))))) (NdL.cons (S38.out.nds (c36, n32) (.head _)) NdL.nil)) rfl hcur)
        have S39 := Lib.hid (S38.out.waste (.cells cur 28))
        clear S38
        refine hK.out (Act.put _ (some 89) _) _ (fun h => (S39.out.blk _ _ _ (.tail _ (.head _)))) ?_
        clear hK K
        try simp only [Act.put, List.setIfInBounds_toArray, List.set_cons_zero, List.set_cons_succ]
        refine anyT_step (i := 6) (oi := _) rfl (by kernel_rfl) (by rfl) (fun K hK => ?_)
        go_simp
        refine hK.out _ _ (fun h => by cases h) ?_
        clear hK K
        try simp only [Act.put, List.setIfInBounds_toArray, List.set_cons_zero, List.set_cons_succ]
        refine anyT_done (by kernel_rfl) ?_ _
        cases hr
        go_wp2_with fail
        refine bodyPost_ret (results_tmp rfl _ _ _) rfl ?_
        exact hE.out
      | false =>
        rw [if_neg (by rw [hb20]; decide)] at hr
        cases hr
        go_wp2_with (first
          | (refine ld_node rfl _ rfl _ rfl _ (S21.out.blk _ _ _ (.tail _ (.head _))) rfl ?_)
          | (refine ld_node rfl _ rfl _ rfl _ (S21.out.blk _ _ _ (.head _)) rfl ?_)
          | (refine bs_nodes rfl 2 _ rfl [(ndCells 2 (placeZ ws en i) ⟨#[]⟩ 4 ⟨#[]⟩ (saidZ ws i) (.slice none 0 0) (.slice none 0 0)), (ndCells 7 (placeZ ws en i) ⟨#[]⟩ 0 ⟨#[]⟩ ⟨#[]⟩ (.slice none 0 0) (.slice (some ⟨w13.heap.size, 0, none⟩) 2 2))] rfl (by intro c hc; simp only [List.mem_cons, List.not_mem_nil, or_false] at hc; rcases hc with rfl | rfl <;> first | assumption | rfl) rfl (by decide) (by decide) ?_; intro cur hcur))
        refine bodyPost_ret (results_tmp rfl _ _ _) rfl ?_
        exact S21.out.pair (NdL.cons (S21.out.nds ((ndCells 2 (placeZ ws en i) ⟨#[]⟩ 4 ⟨#[]⟩ (saidZ ws i) (.slice none 0 0) (.slice none 0 0)), (SN.mk 2 (placeZ ws en i) ⟨#[]⟩ 4 ⟨#[]⟩ (saidZ ws i) [] [])) (.tail _ (.tail _ (.head _)))) (NdL.cons (S21.out.nds ((ndCells 7 (placeZ ws en i) ⟨#[]⟩ 0 ⟨#[]⟩ ⟨#[]⟩ (.slice none 0 0) (.slice (some ⟨w13.heap.size, 0, none⟩) 2 2)), (SN.mk 7 (placeZ ws en i) ⟨#[]⟩ 0 ⟨#[]⟩ ⟨#[]⟩ [] [(SN.mk 1 (placeZ ws en i) ⟨#[]⟩ 0 ⟨#[]⟩ ⟨#[]⟩ [] []), (SN.mk 2 (placeZ ws en i) ⟨#[]⟩ 4 ⟨#[]⟩ (saidZ ws i) [] [])])) (.head _)) NdL.nil)) rfl hcur
    ·
      rw [hk]
      go_wp2_with fail
      have hk0 := hk
      refine (name_calls _ 2 (by decide) _ (nameZ_yes hk) S6.out.row).mono ?_
      rintro _ w40 ⟨⟨_, rfl, rfl⟩, hrw, hk⟩
      have S41 := Lib.hid (S6.out.call hrw hk)
      clear hrw hk
      go_wp2_with fail
      refine (txt_calls _ (saidZ ws i) (placeZ ws en i) S41.out.row).mono ?_
      rintro _ w42 ⟨rfl, hrw, hk⟩
      have S43 := Lib.hid (S41.out.call hrw hk)
      clear S41
      clear hrw hk
      have S44 := Lib.hid (S43.out.plain 2 (placeZ ws en i) ⟨#[]⟩ 4 ⟨#[]⟩ (saidZ ws i))
      clear S43
      have S45 := Lib.hid (S44.out.plain 1 (placeZ ws en i) ⟨#[]⟩ 0 ⟨#[]⟩ ⟨#[]⟩)
      clear S44
      go_wp2_with (first
        | (refine st_nodeO rfl _ _ rfl (w1.heap.size) (ndCells 2 (placeZ ws en i) ⟨#[]⟩ 4 ⟨#[]⟩ (saidZ ws i) (.slice none 0 0) (.slice none 0 0)) rfl rfl _ (S45.out.blk _ _ _ (.tail _ (.head _))) rfl rfl (by first | (simp [ndCells, Value.oneCell']; done) | exact nd_one rfl hok.one | exact nd_one hok.one rfl) ?_; intro w46 hwN; have S47 := Lib.hid (S45.out.setRowO 1 _ _ _ (ndCells 2 (placeZ ws en i) ⟨#[]⟩ 4 ⟨#[]⟩ (saidZ ws i) (.slice none 0 0) (.slice none 0 0)) rfl hwN); clear hwN)
        | (refine ld_node rfl _ rfl _ rfl _ (S47.out.blk _ _ _ (.tail _ (.head _))) rfl ?_)
        | (refine bs_nodes rfl 2 _ rfl [(ndCells 1 (placeZ ws en i) ⟨#[]⟩ 0 ⟨#[]⟩ ⟨#[]⟩ (.slice none 0 0) (.slice none 0 0)), (ndCells 2 (placeZ ws en i) ⟨#[]⟩ 4 ⟨#[]⟩ (saidZ ws i) (.slice none 0 0) (.slice none 0 0))] rfl (by intro c hc; simp only [List.mem_cons, List.not_mem_nil, or_false] at hc; rcases hc with rfl | rfl <;> first | assumption | rfl) rfl (by decide) (by decide) ?_; intro cur hcur; have S48 := Lib.hid (S47.out.build 7 (placeZ ws en i) ⟨#[]⟩ [(ndCells 1 (placeZ ws en i) ⟨#[]⟩ 0 ⟨#[]⟩ ⟨#[]⟩ (.slice none 0 0) (.slice none 0 0)), (ndCells 2 (placeZ ws en i) ⟨#[]⟩ 4 ⟨#[]⟩ (saidZ ws i) (.slice none 0 0) (.slice none 0 0))] [(SN.mk 1 (placeZ ws en i) ⟨#[]⟩ 0 ⟨#[]⟩ ⟨#[]⟩ [] []), (SN.mk 2 (placeZ ws en i) ⟨#[]⟩ 4 ⟨#[]⟩ (saidZ ws i) [] [])] (.cons (S47.out.nds ((ndCells 1 (placeZ ws en i) ⟨#[]⟩ 0 ⟨#[]⟩ ⟨#[]⟩ (.slice none 0 0) (.slice none 0 0)), (SN.mk 1 (placeZ ws en i) ⟨#[]⟩ 0 ⟨#[]⟩ ⟨#[]⟩ [] [])) (.head _)) (.cons (S47.out.nds ((ndCells 2 (placeZ ws en i) ⟨#[]⟩ 4 ⟨#[]⟩ (saidZ ws i) (.slice none 0 0) (.slice none 0 0)), (SN.mk 2 (placeZ ws en i) ⟨#[]⟩ 4 ⟨#[]⟩ (saidZ ws i) [] [])) (.tail _ (.head _))) .nil)) (by simp) (by simp) cur hcur))
        | (refine st_nodeO rfl _ _ rfl (w1.heap.size + 1) (ndCells 7 (placeZ ws en i) ⟨#[]⟩ 0 ⟨#[]⟩ ⟨#[]⟩ (.slice none 0 0) (.slice (some ⟨w46.heap.size, 0, none⟩) 2 2)) rfl rfl _ (S48.out.blk _ _ _ (.head _)) rfl rfl (by first | (simp [ndCells, Value.oneCell']; done) | exact nd_one rfl hok.one | exact nd_one hok.one rfl) ?_; intro w49 hwN; have S50 := Lib.hid (S48.out.setRowO 0 _ _ _ (ndCells 7 (placeZ ws en i) ⟨#[]⟩ 0 ⟨#[]⟩ ⟨#[]⟩ (.slice none 0 0) (.slice (some ⟨w46.heap.size, 0, none⟩) 2 2)) rfl hwN); clear hwN))
      clear hcur
      have S51 := Lib.hid (S50.out.waste (.cells #[.string ⟨#[58]⟩] 9))
      clear S50
      refine (is_calls _ _ ⟨#[58]⟩ _ (cell_top _ _ _ _ (by simp)) S51.out.row).mono ?_
      rintro _ w52 ⟨rfl, hd⟩
      have S54 := Lib.hid (S51.out.drawn hd)
      clear S51
      clear hd
      cases hb53 : isZ ws (i + 1) ⟨#[58]⟩ with
      | true =>
        rw [if_pos hb53] at hr
        go_wp2_with fail
        refine (want_calls _ ⟨#[58]⟩ _ (wantZ_yes hb53) S54.out.row).mono ?_
        rintro _ w55 ⟨⟨_, rfl, rfl⟩, hrw, hk⟩
        have S56 := Lib.hid (S54.out.call hrw hk)
        clear hrw hk
        unfold valueZ at hr
        rw [andThen_assoc] at hr
        go_wp2_with fail
        refine region_T (fun w => w.heap[w1.heap.size]? = some (.cells (ndCells 2 (placeZ ws en i) ⟨#[]⟩ 4 ⟨#[]⟩ (saidZ ws i) (.slice none 0 0) (.slice none 0 0)) 28 (0, 0))) (fun j => j == 6) 7 rfl (by kernel_rfl) ?_
        have S57 := Lib.hid (S56.out.drawn (w' := World.drew _) ⟨1, rfl⟩)
        clear S56
        refine anyT_take (i := 0) (oi := _) (v := (.agg (ndCells 2 (placeZ ws en i) ⟨#[]⟩ 4 ⟨#[]⟩ (saidZ ws i) (.slice none 0 0) (.slice none 0 0)))) (d := (some 84)) rfl rfl (by kernel_rfl) (by kernel_rfl) rfl (by kernel_rfl) (by kernel_rfl) (fun _ _ _ h => h) (yl_node _ rfl (by rfl) _ rfl _ (fun _ h => h) rfl) (S57.out.blk _ _ _ (.tail _ (.head _))) ?_
        try simp only [Act.put, List.setIfInBounds_toArray, List.set_cons_zero, List.set_cons_succ]
        refine anyT_take (i := 1) (oi := _) (v := (.pointer (some ⟨p, 0, none⟩))) (d := (some 85)) rfl rfl (by kernel_rfl) (by kernel_rfl) rfl (by kernel_rfl) (by kernel_rfl) (fun _ _ _ h => h) (Or.inl ⟨by rfl, fun _ _ => rfl⟩) (S57.out.blk _ _ _ (.tail _ (.head _))) ?_
        try simp only [Act.put, List.setIfInBounds_toArray, List.set_cons_zero, List.set_cons_succ]
        refine anyT_take (i := 2) (oi := _) (v := (.pointer (some ⟨p, 0, none⟩))) (d := (some 86)) rfl rfl (by kernel_rfl) (by kernel_rfl) rfl (by kernel_rfl) (by kernel_rfl) (fun _ _ _ h => h) (Or.inl ⟨by rfl, fun _ _ => rfl⟩) (S57.out.blk _ _ _ (.tail _ (.head _))) ?_
        try simp only [Act.put, List.setIfInBounds_toArray, List.set_cons_zero, List.set_cons_succ]
        refine anyT_step (i := 3) (oi := _) rfl (by kernel_rfl) (by rfl) (fun K hK => ?_)
        go_simp
        rcases PR.cases hr with ⟨x61, hz, rfl⟩ | ⟨n58, i59, o60, hz, hr'⟩
        · refine (RC.unary _ _ _ _ hz S57.out.row).mono ?_
          rintro _ _ ⟨rfl, hk⟩
          exact ⟨rfl, S57.out.dies hk⟩
        replace hr := hr'
        clear hr'
        have ho := (RC.even _ _ _ _ _ _ hz).symm
        subst ho
        refine (RC.unary _ _ _ _ hz S57.out.row).mono ?_
        rintro _ w63 ⟨⟨_, rfl, hn⟩, hrw, hk⟩
        obtain ⟨c62, rfl, S64⟩ := S57.out.made hrw hk hn
        replace S64 := Lib.hid S64
        have hszc62 := S64.out.fst.size
        have honec62 := S64.out.fst.one
        clear hrw hk hn
        clear S57
        clear hz
        refine hK.out _ _ (fun h => (S64.out.blk _ _ _ (.tail _ (.head _)))) ?_
        clear hK K
        try simp only [Act.put, List.setIfInBounds_toArray, List.set_cons_zero, List.set_cons_succ]
        refine anyT_step (i := 4) (oi := _) rfl (by kernel_rfl) (by rfl) (fun K hK => ?_)
        go_simp
        rcases PR.cases hr with ⟨x68, hz, rfl⟩ | ⟨n65, i66, o67, hz, hr'⟩
        · refine (RC.climb _ _ _ _ _ _ _ _ hz S64.out.row (S64.out.nds (c62, n58) (.head _)) (fun e => S64.out.gp p S64.out.mp e.1)).mono ?_
          rintro _ _ ⟨rfl, hk⟩
          exact ⟨rfl, S64.out.dies hk⟩
        replace hr := hr'
        clear hr'
        have ho := (RC.even _ _ _ _ _ _ hz).symm
        subst ho
        refine (RC.climb _ _ _ _ _ _ _ _ hz S64.out.row (S64.out.nds (c62, n58) (.head _)) (fun e => S64.out.gp p S64.out.mp e.1)).mono ?_
        rintro _ w70 ⟨⟨_, rfl, hn⟩, hrw, hk⟩
        obtain ⟨c69, rfl, S71⟩ := S64.out.madeF hrw hk hn
        replace S71 := Lib.hid S71
        have hszc69 := S71.out.fst.size
        have honec69 := S71.out.fst.one
        clear hrw hk hn
        clear S64
        clear hz
        refine hK.out _ _ (fun h => (S71.out.blk _ _ _ (.tail _ (.head _)))) ?_
        clear hK K
        try simp only [Act.put, List.setIfInBounds_toArray, List.set_cons_zero, List.set_cons_succ]
        refine anyT_step (i := 5) (oi := _) rfl (by kernel_rfl) (by rfl) (fun K hK => ?_)
        refine wp_bs_nodes 2 _ rfl [(ndCells 2 (placeZ ws en i) ⟨#[]⟩ 4 ⟨#[]⟩ (saidZ ws i) (.slice none 0 0) (.slice none 0 0)), c69] rfl (by intro c hc; simp only [List.mem_cons, List.not_mem_nil, or_false] at hc; rcases hc with rfl | rfl <;> first | assumption | rfl) rfl (by decide) (by decide) ?_
        intro cur hcur
        have hE := Lib.hid (S71.out.pair (NdL.cons (S71.out.nds ((ndCells 2 (placeZ ws en i) ⟨#[]⟩ 4 ⟨#[]⟩ (saidZ ws i) (.slice none 0 0) (.slice none 0 0)), (SN.mk 2 (placeZ ws en i) ⟨#[]⟩ 4 ⟨#[]⟩ (saidZ ws i) [] [])) (.tail _ (.tail _ (.tail _ (.tail _ (.head _)))))) (NdL.cons (S71.out.nds (c69, n65) (.head _)) NdL.nil)) rfl hcur)
        have S72 := Lib.hid (S71.out.waste (.cells cur 28))
        clear S71
        refine hK.out (Act.put _ (some 89) _) _ (fun h => (S72.out.blk _ _ _ (.tail _ (.head _)))) ?_
        clear hK K
        try simp only [Act.put, List.setIfInBounds_toArray, List.set_cons_zero, List.set_cons_succ]
        refine anyT_step (i := 6) (oi := _) rfl (by kernel_rfl) (by rfl) (fun K hK => ?_)
        go_simp
        refine hK.out _ _ (fun h => by cases h) ?_
        clear hK K
        try simp only [Act.put, List.setIfInBounds_toArray, List.set_cons_zero, List.set_cons_succ]
        refine anyT_done (by kernel_rfl) ?_ _
        cases hr
        go_wp2_with fail
        refine bodyPost_ret (results_tmp rfl _ _ _) rfl ?_
        exact hE.out
      | false =>
        rw [if_neg (by rw [hb53]; decide)] at hr
        cases hr
        go_wp2_with (first
          | (refine ld_node rfl _ rfl _ rfl _ (S54.out.blk _ _ _ (.tail _ (.head _))) rfl ?_)
          | (refine ld_node rfl _ rfl _ rfl _ (S54.out.blk _ _ _ (.head _)) rfl ?_)
          | (refine bs_nodes rfl 2 _ rfl [(ndCells 2 (placeZ ws en i) ⟨#[]⟩ 4 ⟨#[]⟩ (saidZ ws i) (.slice none 0 0) (.slice none 0 0)), (ndCells 7 (placeZ ws en i) ⟨#[]⟩ 0 ⟨#[]⟩ ⟨#[]⟩ (.slice none 0 0) (.slice (some ⟨w46.heap.size, 0, none⟩) 2 2))] rfl (by intro c hc; simp only [List.mem_cons, List.not_mem_nil, or_false] at hc; rcases hc with rfl | rfl <;> first | assumption | rfl) rfl (by decide) (by decide) ?_; intro cur hcur))
        refine bodyPost_ret (results_tmp rfl _ _ _) rfl ?_
        exact S54.out.pair (NdL.cons (S54.out.nds ((ndCells 2 (placeZ ws en i) ⟨#[]⟩ 4 ⟨#[]⟩ (saidZ ws i) (.slice none 0 0) (.slice none 0 0)), (SN.mk 2 (placeZ ws en i) ⟨#[]⟩ 4 ⟨#[]⟩ (saidZ ws i) [] [])) (.tail _ (.tail _ (.head _)))) (NdL.cons (S54.out.nds ((ndCells 7 (placeZ ws en i) ⟨#[]⟩ 0 ⟨#[]⟩ ⟨#[]⟩ (.slice none 0 0) (.slice (some ⟨w46.heap.size, 0, none⟩) 2 2)), (SN.mk 7 (placeZ ws en i) ⟨#[]⟩ 0 ⟨#[]⟩ ⟨#[]⟩ [] [(SN.mk 1 (placeZ ws en i) ⟨#[]⟩ 0 ⟨#[]⟩ ⟨#[]⟩ [] []), (SN.mk 2 (placeZ ws en i) ⟨#[]⟩ 4 ⟨#[]⟩ (saidZ ws i) [] [])])) (.head _)) NdL.nil)) rfl hcur
    ·
      rw [hk]
      go_wp2_with fail
      have hk0 := hk
      refine (name_calls _ 6 (by decide) _ (nameZ_yes hk) S6.out.row).mono ?_
      rintro _ w73 ⟨⟨_, rfl, rfl⟩, hrw, hk⟩
      have S74 := Lib.hid (S6.out.call hrw hk)
      clear hrw hk
      go_wp2_with fail
      refine (txt_calls _ (saidZ ws i) (placeZ ws en i) S74.out.row).mono ?_
      rintro _ w75 ⟨rfl, hrw, hk⟩
      have S76 := Lib.hid (S74.out.call hrw hk)
      clear S74
      clear hrw hk
      have S77 := Lib.hid (S76.out.plain 2 (placeZ ws en i) ⟨#[]⟩ 4 ⟨#[]⟩ (saidZ ws i))
      clear S76
      have S78 := Lib.hid (S77.out.plain 1 (placeZ ws en i) ⟨#[]⟩ 0 ⟨#[]⟩ ⟨#[]⟩)
      clear S77
      go_wp2_with (first
        | (refine st_nodeO rfl _ _ rfl (w1.heap.size) (ndCells 2 (placeZ ws en i) ⟨#[]⟩ 4 ⟨#[]⟩ (saidZ ws i) (.slice none 0 0) (.slice none 0 0)) rfl rfl _ (S78.out.blk _ _ _ (.tail _ (.head _))) rfl rfl (by first | (simp [ndCells, Value.oneCell']; done) | exact nd_one rfl hok.one | exact nd_one hok.one rfl) ?_; intro w79 hwN; have S80 := Lib.hid (S78.out.setRowO 1 _ _ _ (ndCells 2 (placeZ ws en i) ⟨#[]⟩ 4 ⟨#[]⟩ (saidZ ws i) (.slice none 0 0) (.slice none 0 0)) rfl hwN); clear hwN)
        | (refine ld_node rfl _ rfl _ rfl _ (S80.out.blk _ _ _ (.tail _ (.head _))) rfl ?_)
        | (refine bs_nodes rfl 2 _ rfl [(ndCells 1 (placeZ ws en i) ⟨#[]⟩ 0 ⟨#[]⟩ ⟨#[]⟩ (.slice none 0 0) (.slice none 0 0)), (ndCells 2 (placeZ ws en i) ⟨#[]⟩ 4 ⟨#[]⟩ (saidZ ws i) (.slice none 0 0) (.slice none 0 0))] rfl (by intro c hc; simp only [List.mem_cons, List.not_mem_nil, or_false] at hc; rcases hc with rfl | rfl <;> first | assumption | rfl) rfl (by decide) (by decide) ?_; intro cur hcur; have S81 := Lib.hid (S80.out.build 7 (placeZ ws en i) ⟨#[]⟩ [(ndCells 1 (placeZ ws en i) ⟨#[]⟩ 0 ⟨#[]⟩ ⟨#[]⟩ (.slice none 0 0) (.slice none 0 0)), (ndCells 2 (placeZ ws en i) ⟨#[]⟩ 4 ⟨#[]⟩ (saidZ ws i) (.slice none 0 0) (.slice none 0 0))] [(SN.mk 1 (placeZ ws en i) ⟨#[]⟩ 0 ⟨#[]⟩ ⟨#[]⟩ [] []), (SN.mk 2 (placeZ ws en i) ⟨#[]⟩ 4 ⟨#[]⟩ (saidZ ws i) [] [])] (.cons (S80.out.nds ((ndCells 1 (placeZ ws en i) ⟨#[]⟩ 0 ⟨#[]⟩ ⟨#[]⟩ (.slice none 0 0) (.slice none 0 0)), (SN.mk 1 (placeZ ws en i) ⟨#[]⟩ 0 ⟨#[]⟩ ⟨#[]⟩ [] [])) (.head _)) (.cons (S80.out.nds ((ndCells 2 (placeZ ws en i) ⟨#[]⟩ 4 ⟨#[]⟩ (saidZ ws i) (.slice none 0 0) (.slice none 0 0)), (SN.mk 2 (placeZ ws en i) ⟨#[]⟩ 4 ⟨#[]⟩ (saidZ ws i) [] [])) (.tail _ (.head _))) .nil)) (by simp) (by simp) cur hcur))
        | (refine st_nodeO rfl _ _ rfl (w1.heap.size + 1) (ndCells 7 (placeZ ws en i) ⟨#[]⟩ 0 ⟨#[]⟩ ⟨#[]⟩ (.slice none 0 0) (.slice (some ⟨w79.heap.size, 0, none⟩) 2 2)) rfl rfl _ (S81.out.blk _ _ _ (.head _)) rfl rfl (by first | (simp [ndCells, Value.oneCell']; done) | exact nd_one rfl hok.one | exact nd_one hok.one rfl) ?_; intro w82 hwN; have S83 := Lib.hid (S81.out.setRowO 0 _ _ _ (ndCells 7 (placeZ ws en i) ⟨#[]⟩ 0 ⟨#[]⟩ ⟨#[]⟩ (.slice none 0 0) (.slice (some ⟨w79.heap.size, 0, none⟩) 2 2)) rfl hwN); clear hwN))
      clear hcur
      have S84 := Lib.hid (S83.out.waste (.cells #[.string ⟨#[58]⟩] 9))
      clear S83
      refine (is_calls _ _ ⟨#[58]⟩ _ (cell_top _ _ _ _ (by simp)) S84.out.row).mono ?_
      rintro _ w85 ⟨rfl, hd⟩
      have S87 := Lib.hid (S84.out.drawn hd)
      clear S84
      clear hd
      cases hb86 : isZ ws (i + 1) ⟨#[58]⟩ with
      | true =>
        rw [if_pos hb86] at hr
        go_wp2_with fail
        refine (want_calls _ ⟨#[58]⟩ _ (wantZ_yes hb86) S87.out.row).mono ?_
        rintro _ w88 ⟨⟨_, rfl, rfl⟩, hrw, hk⟩
        have S89 := Lib.hid (S87.out.call hrw hk)
        clear hrw hk
        unfold valueZ at hr
        rw [andThen_assoc] at hr
        go_wp2_with fail
        refine region_T (fun w => w.heap[w1.heap.size]? = some (.cells (ndCells 2 (placeZ ws en i) ⟨#[]⟩ 4 ⟨#[]⟩ (saidZ ws i) (.slice none 0 0) (.slice none 0 0)) 28 (0, 0))) (fun j => j == 6) 7 rfl (by kernel_rfl) ?_
        have S90 := Lib.hid (S89.out.drawn (w' := World.drew _) ⟨1, rfl⟩)
        clear S89
        refine anyT_take (i := 0) (oi := _) (v := (.agg (ndCells 2 (placeZ ws en i) ⟨#[]⟩ 4 ⟨#[]⟩ (saidZ ws i) (.slice none 0 0) (.slice none 0 0)))) (d := (some 84)) rfl rfl (by kernel_rfl) (by kernel_rfl) rfl (by kernel_rfl) (by kernel_rfl) (fun _ _ _ h => h) (yl_node _ rfl (by rfl) _ rfl _ (fun _ h => h) rfl) (S90.out.blk _ _ _ (.tail _ (.head _))) ?_
        try simp only [Act.put, List.setIfInBounds_toArray, List.set_cons_zero, List.set_cons_succ]
        refine anyT_take (i := 1) (oi := _) (v := (.pointer (some ⟨p, 0, none⟩))) (d := (some 85)) rfl rfl (by kernel_rfl) (by kernel_rfl) rfl (by kernel_rfl) (by kernel_rfl) (fun _ _ _ h => h) (Or.inl ⟨by rfl, fun _ _ => rfl⟩) (S90.out.blk _ _ _ (.tail _ (.head _))) ?_
        try simp only [Act.put, List.setIfInBounds_toArray, List.set_cons_zero, List.set_cons_succ]
        refine anyT_take (i := 2) (oi := _) (v := (.pointer (some ⟨p, 0, none⟩))) (d := (some 86)) rfl rfl (by kernel_rfl) (by kernel_rfl) rfl (by kernel_rfl) (by kernel_rfl) (fun _ _ _ h => h) (Or.inl ⟨by rfl, fun _ _ => rfl⟩) (S90.out.blk _ _ _ (.tail _ (.head _))) ?_
        try simp only [Act.put, List.setIfInBounds_toArray, List.set_cons_zero, List.set_cons_succ]
        refine anyT_step (i := 3) (oi := _) rfl (by kernel_rfl) (by rfl) (fun K hK => ?_)
        go_simp
        rcases PR.cases hr with ⟨x94, hz, rfl⟩ | ⟨n91, i92, o93, hz, hr'⟩
        · refine (RC.unary _ _ _ _ hz S90.out.row).mono ?_
          rintro _ _ ⟨rfl, hk⟩
          exact ⟨rfl, S90.out.dies hk⟩
        replace hr := hr'
        clear hr'
        have ho := (RC.even _ _ _ _ _ _ hz).symm
        subst ho
        refine (RC.unary _ _ _ _ hz S90.out.row).mono ?_
        rintro _ w96 ⟨⟨_, rfl, hn⟩, hrw, hk⟩
        obtain ⟨c95, rfl, S97⟩ := S90.out.made hrw hk hn
        replace S97 := Lib.hid S97
        have hszc95 := S97.out.fst.size
        have honec95 := S97.out.fst.one
        clear hrw hk hn
        clear S90
        clear hz
        refine hK.out _ _ (fun h => (S97.out.blk _ _ _ (.tail _ (.head _)))) ?_
        clear hK K
        try simp only [Act.put, List.setIfInBounds_toArray, List.set_cons_zero, List.set_cons_succ]
        refine anyT_step (i := 4) (oi := _) rfl (by kernel_rfl) (by rfl) (fun K hK => ?_)
        go_simp
        rcases PR.cases hr with ⟨x101, hz, rfl⟩ | ⟨n98, i99, o100, hz, hr'⟩
        · refine (RC.climb _ _ _ _ _ _ _ _ hz S97.out.row (S97.out.nds (c95, n91) (.head _)) (fun e => S97.out.gp p S97.out.mp e.1)).mono ?_
          rintro _ _ ⟨rfl, hk⟩
          exact ⟨rfl, S97.out.dies hk⟩
        replace hr := hr'
        clear hr'
        have ho := (RC.even _ _ _ _ _ _ hz).symm
        subst ho
        refine (RC.climb _ _ _ _ _ _ _ _ hz S97.out.row (S97.out.nds (c95, n91) (.head _)) (fun e => S97.out.gp p S97.out.mp e.1)).mono ?_
        rintro _ w103 ⟨⟨_, rfl, hn⟩, hrw, hk⟩
        obtain ⟨c102, rfl, S104⟩ := S97.out.madeF hrw hk hn
        replace S104 := Lib.hid S104
        have hszc102 := S104.out.fst.size
        have honec102 := S104.out.fst.one
        clear hrw hk hn
        clear S97
        clear hz
        refine hK.out _ _ (fun h => (S104.out.blk _ _ _ (.tail _ (.head _)))) ?_
        clear hK K
        try simp only [Act.put, List.setIfInBounds_toArray, List.set_cons_zero, List.set_cons_succ]
        refine anyT_step (i := 5) (oi := _) rfl (by kernel_rfl) (by rfl) (fun K hK => ?_)
        refine wp_bs_nodes 2 _ rfl [(ndCells 2 (placeZ ws en i) ⟨#[]⟩ 4 ⟨#[]⟩ (saidZ ws i) (.slice none 0 0) (.slice none 0 0)), c102] rfl (by intro c hc; simp only [List.mem_cons, List.not_mem_nil, or_false] at hc; rcases hc with rfl | rfl <;> first | assumption | rfl) rfl (by decide) (by decide) ?_
        intro cur hcur
        have hE := Lib.hid (S104.out.pair (NdL.cons (S104.out.nds ((ndCells 2 (placeZ ws en i) ⟨#[]⟩ 4 ⟨#[]⟩ (saidZ ws i) (.slice none 0 0) (.slice none 0 0)), (SN.mk 2 (placeZ ws en i) ⟨#[]⟩ 4 ⟨#[]⟩ (saidZ ws i) [] [])) (.tail _ (.tail _ (.tail _ (.tail _ (.head _)))))) (NdL.cons (S104.out.nds (c102, n98) (.head _)) NdL.nil)) rfl hcur)
        have S105 := Lib.hid (S104.out.waste (.cells cur 28))
        clear S104
        refine hK.out (Act.put _ (some 89) _) _ (fun h => (S105.out.blk _ _ _ (.tail _ (.head _)))) ?_
        clear hK K
        try simp only [Act.put, List.setIfInBounds_toArray, List.set_cons_zero, List.set_cons_succ]
        refine anyT_step (i := 6) (oi := _) rfl (by kernel_rfl) (by rfl) (fun K hK => ?_)
        go_simp
        refine hK.out _ _ (fun h => by cases h) ?_
        clear hK K
        try simp only [Act.put, List.setIfInBounds_toArray, List.set_cons_zero, List.set_cons_succ]
        refine anyT_done (by kernel_rfl) ?_ _
        cases hr
        go_wp2_with fail
        refine bodyPost_ret (results_tmp rfl _ _ _) rfl ?_
        exact hE.out
      | false =>
        rw [if_neg (by rw [hb86]; decide)] at hr
        cases hr
        go_wp2_with (first
          | (refine ld_node rfl _ rfl _ rfl _ (S87.out.blk _ _ _ (.tail _ (.head _))) rfl ?_)
          | (refine ld_node rfl _ rfl _ rfl _ (S87.out.blk _ _ _ (.head _)) rfl ?_)
          | (refine bs_nodes rfl 2 _ rfl [(ndCells 2 (placeZ ws en i) ⟨#[]⟩ 4 ⟨#[]⟩ (saidZ ws i) (.slice none 0 0) (.slice none 0 0)), (ndCells 7 (placeZ ws en i) ⟨#[]⟩ 0 ⟨#[]⟩ ⟨#[]⟩ (.slice none 0 0) (.slice (some ⟨w79.heap.size, 0, none⟩) 2 2))] rfl (by intro c hc; simp only [List.mem_cons, List.not_mem_nil, or_false] at hc; rcases hc with rfl | rfl <;> first | assumption | rfl) rfl (by decide) (by decide) ?_; intro cur hcur))
        refine bodyPost_ret (results_tmp rfl _ _ _) rfl ?_
        exact S87.out.pair (NdL.cons (S87.out.nds ((ndCells 2 (placeZ ws en i) ⟨#[]⟩ 4 ⟨#[]⟩ (saidZ ws i) (.slice none 0 0) (.slice none 0 0)), (SN.mk 2 (placeZ ws en i) ⟨#[]⟩ 4 ⟨#[]⟩ (saidZ ws i) [] [])) (.tail _ (.tail _ (.head _)))) (NdL.cons (S87.out.nds ((ndCells 7 (placeZ ws en i) ⟨#[]⟩ 0 ⟨#[]⟩ ⟨#[]⟩ (.slice none 0 0) (.slice (some ⟨w79.heap.size, 0, none⟩) 2 2)), (SN.mk 7 (placeZ ws en i) ⟨#[]⟩ 0 ⟨#[]⟩ ⟨#[]⟩ [] [(SN.mk 1 (placeZ ws en i) ⟨#[]⟩ 0 ⟨#[]⟩ ⟨#[]⟩ [] []), (SN.mk 2 (placeZ ws en i) ⟨#[]⟩ 4 ⟨#[]⟩ (saidZ ws i) [] [])])) (.head _)) NdL.nil)) rfl hcur
  rw [if_neg h126] at hr
  by_cases hk : kindZ ws i = 3
  · rw [if_pos hk] at hr
    clear h126
    rw [hk]
    go_wp2_with fail
    have hk0 := hk
    refine (name_calls _ 3 (by decide) _ (nameZ_yes hk) S6.out.row).mono ?_
    rintro _ w106 ⟨⟨_, rfl, rfl⟩, hrw, hk⟩
    have S107 := Lib.hid (S6.out.call hrw hk)
    clear hrw hk
    go_wp2_with fail
    refine (txt_calls _ (saidZ ws i) (placeZ ws en i) S107.out.row).mono ?_
    rintro _ w108 ⟨rfl, hrw, hk⟩
    have S109 := Lib.hid (S107.out.call hrw hk)
    clear S107
    clear hrw hk
    have S110 := Lib.hid (S109.out.plain 2 (placeZ ws en i) ⟨#[]⟩ 4 ⟨#[]⟩ (saidZ ws i))
    clear S109
    have S111 := Lib.hid (S110.out.plain 6 (placeZ ws en i) (saidZ ws i) 0 ⟨#[]⟩ ⟨#[]⟩)
    clear S110
    go_wp2_with (first
      | (refine st_nodeO rfl _ _ rfl (w1.heap.size) (ndCells 2 (placeZ ws en i) ⟨#[]⟩ 4 ⟨#[]⟩ (saidZ ws i) (.slice none 0 0) (.slice none 0 0)) rfl rfl _ (S111.out.blk _ _ _ (.tail _ (.head _))) rfl rfl (by first | (simp [ndCells, Value.oneCell']; done) | exact nd_one rfl hok.one | exact nd_one hok.one rfl) ?_; intro w112 hwN; have S113 := Lib.hid (S111.out.setRowO 1 _ _ _ (ndCells 2 (placeZ ws en i) ⟨#[]⟩ 4 ⟨#[]⟩ (saidZ ws i) (.slice none 0 0) (.slice none 0 0)) rfl hwN); clear hwN)
      | (refine st_nodeO rfl _ _ rfl (w1.heap.size + 1) (ndCells 6 (placeZ ws en i) (saidZ ws i) 0 ⟨#[]⟩ ⟨#[]⟩ (.slice none 0 0) (.slice none 0 0)) rfl rfl _ (S113.out.blk _ _ _ (.head _)) rfl rfl (by first | (simp [ndCells, Value.oneCell']; done) | exact nd_one rfl hok.one | exact nd_one hok.one rfl) ?_; intro w114 hwN; have S115 := Lib.hid (S113.out.setRowO 0 _ _ _ (ndCells 6 (placeZ ws en i) (saidZ ws i) 0 ⟨#[]⟩ ⟨#[]⟩ (.slice none 0 0) (.slice none 0 0)) rfl hwN); clear hwN))
    have S116 := Lib.hid (S115.out.waste (.cells #[.string ⟨#[58]⟩] 9))
    clear S115
    refine (is_calls _ _ ⟨#[58]⟩ _ (cell_top _ _ _ _ (by simp)) S116.out.row).mono ?_
    rintro _ w117 ⟨rfl, hd⟩
    have S119 := Lib.hid (S116.out.drawn hd)
    clear S116
    clear hd
    cases hb118 : isZ ws (i + 1) ⟨#[58]⟩ with
    | true =>
      rw [if_pos hb118] at hr
      go_wp2_with fail
      refine (want_calls _ ⟨#[58]⟩ _ (wantZ_yes hb118) S119.out.row).mono ?_
      rintro _ w120 ⟨⟨_, rfl, rfl⟩, hrw, hk⟩
      have S121 := Lib.hid (S119.out.call hrw hk)
      clear hrw hk
      unfold valueZ at hr
      rw [andThen_assoc] at hr
      go_wp2_with fail
      refine region_T (fun w => w.heap[w1.heap.size]? = some (.cells (ndCells 2 (placeZ ws en i) ⟨#[]⟩ 4 ⟨#[]⟩ (saidZ ws i) (.slice none 0 0) (.slice none 0 0)) 28 (0, 0))) (fun j => j == 6) 7 rfl (by kernel_rfl) ?_
      have S122 := Lib.hid (S121.out.drawn (w' := World.drew _) ⟨1, rfl⟩)
      clear S121
      refine anyT_take (i := 0) (oi := _) (v := (.agg (ndCells 2 (placeZ ws en i) ⟨#[]⟩ 4 ⟨#[]⟩ (saidZ ws i) (.slice none 0 0) (.slice none 0 0)))) (d := (some 84)) rfl rfl (by kernel_rfl) (by kernel_rfl) rfl (by kernel_rfl) (by kernel_rfl) (fun _ _ _ h => h) (yl_node _ rfl (by rfl) _ rfl _ (fun _ h => h) rfl) (S122.out.blk _ _ _ (.tail _ (.head _))) ?_
      try simp only [Act.put, List.setIfInBounds_toArray, List.set_cons_zero, List.set_cons_succ]
      refine anyT_take (i := 1) (oi := _) (v := (.pointer (some ⟨p, 0, none⟩))) (d := (some 85)) rfl rfl (by kernel_rfl) (by kernel_rfl) rfl (by kernel_rfl) (by kernel_rfl) (fun _ _ _ h => h) (Or.inl ⟨by rfl, fun _ _ => rfl⟩) (S122.out.blk _ _ _ (.tail _ (.head _))) ?_
      try simp only [Act.put, List.setIfInBounds_toArray, List.set_cons_zero, List.set_cons_succ]
      refine anyT_take (i := 2) (oi := _) (v := (.pointer (some ⟨p, 0, none⟩))) (d := (some 86)) rfl rfl (by kernel_rfl) (by kernel_rfl) rfl (by kernel_rfl) (by kernel_rfl) (fun _ _ _ h => h) (Or.inl ⟨by rfl, fun _ _ => rfl⟩) (S122.out.blk _ _ _ (.tail _ (.head _))) ?_
      try simp only [Act.put, List.setIfInBounds_toArray, List.set_cons_zero, List.set_cons_succ]
      refine anyT_step (i := 3) (oi := _) rfl (by kernel_rfl) (by rfl) (fun K hK => ?_)
      go_simp
      rcases PR.cases hr with ⟨x126, hz, rfl⟩ | ⟨n123, i124, o125, hz, hr'⟩
      · refine (RC.unary _ _ _ _ hz S122.out.row).mono ?_
        rintro _ _ ⟨rfl, hk⟩
        exact ⟨rfl, S122.out.dies hk⟩
      replace hr := hr'
      clear hr'
      have ho := (RC.even _ _ _ _ _ _ hz).symm
      subst ho
      refine (RC.unary _ _ _ _ hz S122.out.row).mono ?_
      rintro _ w128 ⟨⟨_, rfl, hn⟩, hrw, hk⟩
      obtain ⟨c127, rfl, S129⟩ := S122.out.made hrw hk hn
      replace S129 := Lib.hid S129
      have hszc127 := S129.out.fst.size
      have honec127 := S129.out.fst.one
      clear hrw hk hn
      clear S122
      clear hz
      refine hK.out _ _ (fun h => (S129.out.blk _ _ _ (.tail _ (.head _)))) ?_
      clear hK K
      try simp only [Act.put, List.setIfInBounds_toArray, List.set_cons_zero, List.set_cons_succ]
      refine anyT_step (i := 4) (oi := _) rfl (by kernel_rfl) (by rfl) (fun K hK => ?_)
      go_simp
      rcases PR.cases hr with ⟨x133, hz, rfl⟩ | ⟨n130, i131, o132, hz, hr'⟩
      · refine (RC.climb _ _ _ _ _ _ _ _ hz S129.out.row (S129.out.nds (c127, n123) (.head _)) (fun e => S129.out.gp p S129.out.mp e.1)).mono ?_
        rintro _ _ ⟨rfl, hk⟩
        exact ⟨rfl, S129.out.dies hk⟩
      replace hr := hr'
      clear hr'
      have ho := (RC.even _ _ _ _ _ _ hz).symm
      subst ho
      refine (RC.climb _ _ _ _ _ _ _ _ hz S129.out.row (S129.out.nds (c127, n123) (.head _)) (fun e => S129.out.gp p S129.out.mp e.1)).mono ?_
      rintro _ w135 ⟨⟨_, rfl, hn⟩, hrw, hk⟩
      obtain ⟨c134, rfl, S136⟩ := S129.out.madeF hrw hk hn
      replace S136 := Lib.hid S136
      have hszc134 := S136.out.fst.size
      have honec134 := S136.out.fst.one
      clear hrw hk hn
      clear S129
      clear hz
      refine hK.out _ _ (fun h => (S136.out.blk _ _ _ (.tail _ (.head _)))) ?_
      clear hK K
      try simp only [Act.put, List.setIfInBounds_toArray, List.set_cons_zero, List.set_cons_succ]
      refine anyT_step (i := 5) (oi := _) rfl (by kernel_rfl) (by rfl) (fun K hK => ?_)
      refine wp_bs_nodes 2 _ rfl [(ndCells 2 (placeZ ws en i) ⟨#[]⟩ 4 ⟨#[]⟩ (saidZ ws i) (.slice none 0 0) (.slice none 0 0)), c134] rfl (by intro c hc; simp only [List.mem_cons, List.not_mem_nil, or_false] at hc; rcases hc with rfl | rfl <;> first | assumption | rfl) rfl (by decide) (by decide) ?_
      intro cur hcur
      have hE := Lib.hid (S136.out.pair (NdL.cons (S136.out.nds ((ndCells 2 (placeZ ws en i) ⟨#[]⟩ 4 ⟨#[]⟩ (saidZ ws i) (.slice none 0 0) (.slice none 0 0)), (SN.mk 2 (placeZ ws en i) ⟨#[]⟩ 4 ⟨#[]⟩ (saidZ ws i) [] [])) (.tail _ (.tail _ (.tail _ (.head _))))) (NdL.cons (S136.out.nds (c134, n130) (.head _)) NdL.nil)) rfl hcur)
      have S137 := Lib.hid (S136.out.waste (.cells cur 28))
      clear S136
      refine hK.out (Act.put _ (some 89) _) _ (fun h => (S137.out.blk _ _ _ (.tail _ (.head _)))) ?_
      clear hK K
      try simp only [Act.put, List.setIfInBounds_toArray, List.set_cons_zero, List.set_cons_succ]
      refine anyT_step (i := 6) (oi := _) rfl (by kernel_rfl) (by rfl) (fun K hK => ?_)
      go_simp
      refine hK.out _ _ (fun h => by cases h) ?_
      clear hK K
      try simp only [Act.put, List.setIfInBounds_toArray, List.set_cons_zero, List.set_cons_succ]
      refine anyT_done (by kernel_rfl) ?_ _
      cases hr
      go_wp2_with fail
      refine bodyPost_ret (results_tmp rfl _ _ _) rfl ?_
      exact hE.out
    | false =>
      rw [if_neg (by rw [hb118]; decide)] at hr
      cases hr
      go_wp2_with (first
        | (refine ld_node rfl _ rfl _ rfl _ (S119.out.blk _ _ _ (.tail _ (.head _))) rfl ?_)
        | (refine ld_node rfl _ rfl _ rfl _ (S119.out.blk _ _ _ (.head _)) rfl ?_)
        | (refine bs_nodes rfl 2 _ rfl [(ndCells 2 (placeZ ws en i) ⟨#[]⟩ 4 ⟨#[]⟩ (saidZ ws i) (.slice none 0 0) (.slice none 0 0)), (ndCells 6 (placeZ ws en i) (saidZ ws i) 0 ⟨#[]⟩ ⟨#[]⟩ (.slice none 0 0) (.slice none 0 0))] rfl (by intro c hc; simp only [List.mem_cons, List.not_mem_nil, or_false] at hc; rcases hc with rfl | rfl <;> first | assumption | rfl) rfl (by decide) (by decide) ?_; intro cur hcur))
      refine bodyPost_ret (results_tmp rfl _ _ _) rfl ?_
      exact S119.out.pair (NdL.cons (S119.out.nds ((ndCells 2 (placeZ ws en i) ⟨#[]⟩ 4 ⟨#[]⟩ (saidZ ws i) (.slice none 0 0) (.slice none 0 0)), (SN.mk 2 (placeZ ws en i) ⟨#[]⟩ 4 ⟨#[]⟩ (saidZ ws i) [] [])) (.tail _ (.head _))) (NdL.cons (S119.out.nds ((ndCells 6 (placeZ ws en i) (saidZ ws i) 0 ⟨#[]⟩ ⟨#[]⟩ (.slice none 0 0) (.slice none 0 0)), (SN.mk 6 (placeZ ws en i) (saidZ ws i) 0 ⟨#[]⟩ ⟨#[]⟩ [] [])) (.head _)) NdL.nil)) rfl hcur
  rw [if_neg hk] at hr
  have q1 : (kindZ ws i == 1) = false := by simpa using fun e => h126 (Or.inl e)
  have q2 : (kindZ ws i == 2) = false := by simpa using fun e => h126 (Or.inr (Or.inl e))
  have q6 : (kindZ ws i == 6) = false := by simpa using fun e => h126 (Or.inr (Or.inr e))
  have q3 : (kindZ ws i == 3) = false := by simpa using hk
  clear h126 hk
  by_cases hk : kindZ ws i = 7
  ·
    rw [if_pos hk] at hr
    clear q1 q2 q6 q3
    rw [hk]
    go_wp2_with fail
    rcases PR.cases hr with ⟨x141, hz, rfl⟩ | ⟨n138, i139, o140, hz, hr'⟩
    · refine (text_calls RC _ k hkb _ hz S6.out.row).mono ?_
      rintro _ _ ⟨rfl, hk⟩
      exact ⟨rfl, S6.out.dies hk⟩
    replace hr := hr'
    clear hr'
    have ho := (text_even RC.even _ _ _ _ _ _ hz).symm
    subst ho
    refine (text_calls RC _ k hkb _ hz S6.out.row).mono ?_
    rintro _ w143 ⟨⟨_, rfl, hn⟩, hrw, hk⟩
    obtain ⟨c142, rfl, S144⟩ := S6.out.made hrw hk hn
    replace S144 := Lib.hid S144
    have hszc142 := S144.out.fst.size
    have honec142 := S144.out.fst.one
    clear hrw hk hn
    clear hz
    go_wp2_with (first
      | (refine st_nodeO rfl _ _ rfl (w1.heap.size) c142 rfl rfl _ (S144.out.blk _ _ _ (.tail _ (.head _))) hszc142 rfl honec142 ?_; intro w145 hwN; have S146 := Lib.hid (S144.out.setRowO 1 _ _ _ c142 rfl hwN); clear hwN))
    rcases PR.cases hr with ⟨x148, hz, rfl⟩ | ⟨u149, i150, o151, hz, hr'⟩
    · refine (want_calls _ ⟨#[58]⟩ _ hz S146.out.row).mono ?_
      rintro _ _ ⟨rfl, hk⟩
      exact ⟨rfl, S146.out.dies hk⟩
    replace hr := hr'
    clear hr'
    refine (want_calls _ ⟨#[58]⟩ _ hz S146.out.row).mono ?_
    rintro _ w147 ⟨⟨_, rfl, rfl⟩, hrw, hk⟩
    obtain ⟨rfl, rfl⟩ := wantZ_ok hz
    have S152 := Lib.hid (S146.out.call hrw hk)
    clear S146
    clear hrw hk hz
    unfold valueZ at hr
    rw [andThen_assoc] at hr
    go_wp2_with fail
    refine region_T (fun w => w.heap[w1.heap.size]? = some (.cells c142 28 (0, 0))) (fun j => j == 6) 7 rfl (by kernel_rfl) ?_
    have S153 := Lib.hid (S152.out.drawn (w' := World.drew _) ⟨1, rfl⟩)
    clear S152
    refine anyT_take (i := 0) (oi := _) (v := (.agg c142)) (d := (some 84)) rfl rfl (by kernel_rfl) (by kernel_rfl) rfl (by kernel_rfl) (by kernel_rfl) (fun _ _ _ h => h) (yl_node _ rfl (by rfl) _ rfl _ (fun _ h => h) hszc142) (S153.out.blk _ _ _ (.tail _ (.head _))) ?_
    try simp only [Act.put, List.setIfInBounds_toArray, List.set_cons_zero, List.set_cons_succ]
    refine anyT_take (i := 1) (oi := _) (v := (.pointer (some ⟨p, 0, none⟩))) (d := (some 85)) rfl rfl (by kernel_rfl) (by kernel_rfl) rfl (by kernel_rfl) (by kernel_rfl) (fun _ _ _ h => h) (Or.inl ⟨by rfl, fun _ _ => rfl⟩) (S153.out.blk _ _ _ (.tail _ (.head _))) ?_
    try simp only [Act.put, List.setIfInBounds_toArray, List.set_cons_zero, List.set_cons_succ]
    refine anyT_take (i := 2) (oi := _) (v := (.pointer (some ⟨p, 0, none⟩))) (d := (some 86)) rfl rfl (by kernel_rfl) (by kernel_rfl) rfl (by kernel_rfl) (by kernel_rfl) (fun _ _ _ h => h) (Or.inl ⟨by rfl, fun _ _ => rfl⟩) (S153.out.blk _ _ _ (.tail _ (.head _))) ?_
    try simp only [Act.put, List.setIfInBounds_toArray, List.set_cons_zero, List.set_cons_succ]
    refine anyT_step (i := 3) (oi := _) rfl (by kernel_rfl) (by rfl) (fun K hK => ?_)
    go_simp
    rcases PR.cases hr with ⟨x157, hz, rfl⟩ | ⟨n154, i155, o156, hz, hr'⟩
    · refine (RC.unary _ _ _ _ hz S153.out.row).mono ?_
      rintro _ _ ⟨rfl, hk⟩
      exact ⟨rfl, S153.out.dies hk⟩
    replace hr := hr'
    clear hr'
    have ho := (RC.even _ _ _ _ _ _ hz).symm
    subst ho
    refine (RC.unary _ _ _ _ hz S153.out.row).mono ?_
    rintro _ w159 ⟨⟨_, rfl, hn⟩, hrw, hk⟩
    obtain ⟨c158, rfl, S160⟩ := S153.out.made hrw hk hn
    replace S160 := Lib.hid S160
    have hszc158 := S160.out.fst.size
    have honec158 := S160.out.fst.one
    clear hrw hk hn
    clear S153
    clear hz
    refine hK.out _ _ (fun h => (S160.out.blk _ _ _ (.tail _ (.head _)))) ?_
    clear hK K
    try simp only [Act.put, List.setIfInBounds_toArray, List.set_cons_zero, List.set_cons_succ]
    refine anyT_step (i := 4) (oi := _) rfl (by kernel_rfl) (by rfl) (fun K hK => ?_)
    go_simp
    rcases PR.cases hr with ⟨x164, hz, rfl⟩ | ⟨n161, i162, o163, hz, hr'⟩
    · refine (RC.climb _ _ _ _ _ _ _ _ hz S160.out.row (S160.out.nds (c158, n154) (.head _)) (fun e => S160.out.gp p S160.out.mp e.1)).mono ?_
      rintro _ _ ⟨rfl, hk⟩
      exact ⟨rfl, S160.out.dies hk⟩
    replace hr := hr'
    clear hr'
    have ho := (RC.even _ _ _ _ _ _ hz).symm
    subst ho
    refine (RC.climb _ _ _ _ _ _ _ _ hz S160.out.row (S160.out.nds (c158, n154) (.head _)) (fun e => S160.out.gp p S160.out.mp e.1)).mono ?_
    rintro _ w166 ⟨⟨_, rfl, hn⟩, hrw, hk⟩
    obtain ⟨c165, rfl, S167⟩ := S160.out.madeF hrw hk hn
    replace S167 := Lib.hid S167
    have hszc165 := S167.out.fst.size
    have honec165 := S167.out.fst.one
    clear hrw hk hn
    clear S160
    clear hz
    refine hK.out _ _ (fun h => (S167.out.blk _ _ _ (.tail _ (.head _)))) ?_
    clear hK K
    try simp only [Act.put, List.setIfInBounds_toArray, List.set_cons_zero, List.set_cons_succ]
    refine anyT_step (i := 5) (oi := _) rfl (by kernel_rfl) (by rfl) (fun K hK => ?_)
    refine wp_bs_nodes 2 _ rfl [c142, c165] rfl (by intro c hc; simp only [List.mem_cons, List.not_mem_nil, or_false] at hc; rcases hc with rfl | rfl <;> first | assumption | rfl) rfl (by decide) (by decide) ?_
    intro cur hcur
    have hE := Lib.hid (S167.out.pair (NdL.cons (S167.out.nds (c142, n138) (.tail _ (.tail _ (.head _)))) (NdL.cons (S167.out.nds (c165, n161) (.head _)) NdL.nil)) rfl hcur)
    have S168 := Lib.hid (S167.out.waste (.cells cur 28))
    clear S167
    refine hK.out (Act.put _ (some 89) _) _ (fun h => (S168.out.blk _ _ _ (.tail _ (.head _)))) ?_
    clear hK K
    try simp only [Act.put, List.setIfInBounds_toArray, List.set_cons_zero, List.set_cons_succ]
    refine anyT_step (i := 6) (oi := _) rfl (by kernel_rfl) (by rfl) (fun K hK => ?_)
    go_simp
    refine hK.out _ _ (fun h => by cases h) ?_
    clear hK K
    try simp only [Act.put, List.setIfInBounds_toArray, List.set_cons_zero, List.set_cons_succ]
    refine anyT_done (by kernel_rfl) ?_ _
    cases hr
    go_wp2_with fail
    refine bodyPost_ret (results_tmp rfl _ _ _) rfl ?_
    exact hE.out
  ·
    rw [if_neg hk] at hr
    have q7 : (kindZ ws i == 7) = false := by simpa using hk
    clear hk
    go_wp2_with fail
    have S169 := Lib.hid (S6.out.waste (.cells #[.string ⟨#[40]⟩] 9))
    refine (is_calls _ _ ⟨#[40]⟩ _ (cell_top _ _ _ _ (by simp)) S169.out.row).mono ?_
    rintro _ w170 ⟨rfl, hd⟩
    have S172 := Lib.hid (S169.out.drawn hd)
    clear S169
    clear hd
    cases hb171 : isZ ws i ⟨#[40]⟩ with
    | true =>
      rw [if_pos hb171] at hr
      go_wp2_with fail
      have hlt := isZ_lt hb171
      rcases PR.cases hr with ⟨x176, hz, rfl⟩ | ⟨n173, i174, o175, hz, hr'⟩
      · refine (inner_calls RC _ hlt _ hz S172.out.row).mono ?_
        rintro _ _ ⟨rfl, hk⟩
        exact ⟨rfl, S172.out.dies hk⟩
      replace hr := hr'
      clear hr'
      have ho := (inner_even RC.even _ _ _ _ _ hz).symm
      subst ho
      refine (inner_calls RC _ hlt _ hz S172.out.row).mono ?_
      rintro _ w178 ⟨⟨_, rfl, hn⟩, hrw, hk⟩
      obtain ⟨c177, rfl, S179⟩ := S172.out.made hrw hk hn
      replace S179 := Lib.hid S179
      have hszc177 := S179.out.fst.size
      have honec177 := S179.out.fst.one
      clear hrw hk hn
      clear hz
      go_wp2_with (first
        | (refine st_nodeO rfl _ _ rfl (w1.heap.size) c177 rfl rfl _ (S179.out.blk _ _ _ (.tail _ (.head _))) hszc177 rfl honec177 ?_; intro w180 hwN; have S181 := Lib.hid (S179.out.setRowO 1 _ _ _ c177 rfl hwN); clear hwN))
      rcases PR.cases hr with ⟨x183, hz, rfl⟩ | ⟨u184, i185, o186, hz, hr'⟩
      · refine (want_calls _ ⟨#[58]⟩ _ hz S181.out.row).mono ?_
        rintro _ _ ⟨rfl, hk⟩
        exact ⟨rfl, S181.out.dies hk⟩
      replace hr := hr'
      clear hr'
      refine (want_calls _ ⟨#[58]⟩ _ hz S181.out.row).mono ?_
      rintro _ w182 ⟨⟨_, rfl, rfl⟩, hrw, hk⟩
      obtain ⟨rfl, rfl⟩ := wantZ_ok hz
      have S187 := Lib.hid (S181.out.call hrw hk)
      clear S181
      clear hrw hk hz
      unfold valueZ at hr
      rw [andThen_assoc] at hr
      go_wp2_with fail
      refine region_T (fun w => w.heap[w1.heap.size]? = some (.cells c177 28 (0, 0))) (fun j => j == 6) 7 rfl (by kernel_rfl) ?_
      have S188 := Lib.hid (S187.out.drawn (w' := World.drew _) ⟨1, rfl⟩)
      clear S187
      refine anyT_take (i := 0) (oi := _) (v := (.agg c177)) (d := (some 84)) rfl rfl (by kernel_rfl) (by kernel_rfl) rfl (by kernel_rfl) (by kernel_rfl) (fun _ _ _ h => h) (yl_node _ rfl (by rfl) _ rfl _ (fun _ h => h) hszc177) (S188.out.blk _ _ _ (.tail _ (.head _))) ?_
      try simp only [Act.put, List.setIfInBounds_toArray, List.set_cons_zero, List.set_cons_succ]
      refine anyT_take (i := 1) (oi := _) (v := (.pointer (some ⟨p, 0, none⟩))) (d := (some 85)) rfl rfl (by kernel_rfl) (by kernel_rfl) rfl (by kernel_rfl) (by kernel_rfl) (fun _ _ _ h => h) (Or.inl ⟨by rfl, fun _ _ => rfl⟩) (S188.out.blk _ _ _ (.tail _ (.head _))) ?_
      try simp only [Act.put, List.setIfInBounds_toArray, List.set_cons_zero, List.set_cons_succ]
      refine anyT_take (i := 2) (oi := _) (v := (.pointer (some ⟨p, 0, none⟩))) (d := (some 86)) rfl rfl (by kernel_rfl) (by kernel_rfl) rfl (by kernel_rfl) (by kernel_rfl) (fun _ _ _ h => h) (Or.inl ⟨by rfl, fun _ _ => rfl⟩) (S188.out.blk _ _ _ (.tail _ (.head _))) ?_
      try simp only [Act.put, List.setIfInBounds_toArray, List.set_cons_zero, List.set_cons_succ]
      refine anyT_step (i := 3) (oi := _) rfl (by kernel_rfl) (by rfl) (fun K hK => ?_)
      go_simp
      rcases PR.cases hr with ⟨x192, hz, rfl⟩ | ⟨n189, i190, o191, hz, hr'⟩
      · refine (RC.unary _ _ _ _ hz S188.out.row).mono ?_
        rintro _ _ ⟨rfl, hk⟩
        exact ⟨rfl, S188.out.dies hk⟩
      replace hr := hr'
      clear hr'
      have ho := (RC.even _ _ _ _ _ _ hz).symm
      subst ho
      refine (RC.unary _ _ _ _ hz S188.out.row).mono ?_
      rintro _ w194 ⟨⟨_, rfl, hn⟩, hrw, hk⟩
      obtain ⟨c193, rfl, S195⟩ := S188.out.made hrw hk hn
      replace S195 := Lib.hid S195
      have hszc193 := S195.out.fst.size
      have honec193 := S195.out.fst.one
      clear hrw hk hn
      clear S188
      clear hz
      refine hK.out _ _ (fun h => (S195.out.blk _ _ _ (.tail _ (.head _)))) ?_
      clear hK K
      try simp only [Act.put, List.setIfInBounds_toArray, List.set_cons_zero, List.set_cons_succ]
      refine anyT_step (i := 4) (oi := _) rfl (by kernel_rfl) (by rfl) (fun K hK => ?_)
      go_simp
      rcases PR.cases hr with ⟨x199, hz, rfl⟩ | ⟨n196, i197, o198, hz, hr'⟩
      · refine (RC.climb _ _ _ _ _ _ _ _ hz S195.out.row (S195.out.nds (c193, n189) (.head _)) (fun e => S195.out.gp p S195.out.mp e.1)).mono ?_
        rintro _ _ ⟨rfl, hk⟩
        exact ⟨rfl, S195.out.dies hk⟩
      replace hr := hr'
      clear hr'
      have ho := (RC.even _ _ _ _ _ _ hz).symm
      subst ho
      refine (RC.climb _ _ _ _ _ _ _ _ hz S195.out.row (S195.out.nds (c193, n189) (.head _)) (fun e => S195.out.gp p S195.out.mp e.1)).mono ?_
      rintro _ w201 ⟨⟨_, rfl, hn⟩, hrw, hk⟩
      obtain ⟨c200, rfl, S202⟩ := S195.out.madeF hrw hk hn
      replace S202 := Lib.hid S202
      have hszc200 := S202.out.fst.size
      have honec200 := S202.out.fst.one
      clear hrw hk hn
      clear S195
      clear hz
      refine hK.out _ _ (fun h => (S202.out.blk _ _ _ (.tail _ (.head _)))) ?_
      clear hK K
      try simp only [Act.put, List.setIfInBounds_toArray, List.set_cons_zero, List.set_cons_succ]
      refine anyT_step (i := 5) (oi := _) rfl (by kernel_rfl) (by rfl) (fun K hK => ?_)
      refine wp_bs_nodes 2 _ rfl [c177, c200] rfl (by intro c hc; simp only [List.mem_cons, List.not_mem_nil, or_false] at hc; rcases hc with rfl | rfl <;> first | assumption | rfl) rfl (by decide) (by decide) ?_
      intro cur hcur
      have hE := Lib.hid (S202.out.pair (NdL.cons (S202.out.nds (c177, n173) (.tail _ (.tail _ (.head _)))) (NdL.cons (S202.out.nds (c200, n196) (.head _)) NdL.nil)) rfl hcur)
      have S203 := Lib.hid (S202.out.waste (.cells cur 28))
      clear S202
      refine hK.out (Act.put _ (some 89) _) _ (fun h => (S203.out.blk _ _ _ (.tail _ (.head _)))) ?_
      clear hK K
      try simp only [Act.put, List.setIfInBounds_toArray, List.set_cons_zero, List.set_cons_succ]
      refine anyT_step (i := 6) (oi := _) rfl (by kernel_rfl) (by rfl) (fun K hK => ?_)
      go_simp
      refine hK.out _ _ (fun h => by cases h) ?_
      clear hK K
      try simp only [Act.put, List.setIfInBounds_toArray, List.set_cons_zero, List.set_cons_succ]
      refine anyT_done (by kernel_rfl) ?_ _
      cases hr
      go_wp2_with fail
      refine bodyPost_ret (results_tmp rfl _ _ _) rfl ?_
      exact hE.out
    | false =>
      rw [if_neg (by rw [hb171]; decide)] at hr
      rw [failZ_eq] at hr
      go_wp2_with fail
      cases hr
      refine (fail_calls_row _ S172.out.row).mono ?_
      rintro _ _ ⟨rfl, hd⟩
      exact ⟨rfl, S172.out.dies (Kp.of_drawn hd)⟩

end Go.Proofs.YthlmhnlfcnpocaaDoor.U

namespace Go.Proofs.YthlmhnlfcnpocaaDoor.U
open Go.RowKit Go.Proofs.YthlmhnlfcnpocaaDoorW.PrintWords
set_option linter.unusedSimpArgs false
set_option linter.unusedVariables false

set_option maxHeartbeats 8000000 in
set_option maxRecDepth 100000 in
theorem record_calls {p : Nat} {vw : Value} {ws : List Tok} {en : Int} {rc : PC → Nat → Int → PR SN} (RC : RcOk p vw ws en rc) {i : Nat} {o : Int} (W : World) (hi : i < ws.length) (k : Nat) (hkb : k ≤ 8589934592) (r : Except (Int × Int) (SN × Nat × Int)) (hr : recordZ ws en rc k i o = some r) (h : Rw p vw ws en i o W) :
    Calls Tryd.prog 74 #[.pointer (some ⟨p, 0, none⟩)] W (Ends p vw ws en W (IsN (W.heap.size ≤ ·)) r) := by
  have S0 := Lib.hid (St.start (G := (W.heap.size ≤ ·)) (V := []) h (Nat.not_le.2 h.lt) (fun k hk => hk) (fun _ hx => by cases hx))
  clear h
  go_enter Tryd.func74, Tryd.ntmps74
  go_wp2_with fail
  have S1 := Lib.hid (S0.out.allocAt (W.heap.size) (by simp [World.setCell]) 28 (ndCells 0 0 ⟨#[]⟩ 0 ⟨#[]⟩ ⟨#[]⟩ (.slice none 0 0) (.slice none 0 0)))
  clear S0
  refine (place_calls _ S1.out.row).mono ?_
  rintro _ w2 ⟨rfl, hd⟩
  have S3 := Lib.hid (S1.out.drawn hd)
  clear S1
  clear hd
  go_wp2_with fail
  have S4 := Lib.hid (S3.out.allocAt (w2.heap.size) (by simp [World.setCell]) 28 (ndCells 5 (placeZ ws en i) ⟨#[]⟩ 0 ⟨#[]⟩ ⟨#[]⟩ (.slice none 0 0) (.slice none 0 0)))
  clear S3
  unfold recordZ at hr
  have holo5 := S4.out.row.olo
  rcases PR.cases hr with ⟨x7, hz, rfl⟩ | ⟨u8, i9, o10, hz, hr'⟩
  · refine (opens_calls _ hi _ hz S4.out.row).mono ?_
    rintro _ _ ⟨rfl, hk⟩
    exact ⟨rfl, S4.out.dies hk⟩
  replace hr := hr'
  clear hr'
  refine (opens_calls _ hi _ hz S4.out.row).mono ?_
  rintro _ w6 ⟨⟨_, rfl, rfl⟩, hrw, hk⟩
  obtain ⟨rfl, rfl⟩ := opensZ_ok hz
  have S11 := Lib.hid (S4.out.call hrw hk)
  clear S4
  clear hrw hk hz
  go_wp2_with fail
  have S12 := Lib.hid (S11.out.waste (.cells #[.string ⟨#[125]⟩] 9))
  clear S11
  refine (is_calls _ _ ⟨#[125]⟩ _ (cell_top _ _ _ _ (by simp)) S12.out.row).mono ?_
  rintro _ w13 ⟨rfl, hd⟩
  have S15 := Lib.hid (S12.out.drawn hd)
  clear S12
  clear hd
  cases hb14 : isZ ws (i + 1) ⟨#[125]⟩ with
  | true =>
    rw [if_pos hb14] at hr
    rw [ok_andThen] at hr
    go_wp2_with fail
    have S16 := Lib.hid (S15.out.toNil 28)
    have hok := OkR.nil W.heap.size 10
    have HR := Lib.hid hr
    clear hr
    go_wp2_with fail
    have hro := S16.out.row.olo
    go_loopg [4] k (fun g v4 wx => ∃ (f i1 : Nat) (l : List SN) (vs : List (Array Value)) (v : Value) (cur : Array Value), ((v4 = .bool true ∧ g = f ∧ Hid (((entriesZ ws en rc k f l i1 (o + 1)).andThen fun l j o => (closesZ ws en ⟨#[125]⟩ j o).andThen fun _ j o => .ok (nd 5 (placeZ ws en i) l) j o) = some r) ∧ Hid (l.length + 2 * f ≤ 2 * k)) ∨ (v4 = .bool false ∧ Hid (((closesZ ws en ⟨#[125]⟩ i1 (o + 1)).andThen fun _ j o => .ok (nd 5 (placeZ ws en i) l) j o) = some r))) ∧ Hid (vs.length = l.length ∧ OkR W.heap.size 10 v cur l.length (flat vs)) ∧ Hid (St p vw ws en W (· = p) (W.heap.size ≤ ·) ([(w2.heap.size, 28, (ndCells 5 (placeZ ws en i) ⟨#[]⟩ 0 ⟨#[]⟩ ⟨#[]⟩ (.slice none 0 0) v)), (W.heap.size, 28, (ndCells 0 0 ⟨#[]⟩ 0 ⟨#[]⟩ ⟨#[]⟩ (.slice none 0 0) (.slice none 0 0)))] ++ own 28 v cur) (vs.zip l) i1 (o + 1) wx))
    case atStart => exact ⟨k, _, [], [], _, #[], Or.inr ⟨rfl, HR⟩, Lib.hid ⟨rfl, hok⟩, S16⟩
    case round =>
      clear HR S16 hok
      obtain ⟨f, i1, l, vs, v, cur, hcase, HF, S⟩ := hrel
      obtain ⟨hvl, hok⟩ := HF.out
      clear HF
      rcases hcase with ⟨rfl, hg, HR, HL⟩ | ⟨rfl, HR⟩
      ·
        have hr := HR.out
        have hlk := HL.out
        obtain ⟨f, rfl⟩ : ∃ m, f = m + 1 := ⟨f - 1, by have : f ≠ 0 := (by rintro rfl; cases hr); omega⟩
        rw [entriesZ, andThen_assoc] at hr
        clear HR HL
        go_wp2_with fail
        refine region_T (fun w => w.cell? ⟨w2.heap.size, 9, none⟩ = some v) (fun j => j == 6) 7 rfl (by kernel_rfl) ?_
        have S17 := Lib.hid (S.out.drawn (w' := World.drew _) ⟨1, rfl⟩)
        clear S
        refine anyT_take (i := 0) (oi := _) (v := (.pointer (some ⟨w2.heap.size, 9, none⟩))) (d := (some 26)) rfl rfl (by kernel_rfl) (by kernel_rfl) rfl (by kernel_rfl) (by kernel_rfl) (fun _ _ _ h => h) (Or.inl ⟨by rfl, fun w hS => by go_simp⟩) (S17.out.cell _ _ _ (.head _) 9 v rfl) ?_
        try simp only [Act.put, List.setIfInBounds_toArray, List.set_cons_zero, List.set_cons_succ]
        refine anyT_take (i := 1) (oi := _) (v := v) (d := (some 27)) rfl rfl (by kernel_rfl) (by kernel_rfl) rfl (by kernel_rfl) (by kernel_rfl) (fun _ _ _ h => h) (yl_cell 26 _ rfl (by rfl) (by kernel_rfl) _ _ rfl _ (fun _ h => h)) (S17.out.cell _ _ _ (.head _) 9 v rfl) ?_
        try simp only [Act.put, List.setIfInBounds_toArray, List.set_cons_zero, List.set_cons_succ]
        refine anyT_take (i := 2) (oi := _) (v := (.pointer (some ⟨p, 0, none⟩))) (d := (some 28)) rfl rfl (by kernel_rfl) (by kernel_rfl) rfl (by kernel_rfl) (by kernel_rfl) (fun _ _ _ h => h) (Or.inl ⟨by rfl, fun _ _ => rfl⟩) (S17.out.cell _ _ _ (.head _) 9 v rfl) ?_
        try simp only [Act.put, List.setIfInBounds_toArray, List.set_cons_zero, List.set_cons_succ]
        refine anyT_step (i := 3) (oi := _) rfl (by kernel_rfl) (by rfl) (fun K hK => ?_)
        go_simp
        rcases PR.cases hr with ⟨xx, hz, rfl⟩ | ⟨l2, i2, o2, hz, hr'⟩
        · refine (entry_calls RC _ k hkb _ hz S17.out.row).mono ?_
          rintro _ _ ⟨rfl, hk⟩
          exact ⟨rfl, S17.out.dies hk⟩
        replace hr := hr'
        clear hr'
        have ho := (entry_even RC.even _ _ _ _ _ _ hz).symm
        subst ho
        refine (entry_calls RC _ k hkb _ hz S17.out.row).mono ?_
        rintro _ w19 ⟨⟨_, rfl, ⟨g2, cur2, vs2, rfl, hg2, hcur2, h22, hl2⟩⟩, hrw, hk⟩
        have S18 := Lib.hid (S17.out.addL hrw hk hvl hl2)
        clear hrw hk hz S17
        refine hK.out _ _ (fun h => (S18.out.cell _ _ _ (.head _) 9 v rfl)) ?_
        clear hK K
        try simp only [Act.put, List.setIfInBounds_toArray, List.set_cons_zero, List.set_cons_succ]
        refine anyT_step (i := 4) (oi := _) rfl (by kernel_rfl) (by rfl) (fun K hK => ?_)
        refine wp_app S18.out hok infoNode nodesU rfl (by decide) (by decide) _ _ rfl rfl _ 2 _ rfl cur2 hg2 (flat vs2) (by rw [hl2.flat, h22]) (news_at hcur2) hl2.one (by decide) (by omega) (fun g20 cap21 w22 cur23 S24 hok25 => ?_)
        replace S24 := Lib.hid S24
        refine hK.out (Act.put _ (some 30) _) _ (fun h => (S24.out.cell _ _ _ (.head _) 9 v rfl)) ?_
        clear hK K
        try simp only [Act.put, List.setIfInBounds_toArray, List.set_cons_zero, List.set_cons_succ]
        refine anyT_take (i := 5) (oi := _) (v := (.pointer (some ⟨w2.heap.size, 9, none⟩))) (d := (some 31)) rfl rfl (by kernel_rfl) (by kernel_rfl) rfl (by kernel_rfl) (by kernel_rfl) (fun _ _ _ h => h) (Or.inl ⟨by rfl, fun w hS => by go_simp⟩) (S24.out.cell _ _ _ (.head _) 9 v rfl) ?_
        try simp only [Act.put, List.setIfInBounds_toArray, List.set_cons_zero, List.set_cons_succ]
        refine anyT_step (i := 6) (oi := _) rfl (by kernel_rfl) (by rfl) (fun K hK => ?_)
        refine wp_st_cell _ _ _ rfl (by kernel_rfl) (w2.heap.size) 9 (.slice (some ⟨g20, 0, none⟩) (l.length + 2) cap21) rfl rfl rfl _ _ (S24.out.blk _ _ _ (.head _)) (by simp [ndCells]) ?_
        refine hK.out (Act.put _ none _) _ (fun h => by cases h) ?_
        clear hK K
        try simp only [Act.put, List.setIfInBounds_toArray, List.set_cons_zero, List.set_cons_succ]
        have S26 : Hid (St p vw ws en W (· = p) (W.heap.size ≤ ·) ([(w2.heap.size, 28, (ndCells 5 (placeZ ws en i) ⟨#[]⟩ 0 ⟨#[]⟩ ⟨#[]⟩ (.slice none 0 0) (.slice (some ⟨g20, 0, none⟩) (l.length + 2) cap21))), (W.heap.size, 28, (ndCells 0 0 ⟨#[]⟩ 0 ⟨#[]⟩ ⟨#[]⟩ (.slice none 0 0) (.slice none 0 0)))] ++ own 28 (.slice (some ⟨g20, 0, none⟩) (l.length + 2) cap21) cur23) ((vs ++ vs2).zip (l ++ l2)) i2 (o + 1) _) := Lib.hid (S24.out.setCell 0 _ _ _ rfl 9 (.slice (some ⟨g20, 0, none⟩) (l.length + 2) cap21) (ndCells 5 (placeZ ws en i) ⟨#[]⟩ 0 ⟨#[]⟩ ⟨#[]⟩ (.slice none 0 0) (.slice (some ⟨g20, 0, none⟩) (l.length + 2) cap21)) rfl)
        clear S24
        refine anyT_done (by kernel_rfl) ?_ _
        generalize w22.setCell ⟨w2.heap.size, 9, none⟩ (.slice (some ⟨g20, 0, none⟩) (l.length + 2) cap21) = w27 at S26 ⊢
        have hok2 : OkR W.heap.size 10 (.slice (some ⟨g20, 0, none⟩) (l.length + 2) cap21) cur23 (l ++ l2).length (flat (vs ++ vs2)) := by
          rw [List.length_append, flat_append, h22]
          exact hok25
        have hvl2 : (vs ++ vs2).length = (l ++ l2).length := by rw [List.length_append, List.length_append, hvl, hl2.length]
        go_wp2_with fail
        have S28 := Lib.hid (S26.out.waste (.cells #[.string ⟨#[44]⟩] 9))
        clear S26
        cases hb29 : isZ ws i2 ⟨#[44]⟩ with
        | true =>
          rw [if_pos hb29] at hr
          refine (take_calls _ _ ⟨#[44]⟩ _ true hb29 (cell_top _ _ _ _ (by simp)) S28.out.row).mono ?_
          rintro _ w30 ⟨rfl, hrw, hk⟩
          replace hrw : Rw p vw ws en (i2 + 1) _ _ := hrw
          have S31 := Lib.hid (S28.out.call hrw hk)
          clear hrw hk
          go_wp2_with fail
          go_roundg f
          case rel => exact ⟨f, _, l ++ l2, vs ++ vs2, (.slice (some ⟨g20, 0, none⟩) (l.length + 2) cap21), cur23, Or.inl ⟨rfl, rfl, Lib.hid hr, Lib.hid (by simp [h22]; omega)⟩, Lib.hid ⟨hvl2, hok2⟩, S31⟩
          case measure => omega
        | false =>
          rw [if_neg (by rw [hb29]; decide)] at hr
          refine (take_calls _ _ ⟨#[44]⟩ _ false hb29 (cell_top _ _ _ _ (by simp)) S28.out.row).mono ?_
          rintro _ w32 ⟨rfl, hrw, hk⟩
          replace hrw : Rw p vw ws en i2 _ _ := hrw
          have S33 := Lib.hid (S28.out.call hrw hk)
          clear hrw hk
          rw [ok_andThen] at hr
          go_wp2_with fail
          go_roundg 0
          case rel => exact ⟨0, _, l ++ l2, vs ++ vs2, (.slice (some ⟨g20, 0, none⟩) (l.length + 2) cap21), cur23, Or.inr ⟨rfl, Lib.hid hr⟩, Lib.hid ⟨hvl2, hok2⟩, S33⟩
          case measure => omega
      ·
        have hr := HR.out
        clear HR
        go_wp2_with fail
        rcases PR.cases hr with ⟨x35, hz, rfl⟩ | ⟨u36, i37, o38, hz, hr'⟩
        · refine (closes_calls _ (by omega) ⟨#[125]⟩ _ hz S.out.row).mono ?_
          rintro _ _ ⟨rfl, hk⟩
          exact ⟨rfl, S.out.dies hk⟩
        replace hr := hr'
        clear hr'
        refine (closes_calls _ (by omega) ⟨#[125]⟩ _ hz S.out.row).mono ?_
        rintro _ w34 ⟨⟨_, rfl, rfl⟩, hrw, hk⟩
        obtain ⟨rfl, rfl⟩ := closesZ_ok hz
        have S39 := Lib.hid (S.out.call hrw hk)
        clear S
        clear hrw hk hz
        cases hr
        have S40 := Lib.hid (S39.out.shut vs l hvl hok (fun z hz => hz) 5 (placeZ ws en i) ⟨#[]⟩)
        clear S39
        go_wp2_with (first
          | (refine ld_node rfl _ rfl _ rfl _ (S40.out.blk _ _ _ (.head _)) rfl ?_)
          | (refine st_node rfl _ _ rfl _ _ rfl rfl _ (S40.out.blk _ _ _ (.tail _ (.head _))) rfl rfl (by first | (simp [ndCells, Value.oneCell']; done) | exact nd_one rfl hok.one | exact nd_one hok.one rfl) ?_))
        have S41 := Lib.hid (S40.out.setRow 1 _ _ _ (ndCells 5 (placeZ ws en i) ⟨#[]⟩ 0 ⟨#[]⟩ ⟨#[]⟩ (.slice none 0 0) v) rfl)
        clear S40
        refine ret_node rfl _ _ rfl (S41.out.blk _ _ _ (.tail _ (.head _))) rfl rfl ?_
        first | exact S41.out.done | (have e := S41.out.done; simp only [Int.add_sub_cancel] at e; exact e) | (simp only [Int.add_sub_cancel]; exact S41.out.done)
  | false =>
    rw [if_neg (by rw [hb14]; decide)] at hr
    go_wp2_with fail
    have S42 := Lib.hid (S15.out.toNil 28)
    have hok := OkR.nil W.heap.size 10
    have HR := Lib.hid hr
    clear hr
    go_wp2_with fail
    have hro := S42.out.row.olo
    go_loopg [4] k (fun g v4 wx => ∃ (f i1 : Nat) (l : List SN) (vs : List (Array Value)) (v : Value) (cur : Array Value), ((v4 = .bool true ∧ g = f ∧ Hid (((entriesZ ws en rc k f l i1 (o + 1)).andThen fun l j o => (closesZ ws en ⟨#[125]⟩ j o).andThen fun _ j o => .ok (nd 5 (placeZ ws en i) l) j o) = some r) ∧ Hid (l.length + 2 * f ≤ 2 * k)) ∨ (v4 = .bool false ∧ Hid (((closesZ ws en ⟨#[125]⟩ i1 (o + 1)).andThen fun _ j o => .ok (nd 5 (placeZ ws en i) l) j o) = some r))) ∧ Hid (vs.length = l.length ∧ OkR W.heap.size 10 v cur l.length (flat vs)) ∧ Hid (St p vw ws en W (· = p) (W.heap.size ≤ ·) ([(w2.heap.size, 28, (ndCells 5 (placeZ ws en i) ⟨#[]⟩ 0 ⟨#[]⟩ ⟨#[]⟩ (.slice none 0 0) v)), (W.heap.size, 28, (ndCells 0 0 ⟨#[]⟩ 0 ⟨#[]⟩ ⟨#[]⟩ (.slice none 0 0) (.slice none 0 0)))] ++ own 28 v cur) (vs.zip l) i1 (o + 1) wx))
    case atStart => exact ⟨k, _, [], [], _, #[], Or.inl ⟨rfl, rfl, HR, Lib.hid (by simp)⟩, Lib.hid ⟨rfl, hok⟩, S42⟩
    case round =>
      clear HR S42 hok
      obtain ⟨f, i1, l, vs, v, cur, hcase, HF, S⟩ := hrel
      obtain ⟨hvl, hok⟩ := HF.out
      clear HF
      rcases hcase with ⟨rfl, hg, HR, HL⟩ | ⟨rfl, HR⟩
      ·
        have hr := HR.out
        have hlk := HL.out
        obtain ⟨f, rfl⟩ : ∃ m, f = m + 1 := ⟨f - 1, by have : f ≠ 0 := (by rintro rfl; cases hr); omega⟩
        rw [entriesZ, andThen_assoc] at hr
        clear HR HL
        go_wp2_with fail
        refine region_T (fun w => w.cell? ⟨w2.heap.size, 9, none⟩ = some v) (fun j => j == 6) 7 rfl (by kernel_rfl) ?_
        have S43 := Lib.hid (S.out.drawn (w' := World.drew _) ⟨1, rfl⟩)
        clear S
        refine anyT_take (i := 0) (oi := _) (v := (.pointer (some ⟨w2.heap.size, 9, none⟩))) (d := (some 26)) rfl rfl (by kernel_rfl) (by kernel_rfl) rfl (by kernel_rfl) (by kernel_rfl) (fun _ _ _ h => h) (Or.inl ⟨by rfl, fun w hS => by go_simp⟩) (S43.out.cell _ _ _ (.head _) 9 v rfl) ?_
        try simp only [Act.put, List.setIfInBounds_toArray, List.set_cons_zero, List.set_cons_succ]
        refine anyT_take (i := 1) (oi := _) (v := v) (d := (some 27)) rfl rfl (by kernel_rfl) (by kernel_rfl) rfl (by kernel_rfl) (by kernel_rfl) (fun _ _ _ h => h) (yl_cell 26 _ rfl (by rfl) (by kernel_rfl) _ _ rfl _ (fun _ h => h)) (S43.out.cell _ _ _ (.head _) 9 v rfl) ?_
        try simp only [Act.put, List.setIfInBounds_toArray, List.set_cons_zero, List.set_cons_succ]
        refine anyT_take (i := 2) (oi := _) (v := (.pointer (some ⟨p, 0, none⟩))) (d := (some 28)) rfl rfl (by kernel_rfl) (by kernel_rfl) rfl (by kernel_rfl) (by kernel_rfl) (fun _ _ _ h => h) (Or.inl ⟨by rfl, fun _ _ => rfl⟩) (S43.out.cell _ _ _ (.head _) 9 v rfl) ?_
        try simp only [Act.put, List.setIfInBounds_toArray, List.set_cons_zero, List.set_cons_succ]
        refine anyT_step (i := 3) (oi := _) rfl (by kernel_rfl) (by rfl) (fun K hK => ?_)
        go_simp
        rcases PR.cases hr with ⟨xx, hz, rfl⟩ | ⟨l2, i2, o2, hz, hr'⟩
        · refine (entry_calls RC _ k hkb _ hz S43.out.row).mono ?_
          rintro _ _ ⟨rfl, hk⟩
          exact ⟨rfl, S43.out.dies hk⟩
        replace hr := hr'
        clear hr'
        have ho := (entry_even RC.even _ _ _ _ _ _ hz).symm
        subst ho
        refine (entry_calls RC _ k hkb _ hz S43.out.row).mono ?_
        rintro _ w45 ⟨⟨_, rfl, ⟨g2, cur2, vs2, rfl, hg2, hcur2, h22, hl2⟩⟩, hrw, hk⟩
        have S44 := Lib.hid (S43.out.addL hrw hk hvl hl2)
        clear hrw hk hz S43
        refine hK.out _ _ (fun h => (S44.out.cell _ _ _ (.head _) 9 v rfl)) ?_
        clear hK K
        try simp only [Act.put, List.setIfInBounds_toArray, List.set_cons_zero, List.set_cons_succ]
        refine anyT_step (i := 4) (oi := _) rfl (by kernel_rfl) (by rfl) (fun K hK => ?_)
        refine wp_app S44.out hok infoNode nodesU rfl (by decide) (by decide) _ _ rfl rfl _ 2 _ rfl cur2 hg2 (flat vs2) (by rw [hl2.flat, h22]) (news_at hcur2) hl2.one (by decide) (by omega) (fun g46 cap47 w48 cur49 S50 hok51 => ?_)
        replace S50 := Lib.hid S50
        refine hK.out (Act.put _ (some 30) _) _ (fun h => (S50.out.cell _ _ _ (.head _) 9 v rfl)) ?_
        clear hK K
        try simp only [Act.put, List.setIfInBounds_toArray, List.set_cons_zero, List.set_cons_succ]
        refine anyT_take (i := 5) (oi := _) (v := (.pointer (some ⟨w2.heap.size, 9, none⟩))) (d := (some 31)) rfl rfl (by kernel_rfl) (by kernel_rfl) rfl (by kernel_rfl) (by kernel_rfl) (fun _ _ _ h => h) (Or.inl ⟨by rfl, fun w hS => by go_simp⟩) (S50.out.cell _ _ _ (.head _) 9 v rfl) ?_
        try simp only [Act.put, List.setIfInBounds_toArray, List.set_cons_zero, List.set_cons_succ]
        refine anyT_step (i := 6) (oi := _) rfl (by kernel_rfl) (by rfl) (fun K hK => ?_)
        refine wp_st_cell _ _ _ rfl (by kernel_rfl) (w2.heap.size) 9 (.slice (some ⟨g46, 0, none⟩) (l.length + 2) cap47) rfl rfl rfl _ _ (S50.out.blk _ _ _ (.head _)) (by simp [ndCells]) ?_
        refine hK.out (Act.put _ none _) _ (fun h => by cases h) ?_
        clear hK K
        try simp only [Act.put, List.setIfInBounds_toArray, List.set_cons_zero, List.set_cons_succ]
        have S52 : Hid (St p vw ws en W (· = p) (W.heap.size ≤ ·) ([(w2.heap.size, 28, (ndCells 5 (placeZ ws en i) ⟨#[]⟩ 0 ⟨#[]⟩ ⟨#[]⟩ (.slice none 0 0) (.slice (some ⟨g46, 0, none⟩) (l.length + 2) cap47))), (W.heap.size, 28, (ndCells 0 0 ⟨#[]⟩ 0 ⟨#[]⟩ ⟨#[]⟩ (.slice none 0 0) (.slice none 0 0)))] ++ own 28 (.slice (some ⟨g46, 0, none⟩) (l.length + 2) cap47) cur49) ((vs ++ vs2).zip (l ++ l2)) i2 (o + 1) _) := Lib.hid (S50.out.setCell 0 _ _ _ rfl 9 (.slice (some ⟨g46, 0, none⟩) (l.length + 2) cap47) (ndCells 5 (placeZ ws en i) ⟨#[]⟩ 0 ⟨#[]⟩ ⟨#[]⟩ (.slice none 0 0) (.slice (some ⟨g46, 0, none⟩) (l.length + 2) cap47)) rfl)
        clear S50
        refine anyT_done (by kernel_rfl) ?_ _
        generalize w48.setCell ⟨w2.heap.size, 9, none⟩ (.slice (some ⟨g46, 0, none⟩) (l.length + 2) cap47) = w53 at S52 ⊢
        have hok2 : OkR W.heap.size 10 (.slice (some ⟨g46, 0, none⟩) (l.length + 2) cap47) cur49 (l ++ l2).length (flat (vs ++ vs2)) := by
          rw [List.length_append, flat_append, h22]
          exact hok51
        have hvl2 : (vs ++ vs2).length = (l ++ l2).length := by rw [List.length_append, List.length_append, hvl, hl2.length]
        go_wp2_with fail
        have S54 := Lib.hid (S52.out.waste (.cells #[.string ⟨#[44]⟩] 9))
        clear S52
        cases hb55 : isZ ws i2 ⟨#[44]⟩ with
        | true =>
          rw [if_pos hb55] at hr
          refine (take_calls _ _ ⟨#[44]⟩ _ true hb55 (cell_top _ _ _ _ (by simp)) S54.out.row).mono ?_
          rintro _ w56 ⟨rfl, hrw, hk⟩
          replace hrw : Rw p vw ws en (i2 + 1) _ _ := hrw
          have S57 := Lib.hid (S54.out.call hrw hk)
          clear hrw hk
          go_wp2_with fail
          go_roundg f
          case rel => exact ⟨f, _, l ++ l2, vs ++ vs2, (.slice (some ⟨g46, 0, none⟩) (l.length + 2) cap47), cur49, Or.inl ⟨rfl, rfl, Lib.hid hr, Lib.hid (by simp [h22]; omega)⟩, Lib.hid ⟨hvl2, hok2⟩, S57⟩
          case measure => omega
        | false =>
          rw [if_neg (by rw [hb55]; decide)] at hr
          refine (take_calls _ _ ⟨#[44]⟩ _ false hb55 (cell_top _ _ _ _ (by simp)) S54.out.row).mono ?_
          rintro _ w58 ⟨rfl, hrw, hk⟩
          replace hrw : Rw p vw ws en i2 _ _ := hrw
          have S59 := Lib.hid (S54.out.call hrw hk)
          clear hrw hk
          rw [ok_andThen] at hr
          go_wp2_with fail
          go_roundg 0
          case rel => exact ⟨0, _, l ++ l2, vs ++ vs2, (.slice (some ⟨g46, 0, none⟩) (l.length + 2) cap47), cur49, Or.inr ⟨rfl, Lib.hid hr⟩, Lib.hid ⟨hvl2, hok2⟩, S59⟩
          case measure => omega
      ·
        have hr := HR.out
        clear HR
        go_wp2_with fail
        rcases PR.cases hr with ⟨x61, hz, rfl⟩ | ⟨u62, i63, o64, hz, hr'⟩
        · refine (closes_calls _ (by omega) ⟨#[125]⟩ _ hz S.out.row).mono ?_
          rintro _ _ ⟨rfl, hk⟩
          exact ⟨rfl, S.out.dies hk⟩
        replace hr := hr'
        clear hr'
        refine (closes_calls _ (by omega) ⟨#[125]⟩ _ hz S.out.row).mono ?_
        rintro _ w60 ⟨⟨_, rfl, rfl⟩, hrw, hk⟩
        obtain ⟨rfl, rfl⟩ := closesZ_ok hz
        have S65 := Lib.hid (S.out.call hrw hk)
        clear S
        clear hrw hk hz
        cases hr
        have S66 := Lib.hid (S65.out.shut vs l hvl hok (fun z hz => hz) 5 (placeZ ws en i) ⟨#[]⟩)
        clear S65
        go_wp2_with (first
          | (refine ld_node rfl _ rfl _ rfl _ (S66.out.blk _ _ _ (.head _)) rfl ?_)
          | (refine st_node rfl _ _ rfl _ _ rfl rfl _ (S66.out.blk _ _ _ (.tail _ (.head _))) rfl rfl (by first | (simp [ndCells, Value.oneCell']; done) | exact nd_one rfl hok.one | exact nd_one hok.one rfl) ?_))
        have S67 := Lib.hid (S66.out.setRow 1 _ _ _ (ndCells 5 (placeZ ws en i) ⟨#[]⟩ 0 ⟨#[]⟩ ⟨#[]⟩ (.slice none 0 0) v) rfl)
        clear S66
        refine ret_node rfl _ _ rfl (S67.out.blk _ _ _ (.tail _ (.head _))) rfl rfl ?_
        first | exact S67.out.done | (have e := S67.out.done; simp only [Int.add_sub_cancel] at e; exact e) | (simp only [Int.add_sub_cancel]; exact S67.out.done)

end Go.Proofs.YthlmhnlfcnpocaaDoor.U

/- The parser with so much fuel, as it runs: by induction on the fuel, out of the walks. -/
import Derived.Test.YthlmhnlfcnpocaaDoorRowAll
import Derived.Test.YthlmhnlfcnpocaaDoorSynAll
import Derived.Test.YthlmhnlfcnpocaaDoorW1
import Derived.Test.YthlmhnlfcnpocaaDoorW2
import Derived.Test.YthlmhnlfcnpocaaDoorW3
namespace Go.Proofs.YthlmhnlfcnpocaaDoor.U
open Go.RowKit Go.Proofs.YthlmhnlfcnpocaaDoorW.PrintWords
set_option linter.unusedSimpArgs false
set_option linter.unusedVariables false

set_option maxHeartbeats 8000000 in
set_option maxRecDepth 100000 in
theorem term_calls {p : Nat} {vw : Value} {ws : List Tok} {en : Int} {rc : PC → Nat → Int → PR SN} (RC : RcOk p vw ws en rc) {i : Nat} {o : Int} (W : World) (k : Nat) (hkb : k ≤ 8589934592) (r : Except (Int × Int) (SN × Nat × Int)) (hr : termZ ws en rc k i o = some r) (h : Rw p vw ws en i o W) :
    Calls Tryd.prog 46 #[.pointer (some ⟨p, 0, none⟩)] W (Ends p vw ws en W (IsN (W.heap.size ≤ ·)) r) := by
  have S0 := Lib.hid (St.start (G := (W.heap.size ≤ ·)) (V := []) h (Nat.not_le.2 h.lt) (fun k hk => hk) (fun _ hx => by cases hx))
  clear h
  go_enter Tryd.func46, Tryd.ntmps46
  go_wp2_with fail
  have S1 := Lib.hid (S0.out.allocAt (W.heap.size) (by simp [World.setCell]) 28 (ndCells 0 0 ⟨#[]⟩ 0 ⟨#[]⟩ ⟨#[]⟩ (.slice none 0 0) (.slice none 0 0)))
  clear S0
  refine (place_calls _ S1.out.row).mono ?_
  rintro _ w2 ⟨rfl, hd⟩
  have S3 := Lib.hid (S1.out.drawn hd)
  clear S1
  clear hd
  go_wp2_with fail
  refine (kind_calls _ S3.out.row).mono ?_
  rintro _ w4 ⟨rfl, hd⟩
  have S5 := Lib.hid (S3.out.drawn hd)
  clear S3
  clear hd
  unfold termZ at hr
  simp only at hr
  by_cases hk : kindZ ws i = 4
  ·
    rw [if_pos hk] at hr
    cases hr
    rw [hk]
    go_wp2_with fail
    refine (name_calls _ 4 (by decide) _ (nameZ_yes hk) S5.out.row).mono ?_
    rintro _ w6 ⟨⟨_, rfl, rfl⟩, hrw, hk⟩
    have S7 := Lib.hid (S5.out.call hrw hk)
    clear hrw hk
    go_wp2_with fail
    refine (txt_calls _ (saidZ ws i) (placeZ ws en i) S7.out.row).mono ?_
    rintro _ w8 ⟨rfl, hrw, hk⟩
    have S9 := Lib.hid (S7.out.call hrw hk)
    clear S7
    clear hrw hk
    have S10 := Lib.hid (S9.out.plain 2 (placeZ ws en i) ⟨#[]⟩ 4 ⟨#[]⟩ (saidZ ws i))
    clear S9
    have S11 := Lib.hid (S10.out.plain 1 (placeZ ws en i) ⟨#[]⟩ 0 ⟨#[]⟩ ⟨#[]⟩)
    clear S10
    go_wp2_with (first
      | (refine bs_nodes rfl 2 _ rfl [(ndCells 1 (placeZ ws en i) ⟨#[]⟩ 0 ⟨#[]⟩ ⟨#[]⟩ (.slice none 0 0) (.slice none 0 0)), (ndCells 2 (placeZ ws en i) ⟨#[]⟩ 4 ⟨#[]⟩ (saidZ ws i) (.slice none 0 0) (.slice none 0 0))] rfl (by intro c hc; simp only [List.mem_cons, List.not_mem_nil, or_false] at hc; rcases hc with rfl | rfl <;> first | assumption | rfl) rfl (by decide) (by decide) ?_; intro cur hcur; have S12 := Lib.hid (S11.out.build 7 (placeZ ws en i) ⟨#[]⟩ [(ndCells 1 (placeZ ws en i) ⟨#[]⟩ 0 ⟨#[]⟩ ⟨#[]⟩ (.slice none 0 0) (.slice none 0 0)), (ndCells 2 (placeZ ws en i) ⟨#[]⟩ 4 ⟨#[]⟩ (saidZ ws i) (.slice none 0 0) (.slice none 0 0))] [(SN.mk 1 (placeZ ws en i) ⟨#[]⟩ 0 ⟨#[]⟩ ⟨#[]⟩ [] []), (SN.mk 2 (placeZ ws en i) ⟨#[]⟩ 4 ⟨#[]⟩ (saidZ ws i) [] [])] (.cons (S11.out.nds ((ndCells 1 (placeZ ws en i) ⟨#[]⟩ 0 ⟨#[]⟩ ⟨#[]⟩ (.slice none 0 0) (.slice none 0 0)), (SN.mk 1 (placeZ ws en i) ⟨#[]⟩ 0 ⟨#[]⟩ ⟨#[]⟩ [] [])) (.head _)) (.cons (S11.out.nds ((ndCells 2 (placeZ ws en i) ⟨#[]⟩ 4 ⟨#[]⟩ (saidZ ws i) (.slice none 0 0) (.slice none 0 0)), (SN.mk 2 (placeZ ws en i) ⟨#[]⟩ 4 ⟨#[]⟩ (saidZ ws i) [] [])) (.tail _ (.head _))) .nil)) (by simp) (by simp) cur hcur))
      | (refine st_nodeO rfl _ _ rfl (W.heap.size) (ndCells 7 (placeZ ws en i) ⟨#[]⟩ 0 ⟨#[]⟩ ⟨#[]⟩ (.slice none 0 0) (.slice (some ⟨w8.heap.size, 0, none⟩) 2 2)) rfl rfl _ (S12.out.blk _ _ _ (.head _)) rfl rfl (by first | (simp [ndCells, Value.oneCell']; done) | exact nd_one rfl hok.one | exact nd_one hok.one rfl) ?_; intro w13 hwN; have S14 := Lib.hid (S12.out.setRowO 0 _ _ _ (ndCells 7 (placeZ ws en i) ⟨#[]⟩ 0 ⟨#[]⟩ ⟨#[]⟩ (.slice none 0 0) (.slice (some ⟨w8.heap.size, 0, none⟩) 2 2)) rfl hwN); clear hwN))
    refine ret_node rfl _ _ rfl (S14.out.blk _ _ _ (.head _)) rfl rfl ?_
    first | exact S14.out.done | (have e := S14.out.done; simp only [Int.add_sub_cancel] at e; exact e) | (simp only [Int.add_sub_cancel]; exact S14.out.done)
  rw [if_neg hk] at hr
  have q4 : (kindZ ws i == 4) = false := by simpa using hk
  clear hk
  by_cases hk : kindZ ws i = 5
  ·
    rw [if_pos hk] at hr
    cases hr
    clear q4
    rw [hk]
    go_wp2_with fail
    refine (name_calls _ 5 (by decide) _ (nameZ_yes hk) S5.out.row).mono ?_
    rintro _ w15 ⟨⟨_, rfl, rfl⟩, hrw, hk⟩
    have S16 := Lib.hid (S5.out.call hrw hk)
    clear hrw hk
    have S17 := Lib.hid (S16.out.plain 2 (placeZ ws en i) ⟨#[]⟩ 3 (saidZ ws i) ⟨#[]⟩)
    clear S16
    go_wp2_with (first
      | (refine st_nodeO rfl _ _ rfl (W.heap.size) (ndCells 2 (placeZ ws en i) ⟨#[]⟩ 3 (saidZ ws i) ⟨#[]⟩ (.slice none 0 0) (.slice none 0 0)) rfl rfl _ (S17.out.blk _ _ _ (.head _)) rfl rfl (by first | (simp [ndCells, Value.oneCell']; done) | exact nd_one rfl hok.one | exact nd_one hok.one rfl) ?_; intro w18 hwN; have S19 := Lib.hid (S17.out.setRowO 0 _ _ _ (ndCells 2 (placeZ ws en i) ⟨#[]⟩ 3 (saidZ ws i) ⟨#[]⟩ (.slice none 0 0) (.slice none 0 0)) rfl hwN); clear hwN))
    refine ret_node rfl _ _ rfl (S19.out.blk _ _ _ (.head _)) rfl rfl ?_
    first | exact S19.out.done | (have e := S19.out.done; simp only [Int.add_sub_cancel] at e; exact e) | (simp only [Int.add_sub_cancel]; exact S19.out.done)
  rw [if_neg hk] at hr
  have q5 : (kindZ ws i == 5) = false := by simpa using hk
  clear hk
  by_cases hk : kindZ ws i = 6
  ·
    rw [if_pos (Or.inl hk)] at hr
    clear q4 q5
    rw [hk]
    go_wp2_with fail
    rcases PR.split r with ⟨x23, rfl⟩ | ⟨n20, i21, o22, rfl⟩
    · replace hz := hr
      refine (text_calls RC _ k hkb _ hz S5.out.row).mono ?_
      rintro _ _ ⟨rfl, hk⟩
      exact ⟨rfl, S5.out.dies hk⟩
    replace hz := hr
    have ho := (text_even RC.even _ _ _ _ _ _ hz).symm
    subst ho
    refine (text_calls RC _ k hkb _ hz S5.out.row).mono ?_
    rintro _ w25 ⟨⟨_, rfl, hn⟩, hrw, hk⟩
    obtain ⟨c24, rfl, S26⟩ := S5.out.made hrw hk hn
    replace S26 := Lib.hid S26
    have hszc24 := S26.out.fst.size
    have honec24 := S26.out.fst.one
    clear hrw hk hn
    clear hz
    go_wp2_with (first
      | (refine st_nodeO rfl _ _ rfl (W.heap.size) c24 rfl rfl _ (S26.out.blk _ _ _ (.head _)) hszc24 rfl honec24 ?_; intro w27 hwN; have S28 := Lib.hid (S26.out.setRowO 0 _ _ _ c24 rfl hwN); clear hwN))
    refine ret_node rfl _ _ rfl (S28.out.blk _ _ _ (.head _)) hszc24 rfl ?_
    first | exact S28.out.done | (have e := S28.out.done; simp only [Int.add_sub_cancel] at e; exact e) | (simp only [Int.add_sub_cancel]; exact S28.out.done)
  have h6 := hk
  have q6 : (kindZ ws i == 6) = false := by simpa using hk
  clear hk
  by_cases hk : kindZ ws i = 7
  ·
    rw [if_pos (Or.inr hk)] at hr
    clear q4 q5 q6
    rw [hk]
    go_wp2_with fail
    rcases PR.split r with ⟨x32, rfl⟩ | ⟨n29, i30, o31, rfl⟩
    · replace hz := hr
      refine (text_calls RC _ k hkb _ hz S5.out.row).mono ?_
      rintro _ _ ⟨rfl, hk⟩
      exact ⟨rfl, S5.out.dies hk⟩
    replace hz := hr
    have ho := (text_even RC.even _ _ _ _ _ _ hz).symm
    subst ho
    refine (text_calls RC _ k hkb _ hz S5.out.row).mono ?_
    rintro _ w34 ⟨⟨_, rfl, hn⟩, hrw, hk⟩
    obtain ⟨c33, rfl, S35⟩ := S5.out.made hrw hk hn
    replace S35 := Lib.hid S35
    have hszc33 := S35.out.fst.size
    have honec33 := S35.out.fst.one
    clear hrw hk hn
    clear hz
    go_wp2_with (first
      | (refine st_nodeO rfl _ _ rfl (W.heap.size) c33 rfl rfl _ (S35.out.blk _ _ _ (.head _)) hszc33 rfl honec33 ?_; intro w36 hwN; have S37 := Lib.hid (S35.out.setRowO 0 _ _ _ c33 rfl hwN); clear hwN))
    refine ret_node rfl _ _ rfl (S37.out.blk _ _ _ (.head _)) hszc33 rfl ?_
    first | exact S37.out.done | (have e := S37.out.done; simp only [Int.add_sub_cancel] at e; exact e) | (simp only [Int.add_sub_cancel]; exact S37.out.done)
  rw [if_neg (fun e => e.elim h6 hk)] at hr
  have q7 : (kindZ ws i == 7) = false := by simpa using hk
  clear hk h6
  by_cases hk : kindZ ws i = 3
  ·
    rw [if_pos hk] at hr
    cases hr
    clear q4 q5 q6 q7
    rw [hk]
    go_wp2_with fail
    refine (name_calls _ 3 (by decide) _ (nameZ_yes hk) S5.out.row).mono ?_
    rintro _ w38 ⟨⟨_, rfl, rfl⟩, hrw, hk⟩
    have S39 := Lib.hid (S5.out.call hrw hk)
    clear hrw hk
    have S40 := Lib.hid (S39.out.plain 6 (placeZ ws en i) (saidZ ws i) 0 ⟨#[]⟩ ⟨#[]⟩)
    clear S39
    go_wp2_with (first
      | (refine st_nodeO rfl _ _ rfl (W.heap.size) (ndCells 6 (placeZ ws en i) (saidZ ws i) 0 ⟨#[]⟩ ⟨#[]⟩ (.slice none 0 0) (.slice none 0 0)) rfl rfl _ (S40.out.blk _ _ _ (.head _)) rfl rfl (by first | (simp [ndCells, Value.oneCell']; done) | exact nd_one rfl hok.one | exact nd_one hok.one rfl) ?_; intro w41 hwN; have S42 := Lib.hid (S40.out.setRowO 0 _ _ _ (ndCells 6 (placeZ ws en i) (saidZ ws i) 0 ⟨#[]⟩ ⟨#[]⟩ (.slice none 0 0) (.slice none 0 0)) rfl hwN); clear hwN))
    refine ret_node rfl _ _ rfl (S42.out.blk _ _ _ (.head _)) rfl rfl ?_
    first | exact S42.out.done | (have e := S42.out.done; simp only [Int.add_sub_cancel] at e; exact e) | (simp only [Int.add_sub_cancel]; exact S42.out.done)
  rw [if_neg hk] at hr
  have q3 : (kindZ ws i == 3) = false := by simpa using hk
  clear hk
  by_cases hk : kindZ ws i = 1
  ·
    rw [if_pos hk] at hr
    clear q4 q5 q6 q7 q3
    rw [hk]
    go_wp2_with fail
    rcases PR.split r with ⟨x46, rfl⟩ | ⟨n43, i44, o45, rfl⟩
    · replace hz := hr
      refine (call_calls RC _ k hkb _ hz S5.out.row).mono ?_
      rintro _ _ ⟨rfl, hk⟩
      exact ⟨rfl, S5.out.dies hk⟩
    replace hz := hr
    have ho := (call_even RC.even _ _ _ _ _ _ hz).symm
    subst ho
    refine (call_calls RC _ k hkb _ hz S5.out.row).mono ?_
    rintro _ w48 ⟨⟨_, rfl, hn⟩, hrw, hk⟩
    obtain ⟨c47, rfl, S49⟩ := S5.out.made hrw hk hn
    replace S49 := Lib.hid S49
    have hszc47 := S49.out.fst.size
    have honec47 := S49.out.fst.one
    clear hrw hk hn
    clear hz
    go_wp2_with (first
      | (refine st_nodeO rfl _ _ rfl (W.heap.size) c47 rfl rfl _ (S49.out.blk _ _ _ (.head _)) hszc47 rfl honec47 ?_; intro w50 hwN; have S51 := Lib.hid (S49.out.setRowO 0 _ _ _ c47 rfl hwN); clear hwN))
    refine ret_node rfl _ _ rfl (S51.out.blk _ _ _ (.head _)) hszc47 rfl ?_
    first | exact S51.out.done | (have e := S51.out.done; simp only [Int.add_sub_cancel] at e; exact e) | (simp only [Int.add_sub_cancel]; exact S51.out.done)
  rw [if_neg hk] at hr
  have q1 : (kindZ ws i == 1) = false := by simpa using hk
  clear hk
  by_cases hk : kindZ ws i = 10
  ·
    rw [if_pos (Or.inl hk)] at hr
    clear q4 q5 q6 q7 q3 q1
    have hi := kindZ_lt hk (by decide)
    rw [hk]
    go_wp2_with fail
    obtain ⟨g0, cp0, hvg, _, _, _⟩ := S5.out.row.word i hi
    subst hvg
    have hi0 : (0 : Int) ≤ (i : Int) := by omega
    have hi1 : (i : Int) < (ws.length : Int) := by omega
    refine region_T (fun w => w.cell? ⟨p, 0, none⟩ = some (.slice (some ⟨g0, 0, none⟩) ws.length cp0) ∧ w.cell? ⟨p, 1, none⟩ = some (.int .i64 i) ∧ w.cell? ⟨g0, i * 4 + 3, none⟩ = some (.string (saidZ ws i)) ∧ w.cell? ⟨g0, i * 4 + 1, none⟩ = some (.int .i64 (placeZ ws en i))) (fun j => j == 19) 20 rfl (by kernel_rfl) ?_
    have S52 := Lib.hid (S5.out.drawn (w' := World.drew _) ⟨1, rfl⟩)
    refine anyT_take (i := 1) (oi := _) (v := (.pointer (some ⟨p, 0, none⟩))) (d := (some 58)) rfl rfl (by kernel_rfl) (by kernel_rfl) rfl (by kernel_rfl) (by kernel_rfl) (fun _ _ _ h => h) (Or.inl ⟨by rfl, fun _ _ => rfl⟩) (S52.out.row.seen i hi) ?_
    try simp only [Act.put, List.setIfInBounds_toArray, List.set_cons_zero, List.set_cons_succ]
    refine anyT_take (i := 2) (oi := _) (v := (.pointer (some ⟨p, 0, none⟩))) (d := (some 59)) rfl rfl (by kernel_rfl) (by kernel_rfl) rfl (by kernel_rfl) (by kernel_rfl) (fun _ _ _ h => h) (Or.inl ⟨by rfl, fun w hS => by go_simp⟩) (S52.out.row.seen i hi) ?_
    try simp only [Act.put, List.setIfInBounds_toArray, List.set_cons_zero, List.set_cons_succ]
    refine anyT_take (i := 3) (oi := _) (v := (.pointer (some ⟨p, 0, none⟩))) (d := (some 60)) rfl rfl (by kernel_rfl) (by kernel_rfl) rfl (by kernel_rfl) (by kernel_rfl) (fun _ _ _ h => h) (Or.inl ⟨by rfl, fun w hS => by go_simp⟩) (S52.out.row.seen i hi) ?_
    try simp only [Act.put, List.setIfInBounds_toArray, List.set_cons_zero, List.set_cons_succ]
    refine anyT_take (i := 4) (oi := _) (v := (.pointer (some ⟨p, 0, none⟩))) (d := (some 61)) rfl rfl (by kernel_rfl) (by kernel_rfl) rfl (by kernel_rfl) (by kernel_rfl) (fun _ _ _ h => h) (Or.inl ⟨by rfl, fun w hS => by go_simp⟩) (S52.out.row.seen i hi) ?_
    try simp only [Act.put, List.setIfInBounds_toArray, List.set_cons_zero, List.set_cons_succ]
    refine anyT_take (i := 5) (oi := _) (v := (.slice (some ⟨g0, 0, none⟩) ws.length cp0)) (d := (some 62)) rfl rfl (by kernel_rfl) (by kernel_rfl) rfl (by kernel_rfl) (by kernel_rfl) (fun _ _ _ h => h) (yl_cell 37 _ rfl (by rfl) (by kernel_rfl) _ _ rfl _ (fun _ h => h.1)) (S52.out.row.seen i hi) ?_
    try simp only [Act.put, List.setIfInBounds_toArray, List.set_cons_zero, List.set_cons_succ]
    refine anyT_take (i := 6) (oi := _) (v := (.pointer (some ⟨p, 0, none⟩))) (d := (some 63)) rfl rfl (by kernel_rfl) (by kernel_rfl) rfl (by kernel_rfl) (by kernel_rfl) (fun _ _ _ h => h) (Or.inl ⟨by rfl, fun _ _ => rfl⟩) (S52.out.row.seen i hi) ?_
    try simp only [Act.put, List.setIfInBounds_toArray, List.set_cons_zero, List.set_cons_succ]
    refine anyT_take (i := 7) (oi := _) (v := (.pointer (some ⟨p, 0, none⟩))) (d := (some 64)) rfl rfl (by kernel_rfl) (by kernel_rfl) rfl (by kernel_rfl) (by kernel_rfl) (fun _ _ _ h => h) (Or.inl ⟨by rfl, fun w hS => by go_simp⟩) (S52.out.row.seen i hi) ?_
    try simp only [Act.put, List.setIfInBounds_toArray, List.set_cons_zero, List.set_cons_succ]
    refine anyT_take (i := 8) (oi := _) (v := (.pointer (some ⟨p, 0, none⟩))) (d := (some 65)) rfl rfl (by kernel_rfl) (by kernel_rfl) rfl (by kernel_rfl) (by kernel_rfl) (fun _ _ _ h => h) (Or.inl ⟨by rfl, fun w hS => by go_simp⟩) (S52.out.row.seen i hi) ?_
    try simp only [Act.put, List.setIfInBounds_toArray, List.set_cons_zero, List.set_cons_succ]
    refine anyT_take (i := 9) (oi := _) (v := (.pointer (some ⟨p, 1, none⟩))) (d := (some 66)) rfl rfl (by kernel_rfl) (by kernel_rfl) rfl (by kernel_rfl) (by kernel_rfl) (fun _ _ _ h => h) (Or.inl ⟨by rfl, fun w hS => by go_simp⟩) (S52.out.row.seen i hi) ?_
    try simp only [Act.put, List.setIfInBounds_toArray, List.set_cons_zero, List.set_cons_succ]
    refine anyT_take (i := 10) (oi := _) (v := (.int .i64 (i : Int))) (d := (some 67)) rfl rfl (by kernel_rfl) (by kernel_rfl) rfl (by kernel_rfl) (by kernel_rfl) (fun _ _ _ h => h) (yl_cell 3 _ rfl (by rfl) (by kernel_rfl) _ _ rfl _ (fun _ h => h.2.1)) (S52.out.row.seen i hi) ?_
    try simp only [Act.put, List.setIfInBounds_toArray, List.set_cons_zero, List.set_cons_succ]
    refine anyT_take (i := 11) (oi := _) (v := (.pointer (some ⟨g0, i * 4, none⟩))) (d := (some 68)) rfl rfl (by kernel_rfl) (by kernel_rfl) rfl (by kernel_rfl) (by kernel_rfl) (fun _ _ _ h => h) (Or.inl ⟨by rfl, fun w hS => by go_simp⟩) (S52.out.row.seen i hi) ?_
    try simp only [Act.put, List.setIfInBounds_toArray, List.set_cons_zero, List.set_cons_succ]
    refine anyT_take (i := 12) (oi := _) (v := (.pointer (some ⟨g0, i * 4 + 3, none⟩))) (d := (some 69)) rfl rfl (by kernel_rfl) (by kernel_rfl) rfl (by kernel_rfl) (by kernel_rfl) (fun _ _ _ h => h) (Or.inl ⟨by rfl, fun w hS => by go_simp⟩) (S52.out.row.seen i hi) ?_
    try simp only [Act.put, List.setIfInBounds_toArray, List.set_cons_zero, List.set_cons_succ]
    refine anyT_take (i := 13) (oi := _) (v := (.string (saidZ ws i))) (d := (some 70)) rfl rfl (by kernel_rfl) (by kernel_rfl) rfl (by kernel_rfl) (by kernel_rfl) (fun _ _ _ h => h) (yl_cell 9 _ rfl (by rfl) (by kernel_rfl) _ _ rfl _ (fun _ h => h.2.2.1)) (S52.out.row.seen i hi) ?_
    try simp only [Act.put, List.setIfInBounds_toArray, List.set_cons_zero, List.set_cons_succ]
    refine anyT_step (i := 0) (oi := _) rfl (by kernel_rfl) (by rfl) (fun K hK => ?_)
    go_simp
    refine (terms_calls _).mono ?_
    rintro _ wm ⟨rfl, hm⟩
    have SM := Lib.hid (S52.out.call (hm.rw S52.out.row) hm.kp)
    clear S52
    refine hK.out _ _ (fun h => (SM.out.row.seen i hi)) ?_
    clear hK K
    try simp only [Act.put, List.setIfInBounds_toArray, List.set_cons_zero, List.set_cons_succ]
    refine anyT_step (i := 14) (oi := _) rfl (by kernel_rfl) (by rfl) (fun K hK => ?_)
    refine wp_look _ _ rfl _ rfl (saidZ ws i) rfl hm.map ?_
    refine hK.out (Act.put _ (some 71) _) _ (fun h => (SM.out.row.seen i hi)) ?_
    clear hK K
    try simp only [Act.put, List.setIfInBounds_toArray, List.set_cons_zero, List.set_cons_succ]
    obtain ⟨fv, fb, hfl⟩ : ∃ fv fb, lookT (saidZ ws i) = (fv, fb) := ⟨_, _, rfl⟩
    simp only [hfl]
    clear hm
    refine anyT_take (i := 15) (oi := _) (v := (.tuple #[fv, .bool fb])) (d := (some 56)) rfl rfl (by kernel_rfl) (by kernel_rfl) rfl (by kernel_rfl) (by kernel_rfl) (fun _ _ _ h => h) (Or.inl ⟨by rfl, fun _ _ => rfl⟩) (SM.out.row.seen i hi) ?_
    try simp only [Act.put, List.setIfInBounds_toArray, List.set_cons_zero, List.set_cons_succ]
    refine anyT_take (i := 16) (oi := _) (v := fv) (d := (some 72)) rfl rfl (by kernel_rfl) (by kernel_rfl) rfl (by kernel_rfl) (by kernel_rfl) (fun _ _ _ h => h) (Or.inl ⟨by rfl, fun w hS => by go_simp⟩) (SM.out.row.seen i hi) ?_
    try simp only [Act.put, List.setIfInBounds_toArray, List.set_cons_zero, List.set_cons_succ]
    refine anyT_take (i := 17) (oi := _) (v := (.bool fb)) (d := (some 73)) rfl rfl (by kernel_rfl) (by kernel_rfl) rfl (by kernel_rfl) (by kernel_rfl) (fun _ _ _ h => h) (Or.inl ⟨by rfl, fun w hS => by go_simp⟩) (SM.out.row.seen i hi) ?_
    try simp only [Act.put, List.setIfInBounds_toArray, List.set_cons_zero, List.set_cons_succ]
    refine anyT_step (i := 18) (oi := _) rfl (by kernel_rfl) (by rfl) (fun K hK => ?_)
    go_simp
    refine hK.out _ _ (fun h => (SM.out.row.seen i hi)) ?_
    clear hK K
    try simp only [Act.put, List.setIfInBounds_toArray, List.set_cons_zero, List.set_cons_succ]
    refine anyT_step (i := 19) (oi := _) rfl (by kernel_rfl) (by rfl) (fun K hK => ?_)
    go_simp
    refine hK.out _ _ (fun h => by cases h) ?_
    clear hK K
    try simp only [Act.put, List.setIfInBounds_toArray, List.set_cons_zero, List.set_cons_succ]
    refine anyT_done (by kernel_rfl) ?_ _
    rcases Decidable.em (saidZ ws i = (⟨#[46]⟩ : ByteArray)) with ht | ht
    ·
      rw [if_pos ht] at hr
      have e : lookT (saidZ ws i) = (.func (.func 70) #[] #[], true) := (by rw [ht]; rfl)
      rw [e] at hfl
      cases hfl
      clear e
      go_wp2_with fail
      rcases PR.split r with ⟨x56, rfl⟩ | ⟨n53, i54, o55, rfl⟩
      · replace hz := hr
        refine (self_calls RC _ hi k hkb _ hz SM.out.row).mono ?_
        rintro _ _ ⟨rfl, hk⟩
        exact ⟨rfl, SM.out.dies hk⟩
      replace hz := hr
      have ho := (self_even RC.even _ _ _ _ _ _ hz).symm
      subst ho
      refine (self_calls RC _ hi k hkb _ hz SM.out.row).mono ?_
      rintro _ w58 ⟨⟨_, rfl, hn⟩, hrw, hk⟩
      obtain ⟨c57, rfl, S59⟩ := SM.out.made hrw hk hn
      replace S59 := Lib.hid S59
      have hszc57 := S59.out.fst.size
      have honec57 := S59.out.fst.one
      clear hrw hk hn
      clear hz
      go_wp2_with (first
        | (refine st_nodeO rfl _ _ rfl (W.heap.size) c57 rfl rfl _ (S59.out.blk _ _ _ (.head _)) hszc57 rfl honec57 ?_; intro w60 hwN; have S61 := Lib.hid (S59.out.setRowO 0 _ _ _ c57 rfl hwN); clear hwN))
      refine ret_node rfl _ _ rfl (S61.out.blk _ _ _ (.head _)) hszc57 rfl ?_
      first | exact S61.out.done | (have e := S61.out.done; simp only [Int.add_sub_cancel] at e; exact e) | (simp only [Int.add_sub_cancel]; exact S61.out.done)
    have n0 := ht
    clear ht
    rw [if_neg n0] at hr
    rcases Decidable.em (saidZ ws i = (⟨#[46, 46]⟩ : ByteArray)) with ht | ht
    ·
      rw [if_pos ht] at hr
      have e : lookT (saidZ ws i) = (.func (.func 71) #[] #[], true) := (by rw [ht]; rfl)
      rw [e] at hfl
      cases hfl
      clear e
      go_wp2_with fail
      cases hr
      refine (all_calls _ hi SM.out.row).mono ?_
      rintro _ w63 ⟨⟨_, rfl, hn⟩, hrw, hk⟩
      obtain ⟨c62, rfl, S64⟩ := SM.out.made hrw hk hn
      replace S64 := Lib.hid S64
      have hszc62 := S64.out.fst.size
      have honec62 := S64.out.fst.one
      clear hrw hk hn
      go_wp2_with (first
        | (refine st_nodeO rfl _ _ rfl (W.heap.size) c62 rfl rfl _ (S64.out.blk _ _ _ (.head _)) hszc62 rfl honec62 ?_; intro w65 hwN; have S66 := Lib.hid (S64.out.setRowO 0 _ _ _ c62 rfl hwN); clear hwN))
      refine ret_node rfl _ _ rfl (S66.out.blk _ _ _ (.head _)) hszc62 rfl ?_
      first | exact S66.out.done | (have e := S66.out.done; simp only [Int.add_sub_cancel] at e; exact e) | (simp only [Int.add_sub_cancel]; exact S66.out.done)
    have n1 := ht
    clear ht
    rw [if_neg n1] at hr
    rcases Decidable.em (saidZ ws i = (⟨#[40]⟩ : ByteArray)) with ht | ht
    ·
      rw [if_pos ht] at hr
      have e : lookT (saidZ ws i) = (.func (.func 72) #[] #[], true) := (by rw [ht]; rfl)
      rw [e] at hfl
      cases hfl
      clear e
      go_wp2_with fail
      rcases PR.split r with ⟨x70, rfl⟩ | ⟨n67, i68, o69, rfl⟩
      · replace hz := hr
        refine (inner_calls RC _ hi _ hz SM.out.row).mono ?_
        rintro _ _ ⟨rfl, hk⟩
        exact ⟨rfl, SM.out.dies hk⟩
      replace hz := hr
      have ho := (inner_even RC.even _ _ _ _ _ hz).symm
      subst ho
      refine (inner_calls RC _ hi _ hz SM.out.row).mono ?_
      rintro _ w72 ⟨⟨_, rfl, hn⟩, hrw, hk⟩
      obtain ⟨c71, rfl, S73⟩ := SM.out.made hrw hk hn
      replace S73 := Lib.hid S73
      have hszc71 := S73.out.fst.size
      have honec71 := S73.out.fst.one
      clear hrw hk hn
      clear hz
      go_wp2_with (first
        | (refine st_nodeO rfl _ _ rfl (W.heap.size) c71 rfl rfl _ (S73.out.blk _ _ _ (.head _)) hszc71 rfl honec71 ?_; intro w74 hwN; have S75 := Lib.hid (S73.out.setRowO 0 _ _ _ c71 rfl hwN); clear hwN))
      refine ret_node rfl _ _ rfl (S75.out.blk _ _ _ (.head _)) hszc71 rfl ?_
      first | exact S75.out.done | (have e := S75.out.done; simp only [Int.add_sub_cancel] at e; exact e) | (simp only [Int.add_sub_cancel]; exact S75.out.done)
    have n2 := ht
    clear ht
    rw [if_neg n2] at hr
    rcases Decidable.em (saidZ ws i = (⟨#[91]⟩ : ByteArray)) with ht | ht
    ·
      rw [if_pos ht] at hr
      have e : lookT (saidZ ws i) = (.func (.func 73) #[] #[], true) := (by rw [ht]; rfl)
      rw [e] at hfl
      cases hfl
      clear e
      go_wp2_with fail
      rcases PR.split r with ⟨x79, rfl⟩ | ⟨n76, i77, o78, rfl⟩
      · replace hz := hr
        refine (list_calls RC _ hi _ hz SM.out.row).mono ?_
        rintro _ _ ⟨rfl, hk⟩
        exact ⟨rfl, SM.out.dies hk⟩
      replace hz := hr
      have ho := (list_even RC.even _ _ _ _ _ hz).symm
      subst ho
      refine (list_calls RC _ hi _ hz SM.out.row).mono ?_
      rintro _ w81 ⟨⟨_, rfl, hn⟩, hrw, hk⟩
      obtain ⟨c80, rfl, S82⟩ := SM.out.made hrw hk hn
      replace S82 := Lib.hid S82
      have hszc80 := S82.out.fst.size
      have honec80 := S82.out.fst.one
      clear hrw hk hn
      clear hz
      go_wp2_with (first
        | (refine st_nodeO rfl _ _ rfl (W.heap.size) c80 rfl rfl _ (S82.out.blk _ _ _ (.head _)) hszc80 rfl honec80 ?_; intro w83 hwN; have S84 := Lib.hid (S82.out.setRowO 0 _ _ _ c80 rfl hwN); clear hwN))
      refine ret_node rfl _ _ rfl (S84.out.blk _ _ _ (.head _)) hszc80 rfl ?_
      first | exact S84.out.done | (have e := S84.out.done; simp only [Int.add_sub_cancel] at e; exact e) | (simp only [Int.add_sub_cancel]; exact S84.out.done)
    have n3 := ht
    clear ht
    rw [if_neg n3] at hr
    rcases Decidable.em (saidZ ws i = (⟨#[123]⟩ : ByteArray)) with ht | ht
    ·
      rw [if_pos ht] at hr
      have e : lookT (saidZ ws i) = (.func (.func 74) #[] #[], true) := (by rw [ht]; rfl)
      rw [e] at hfl
      cases hfl
      clear e
      go_wp2_with fail
      rcases PR.split r with ⟨x88, rfl⟩ | ⟨n85, i86, o87, rfl⟩
      · replace hz := hr
        refine (record_calls RC _ hi k hkb _ hz SM.out.row).mono ?_
        rintro _ _ ⟨rfl, hk⟩
        exact ⟨rfl, SM.out.dies hk⟩
      replace hz := hr
      have ho := (record_even RC.even _ _ _ _ _ _ hz).symm
      subst ho
      refine (record_calls RC _ hi k hkb _ hz SM.out.row).mono ?_
      rintro _ w90 ⟨⟨_, rfl, hn⟩, hrw, hk⟩
      obtain ⟨c89, rfl, S91⟩ := SM.out.made hrw hk hn
      replace S91 := Lib.hid S91
      have hszc89 := S91.out.fst.size
      have honec89 := S91.out.fst.one
      clear hrw hk hn
      clear hz
      go_wp2_with (first
        | (refine st_nodeO rfl _ _ rfl (W.heap.size) c89 rfl rfl _ (S91.out.blk _ _ _ (.head _)) hszc89 rfl honec89 ?_; intro w92 hwN; have S93 := Lib.hid (S91.out.setRowO 0 _ _ _ c89 rfl hwN); clear hwN))
      refine ret_node rfl _ _ rfl (S93.out.blk _ _ _ (.head _)) hszc89 rfl ?_
      first | exact S93.out.done | (have e := S93.out.done; simp only [Int.add_sub_cancel] at e; exact e) | (simp only [Int.add_sub_cancel]; exact S93.out.done)
    have n4 := ht
    clear ht
    rw [if_neg n4] at hr
    rcases Decidable.em (saidZ ws i = (⟨#[110, 117, 108, 108]⟩ : ByteArray)) with ht | ht
    ·
      rw [if_pos (Or.inl ht)] at hr
      have e : lookT (saidZ ws i) = (.func (.func 75) #[] #[], true) := (by rw [ht]; rfl)
      rw [e] at hfl
      cases hfl
      clear e
      go_wp2_with fail
      rcases PR.split r with ⟨x97, rfl⟩ | ⟨n94, i95, o96, rfl⟩
      · replace hz := hr
        refine (constant_calls RC _ hi _ hz SM.out.row).mono ?_
        rintro _ _ ⟨rfl, hk⟩
        exact ⟨rfl, SM.out.dies hk⟩
      replace hz := hr
      have ho := (const_even _ _ _ _ _ hz).symm
      subst ho
      refine (constant_calls RC _ hi _ hz SM.out.row).mono ?_
      rintro _ w99 ⟨⟨_, rfl, hn⟩, hrw, hk⟩
      obtain ⟨c98, rfl, S100⟩ := SM.out.made hrw hk hn
      replace S100 := Lib.hid S100
      have hszc98 := S100.out.fst.size
      have honec98 := S100.out.fst.one
      clear hrw hk hn
      clear hz
      go_wp2_with (first
        | (refine st_nodeO rfl _ _ rfl (W.heap.size) c98 rfl rfl _ (S100.out.blk _ _ _ (.head _)) hszc98 rfl honec98 ?_; intro w101 hwN; have S102 := Lib.hid (S100.out.setRowO 0 _ _ _ c98 rfl hwN); clear hwN))
      refine ret_node rfl _ _ rfl (S102.out.blk _ _ _ (.head _)) hszc98 rfl ?_
      first | exact S102.out.done | (have e := S102.out.done; simp only [Int.add_sub_cancel] at e; exact e) | (simp only [Int.add_sub_cancel]; exact S102.out.done)
    have n5 := ht
    clear ht
    rcases Decidable.em (saidZ ws i = (⟨#[102, 97, 108, 115, 101]⟩ : ByteArray)) with ht | ht
    ·
      rw [if_pos (Or.inr <| Or.inl ht)] at hr
      have e : lookT (saidZ ws i) = (.func (.func 75) #[] #[], true) := (by rw [ht]; rfl)
      rw [e] at hfl
      cases hfl
      clear e
      go_wp2_with fail
      rcases PR.split r with ⟨x106, rfl⟩ | ⟨n103, i104, o105, rfl⟩
      · replace hz := hr
        refine (constant_calls RC _ hi _ hz SM.out.row).mono ?_
        rintro _ _ ⟨rfl, hk⟩
        exact ⟨rfl, SM.out.dies hk⟩
      replace hz := hr
      have ho := (const_even _ _ _ _ _ hz).symm
      subst ho
      refine (constant_calls RC _ hi _ hz SM.out.row).mono ?_
      rintro _ w108 ⟨⟨_, rfl, hn⟩, hrw, hk⟩
      obtain ⟨c107, rfl, S109⟩ := SM.out.made hrw hk hn
      replace S109 := Lib.hid S109
      have hszc107 := S109.out.fst.size
      have honec107 := S109.out.fst.one
      clear hrw hk hn
      clear hz
      go_wp2_with (first
        | (refine st_nodeO rfl _ _ rfl (W.heap.size) c107 rfl rfl _ (S109.out.blk _ _ _ (.head _)) hszc107 rfl honec107 ?_; intro w110 hwN; have S111 := Lib.hid (S109.out.setRowO 0 _ _ _ c107 rfl hwN); clear hwN))
      refine ret_node rfl _ _ rfl (S111.out.blk _ _ _ (.head _)) hszc107 rfl ?_
      first | exact S111.out.done | (have e := S111.out.done; simp only [Int.add_sub_cancel] at e; exact e) | (simp only [Int.add_sub_cancel]; exact S111.out.done)
    have n6 := ht
    clear ht
    rcases Decidable.em (saidZ ws i = (⟨#[116, 114, 117, 101]⟩ : ByteArray)) with ht | ht
    ·
      rw [if_pos (Or.inr <| Or.inr ht)] at hr
      have e : lookT (saidZ ws i) = (.func (.func 75) #[] #[], true) := (by rw [ht]; rfl)
      rw [e] at hfl
      cases hfl
      clear e
      go_wp2_with fail
      rcases PR.split r with ⟨x115, rfl⟩ | ⟨n112, i113, o114, rfl⟩
      · replace hz := hr
        refine (constant_calls RC _ hi _ hz SM.out.row).mono ?_
        rintro _ _ ⟨rfl, hk⟩
        exact ⟨rfl, SM.out.dies hk⟩
      replace hz := hr
      have ho := (const_even _ _ _ _ _ hz).symm
      subst ho
      refine (constant_calls RC _ hi _ hz SM.out.row).mono ?_
      rintro _ w117 ⟨⟨_, rfl, hn⟩, hrw, hk⟩
      obtain ⟨c116, rfl, S118⟩ := SM.out.made hrw hk hn
      replace S118 := Lib.hid S118
      have hszc116 := S118.out.fst.size
      have honec116 := S118.out.fst.one
      clear hrw hk hn
      clear hz
      go_wp2_with (first
        | (refine st_nodeO rfl _ _ rfl (W.heap.size) c116 rfl rfl _ (S118.out.blk _ _ _ (.head _)) hszc116 rfl honec116 ?_; intro w119 hwN; have S120 := Lib.hid (S118.out.setRowO 0 _ _ _ c116 rfl hwN); clear hwN))
      refine ret_node rfl _ _ rfl (S120.out.blk _ _ _ (.head _)) hszc116 rfl ?_
      first | exact S120.out.done | (have e := S120.out.done; simp only [Int.add_sub_cancel] at e; exact e) | (simp only [Int.add_sub_cancel]; exact S120.out.done)
    have n7 := ht
    clear ht
    rw [if_neg (fun e => e.elim n5 fun e => e.elim n6 n7)] at hr
    rcases Decidable.em (saidZ ws i = (⟨#[105, 102]⟩ : ByteArray)) with ht | ht
    ·
      rw [if_pos ht] at hr
      have e : lookT (saidZ ws i) = (.func (.func 76) #[] #[], true) := (by rw [ht]; rfl)
      rw [e] at hfl
      cases hfl
      clear e
      go_wp2_with fail
      rcases PR.split r with ⟨x124, rfl⟩ | ⟨n121, i122, o123, rfl⟩
      · replace hz := hr
        refine (condition_calls RC _ hi _ hz SM.out.row).mono ?_
        rintro _ _ ⟨rfl, hk⟩
        exact ⟨rfl, SM.out.dies hk⟩
      replace hz := hr
      have ho := (if_even RC.even _ _ _ _ _ hz).symm
      subst ho
      refine (condition_calls RC _ hi _ hz SM.out.row).mono ?_
      rintro _ w126 ⟨⟨_, rfl, hn⟩, hrw, hk⟩
      obtain ⟨c125, rfl, S127⟩ := SM.out.made hrw hk hn
      replace S127 := Lib.hid S127
      have hszc125 := S127.out.fst.size
      have honec125 := S127.out.fst.one
      clear hrw hk hn
      clear hz
      go_wp2_with (first
        | (refine st_nodeO rfl _ _ rfl (W.heap.size) c125 rfl rfl _ (S127.out.blk _ _ _ (.head _)) hszc125 rfl honec125 ?_; intro w128 hwN; have S129 := Lib.hid (S127.out.setRowO 0 _ _ _ c125 rfl hwN); clear hwN))
      refine ret_node rfl _ _ rfl (S129.out.blk _ _ _ (.head _)) hszc125 rfl ?_
      first | exact S129.out.done | (have e := S129.out.done; simp only [Int.add_sub_cancel] at e; exact e) | (simp only [Int.add_sub_cancel]; exact S129.out.done)
    have n8 := ht
    clear ht
    rw [if_neg n8] at hr
    rcases Decidable.em (saidZ ws i = (⟨#[116, 114, 121]⟩ : ByteArray)) with ht | ht
    ·
      rw [if_pos ht] at hr
      have e : lookT (saidZ ws i) = (.func (.func 77) #[] #[], true) := (by rw [ht]; rfl)
      rw [e] at hfl
      cases hfl
      clear e
      go_wp2_with fail
      rcases PR.split r with ⟨x133, rfl⟩ | ⟨n130, i131, o132, rfl⟩
      · replace hz := hr
        refine (try_calls RC _ hi _ hz SM.out.row).mono ?_
        rintro _ _ ⟨rfl, hk⟩
        exact ⟨rfl, SM.out.dies hk⟩
      replace hz := hr
      have ho := (try_even RC.even _ _ _ _ _ hz).symm
      subst ho
      refine (try_calls RC _ hi _ hz SM.out.row).mono ?_
      rintro _ w135 ⟨⟨_, rfl, hn⟩, hrw, hk⟩
      obtain ⟨c134, rfl, S136⟩ := SM.out.made hrw hk hn
      replace S136 := Lib.hid S136
      have hszc134 := S136.out.fst.size
      have honec134 := S136.out.fst.one
      clear hrw hk hn
      clear hz
      go_wp2_with (first
        | (refine st_nodeO rfl _ _ rfl (W.heap.size) c134 rfl rfl _ (S136.out.blk _ _ _ (.head _)) hszc134 rfl honec134 ?_; intro w137 hwN; have S138 := Lib.hid (S136.out.setRowO 0 _ _ _ c134 rfl hwN); clear hwN))
      refine ret_node rfl _ _ rfl (S138.out.blk _ _ _ (.head _)) hszc134 rfl ?_
      first | exact S138.out.done | (have e := S138.out.done; simp only [Int.add_sub_cancel] at e; exact e) | (simp only [Int.add_sub_cancel]; exact S138.out.done)
    have n9 := ht
    clear ht
    rw [if_neg n9] at hr
    rcases Decidable.em (saidZ ws i = (⟨#[114, 101, 100, 117, 99, 101]⟩ : ByteArray)) with ht | ht
    ·
      rw [if_pos ht] at hr
      have e : lookT (saidZ ws i) = (.func (.func 78) #[] #[], true) := (by rw [ht]; rfl)
      rw [e] at hfl
      cases hfl
      clear e
      go_wp2_with fail
      rcases PR.split r with ⟨x142, rfl⟩ | ⟨n139, i140, o141, rfl⟩
      · replace hz := hr
        refine (reduce_calls RC _ hi _ hz SM.out.row).mono ?_
        rintro _ _ ⟨rfl, hk⟩
        exact ⟨rfl, SM.out.dies hk⟩
      replace hz := hr
      have ho := (reduce_even RC.even _ _ _ _ _ hz).symm
      subst ho
      refine (reduce_calls RC _ hi _ hz SM.out.row).mono ?_
      rintro _ w144 ⟨⟨_, rfl, hn⟩, hrw, hk⟩
      obtain ⟨c143, rfl, S145⟩ := SM.out.made hrw hk hn
      replace S145 := Lib.hid S145
      have hszc143 := S145.out.fst.size
      have honec143 := S145.out.fst.one
      clear hrw hk hn
      clear hz
      go_wp2_with (first
        | (refine st_nodeO rfl _ _ rfl (W.heap.size) c143 rfl rfl _ (S145.out.blk _ _ _ (.head _)) hszc143 rfl honec143 ?_; intro w146 hwN; have S147 := Lib.hid (S145.out.setRowO 0 _ _ _ c143 rfl hwN); clear hwN))
      refine ret_node rfl _ _ rfl (S147.out.blk _ _ _ (.head _)) hszc143 rfl ?_
      first | exact S147.out.done | (have e := S147.out.done; simp only [Int.add_sub_cancel] at e; exact e) | (simp only [Int.add_sub_cancel]; exact S147.out.done)
    have n10 := ht
    clear ht
    rw [if_neg n10] at hr
    rcases Decidable.em (saidZ ws i = (⟨#[102, 111, 114, 101, 97, 99, 104]⟩ : ByteArray)) with ht | ht
    ·
      rw [if_pos ht] at hr
      have e : lookT (saidZ ws i) = (.func (.func 79) #[] #[], true) := (by rw [ht]; rfl)
      rw [e] at hfl
      cases hfl
      clear e
      go_wp2_with fail
      rcases PR.split r with ⟨x151, rfl⟩ | ⟨n148, i149, o150, rfl⟩
      · replace hz := hr
        refine (foreach_calls RC _ hi _ hz SM.out.row).mono ?_
        rintro _ _ ⟨rfl, hk⟩
        exact ⟨rfl, SM.out.dies hk⟩
      replace hz := hr
      have ho := (foreach_even RC.even _ _ _ _ _ hz).symm
      subst ho
      refine (foreach_calls RC _ hi _ hz SM.out.row).mono ?_
      rintro _ w153 ⟨⟨_, rfl, hn⟩, hrw, hk⟩
      obtain ⟨c152, rfl, S154⟩ := SM.out.made hrw hk hn
      replace S154 := Lib.hid S154
      have hszc152 := S154.out.fst.size
      have honec152 := S154.out.fst.one
      clear hrw hk hn
      clear hz
      go_wp2_with (first
        | (refine st_nodeO rfl _ _ rfl (W.heap.size) c152 rfl rfl _ (S154.out.blk _ _ _ (.head _)) hszc152 rfl honec152 ?_; intro w155 hwN; have S156 := Lib.hid (S154.out.setRowO 0 _ _ _ c152 rfl hwN); clear hwN))
      refine ret_node rfl _ _ rfl (S156.out.blk _ _ _ (.head _)) hszc152 rfl ?_
      first | exact S156.out.done | (have e := S156.out.done; simp only [Int.add_sub_cancel] at e; exact e) | (simp only [Int.add_sub_cancel]; exact S156.out.done)
    have n11 := ht
    clear ht
    rw [if_neg n11] at hr
    rcases Decidable.em (saidZ ws i = (⟨#[98, 114, 101, 97, 107]⟩ : ByteArray)) with ht | ht
    ·
      rw [if_pos ht] at hr
      have e : lookT (saidZ ws i) = (.func (.func 80) #[] #[], true) := (by rw [ht]; rfl)
      rw [e] at hfl
      cases hfl
      clear e
      go_wp2_with fail
      rcases PR.split r with ⟨x160, rfl⟩ | ⟨n157, i158, o159, rfl⟩
      · replace hz := hr
        refine (leave_calls RC _ hi _ hz SM.out.row).mono ?_
        rintro _ _ ⟨rfl, hk⟩
        exact ⟨rfl, SM.out.dies hk⟩
      replace hz := hr
      have ho := (leave_even _ _ _ _ _ hz).symm
      subst ho
      refine (leave_calls RC _ hi _ hz SM.out.row).mono ?_
      rintro _ w162 ⟨⟨_, rfl, hn⟩, hrw, hk⟩
      obtain ⟨c161, rfl, S163⟩ := SM.out.made hrw hk hn
      replace S163 := Lib.hid S163
      have hszc161 := S163.out.fst.size
      have honec161 := S163.out.fst.one
      clear hrw hk hn
      clear hz
      go_wp2_with (first
        | (refine st_nodeO rfl _ _ rfl (W.heap.size) c161 rfl rfl _ (S163.out.blk _ _ _ (.head _)) hszc161 rfl honec161 ?_; intro w164 hwN; have S165 := Lib.hid (S163.out.setRowO 0 _ _ _ c161 rfl hwN); clear hwN))
      refine ret_node rfl _ _ rfl (S165.out.blk _ _ _ (.head _)) hszc161 rfl ?_
      first | exact S165.out.done | (have e := S165.out.done; simp only [Int.add_sub_cancel] at e; exact e) | (simp only [Int.add_sub_cancel]; exact S165.out.done)
    have n12 := ht
    clear ht
    rw [if_neg n12] at hr
    have e : lookT (saidZ ws i) = (.nilFunc, false) := by simp [lookT, findT, termsT, n0, n1, n2, n3, n4, n5, n6, n7, n8, n9, n10, n11, n12]
    rw [e] at hfl
    cases hfl
    clear e
    go_wp2_with fail
    rw [failZ_eq] at hr
    cases hr
    refine (fail_calls_row _ SM.out.row).mono ?_
    rintro _ _ ⟨rfl, hd⟩
    exact ⟨rfl, SM.out.dies (Kp.of_drawn hd)⟩
  have h10 := hk
  have q10 : (kindZ ws i == 10) = false := by simpa using hk
  clear hk
  by_cases hk : kindZ ws i = 2
  ·
    rw [if_pos (Or.inr hk)] at hr
    clear q4 q5 q6 q7 q3 q1 q10
    have hi := kindZ_lt hk (by decide)
    rw [hk]
    go_wp2_with fail
    obtain ⟨g0, cp0, hvg, _, _, _⟩ := S5.out.row.word i hi
    subst hvg
    have hi0 : (0 : Int) ≤ (i : Int) := by omega
    have hi1 : (i : Int) < (ws.length : Int) := by omega
    refine region_T (fun w => w.cell? ⟨p, 0, none⟩ = some (.slice (some ⟨g0, 0, none⟩) ws.length cp0) ∧ w.cell? ⟨p, 1, none⟩ = some (.int .i64 i) ∧ w.cell? ⟨g0, i * 4 + 3, none⟩ = some (.string (saidZ ws i)) ∧ w.cell? ⟨g0, i * 4 + 1, none⟩ = some (.int .i64 (placeZ ws en i))) (fun j => j == 19) 20 rfl (by kernel_rfl) ?_
    have S166 := Lib.hid (S5.out.drawn (w' := World.drew _) ⟨1, rfl⟩)
    refine anyT_take (i := 1) (oi := _) (v := (.pointer (some ⟨p, 0, none⟩))) (d := (some 58)) rfl rfl (by kernel_rfl) (by kernel_rfl) rfl (by kernel_rfl) (by kernel_rfl) (fun _ _ _ h => h) (Or.inl ⟨by rfl, fun _ _ => rfl⟩) (S166.out.row.seen i hi) ?_
    try simp only [Act.put, List.setIfInBounds_toArray, List.set_cons_zero, List.set_cons_succ]
    refine anyT_take (i := 2) (oi := _) (v := (.pointer (some ⟨p, 0, none⟩))) (d := (some 59)) rfl rfl (by kernel_rfl) (by kernel_rfl) rfl (by kernel_rfl) (by kernel_rfl) (fun _ _ _ h => h) (Or.inl ⟨by rfl, fun w hS => by go_simp⟩) (S166.out.row.seen i hi) ?_
    try simp only [Act.put, List.setIfInBounds_toArray, List.set_cons_zero, List.set_cons_succ]
    refine anyT_take (i := 3) (oi := _) (v := (.pointer (some ⟨p, 0, none⟩))) (d := (some 60)) rfl rfl (by kernel_rfl) (by kernel_rfl) rfl (by kernel_rfl) (by kernel_rfl) (fun _ _ _ h => h) (Or.inl ⟨by rfl, fun w hS => by go_simp⟩) (S166.out.row.seen i hi) ?_
    try simp only [Act.put, List.setIfInBounds_toArray, List.set_cons_zero, List.set_cons_succ]
    refine anyT_take (i := 4) (oi := _) (v := (.pointer (some ⟨p, 0, none⟩))) (d := (some 61)) rfl rfl (by kernel_rfl) (by kernel_rfl) rfl (by kernel_rfl) (by kernel_rfl) (fun _ _ _ h => h) (Or.inl ⟨by rfl, fun w hS => by go_simp⟩) (S166.out.row.seen i hi) ?_
    try simp only [Act.put, List.setIfInBounds_toArray, List.set_cons_zero, List.set_cons_succ]
    refine anyT_take (i := 5) (oi := _) (v := (.slice (some ⟨g0, 0, none⟩) ws.length cp0)) (d := (some 62)) rfl rfl (by kernel_rfl) (by kernel_rfl) rfl (by kernel_rfl) (by kernel_rfl) (fun _ _ _ h => h) (yl_cell 37 _ rfl (by rfl) (by kernel_rfl) _ _ rfl _ (fun _ h => h.1)) (S166.out.row.seen i hi) ?_
    try simp only [Act.put, List.setIfInBounds_toArray, List.set_cons_zero, List.set_cons_succ]
    refine anyT_take (i := 6) (oi := _) (v := (.pointer (some ⟨p, 0, none⟩))) (d := (some 63)) rfl rfl (by kernel_rfl) (by kernel_rfl) rfl (by kernel_rfl) (by kernel_rfl) (fun _ _ _ h => h) (Or.inl ⟨by rfl, fun _ _ => rfl⟩) (S166.out.row.seen i hi) ?_
    try simp only [Act.put, List.setIfInBounds_toArray, List.set_cons_zero, List.set_cons_succ]
    refine anyT_take (i := 7) (oi := _) (v := (.pointer (some ⟨p, 0, none⟩))) (d := (some 64)) rfl rfl (by kernel_rfl) (by kernel_rfl) rfl (by kernel_rfl) (by kernel_rfl) (fun _ _ _ h => h) (Or.inl ⟨by rfl, fun w hS => by go_simp⟩) (S166.out.row.seen i hi) ?_
    try simp only [Act.put, List.setIfInBounds_toArray, List.set_cons_zero, List.set_cons_succ]
    refine anyT_take (i := 8) (oi := _) (v := (.pointer (some ⟨p, 0, none⟩))) (d := (some 65)) rfl rfl (by kernel_rfl) (by kernel_rfl) rfl (by kernel_rfl) (by kernel_rfl) (fun _ _ _ h => h) (Or.inl ⟨by rfl, fun w hS => by go_simp⟩) (S166.out.row.seen i hi) ?_
    try simp only [Act.put, List.setIfInBounds_toArray, List.set_cons_zero, List.set_cons_succ]
    refine anyT_take (i := 9) (oi := _) (v := (.pointer (some ⟨p, 1, none⟩))) (d := (some 66)) rfl rfl (by kernel_rfl) (by kernel_rfl) rfl (by kernel_rfl) (by kernel_rfl) (fun _ _ _ h => h) (Or.inl ⟨by rfl, fun w hS => by go_simp⟩) (S166.out.row.seen i hi) ?_
    try simp only [Act.put, List.setIfInBounds_toArray, List.set_cons_zero, List.set_cons_succ]
    refine anyT_take (i := 10) (oi := _) (v := (.int .i64 (i : Int))) (d := (some 67)) rfl rfl (by kernel_rfl) (by kernel_rfl) rfl (by kernel_rfl) (by kernel_rfl) (fun _ _ _ h => h) (yl_cell 3 _ rfl (by rfl) (by kernel_rfl) _ _ rfl _ (fun _ h => h.2.1)) (S166.out.row.seen i hi) ?_
    try simp only [Act.put, List.setIfInBounds_toArray, List.set_cons_zero, List.set_cons_succ]
    refine anyT_take (i := 11) (oi := _) (v := (.pointer (some ⟨g0, i * 4, none⟩))) (d := (some 68)) rfl rfl (by kernel_rfl) (by kernel_rfl) rfl (by kernel_rfl) (by kernel_rfl) (fun _ _ _ h => h) (Or.inl ⟨by rfl, fun w hS => by go_simp⟩) (S166.out.row.seen i hi) ?_
    try simp only [Act.put, List.setIfInBounds_toArray, List.set_cons_zero, List.set_cons_succ]
    refine anyT_take (i := 12) (oi := _) (v := (.pointer (some ⟨g0, i * 4 + 3, none⟩))) (d := (some 69)) rfl rfl (by kernel_rfl) (by kernel_rfl) rfl (by kernel_rfl) (by kernel_rfl) (fun _ _ _ h => h) (Or.inl ⟨by rfl, fun w hS => by go_simp⟩) (S166.out.row.seen i hi) ?_
    try simp only [Act.put, List.setIfInBounds_toArray, List.set_cons_zero, List.set_cons_succ]
    refine anyT_take (i := 13) (oi := _) (v := (.string (saidZ ws i))) (d := (some 70)) rfl rfl (by kernel_rfl) (by kernel_rfl) rfl (by kernel_rfl) (by kernel_rfl) (fun _ _ _ h => h) (yl_cell 9 _ rfl (by rfl) (by kernel_rfl) _ _ rfl _ (fun _ h => h.2.2.1)) (S166.out.row.seen i hi) ?_
    try simp only [Act.put, List.setIfInBounds_toArray, List.set_cons_zero, List.set_cons_succ]
    refine anyT_step (i := 0) (oi := _) rfl (by kernel_rfl) (by rfl) (fun K hK => ?_)
    go_simp
    refine (terms_calls _).mono ?_
    rintro _ wm ⟨rfl, hm⟩
    have SM := Lib.hid (S166.out.call (hm.rw S166.out.row) hm.kp)
    clear S166
    refine hK.out _ _ (fun h => (SM.out.row.seen i hi)) ?_
    clear hK K
    try simp only [Act.put, List.setIfInBounds_toArray, List.set_cons_zero, List.set_cons_succ]
    refine anyT_step (i := 14) (oi := _) rfl (by kernel_rfl) (by rfl) (fun K hK => ?_)
    refine wp_look _ _ rfl _ rfl (saidZ ws i) rfl hm.map ?_
    refine hK.out (Act.put _ (some 71) _) _ (fun h => (SM.out.row.seen i hi)) ?_
    clear hK K
    try simp only [Act.put, List.setIfInBounds_toArray, List.set_cons_zero, List.set_cons_succ]
    obtain ⟨fv, fb, hfl⟩ : ∃ fv fb, lookT (saidZ ws i) = (fv, fb) := ⟨_, _, rfl⟩
    simp only [hfl]
    clear hm
    refine anyT_take (i := 15) (oi := _) (v := (.tuple #[fv, .bool fb])) (d := (some 56)) rfl rfl (by kernel_rfl) (by kernel_rfl) rfl (by kernel_rfl) (by kernel_rfl) (fun _ _ _ h => h) (Or.inl ⟨by rfl, fun _ _ => rfl⟩) (SM.out.row.seen i hi) ?_
    try simp only [Act.put, List.setIfInBounds_toArray, List.set_cons_zero, List.set_cons_succ]
    refine anyT_take (i := 16) (oi := _) (v := fv) (d := (some 72)) rfl rfl (by kernel_rfl) (by kernel_rfl) rfl (by kernel_rfl) (by kernel_rfl) (fun _ _ _ h => h) (Or.inl ⟨by rfl, fun w hS => by go_simp⟩) (SM.out.row.seen i hi) ?_
    try simp only [Act.put, List.setIfInBounds_toArray, List.set_cons_zero, List.set_cons_succ]
    refine anyT_take (i := 17) (oi := _) (v := (.bool fb)) (d := (some 73)) rfl rfl (by kernel_rfl) (by kernel_rfl) rfl (by kernel_rfl) (by kernel_rfl) (fun _ _ _ h => h) (Or.inl ⟨by rfl, fun w hS => by go_simp⟩) (SM.out.row.seen i hi) ?_
    try simp only [Act.put, List.setIfInBounds_toArray, List.set_cons_zero, List.set_cons_succ]
    refine anyT_step (i := 18) (oi := _) rfl (by kernel_rfl) (by rfl) (fun K hK => ?_)
    go_simp
    refine hK.out _ _ (fun h => (SM.out.row.seen i hi)) ?_
    clear hK K
    try simp only [Act.put, List.setIfInBounds_toArray, List.set_cons_zero, List.set_cons_succ]
    refine anyT_step (i := 19) (oi := _) rfl (by kernel_rfl) (by rfl) (fun K hK => ?_)
    go_simp
    refine hK.out _ _ (fun h => by cases h) ?_
    clear hK K
    try simp only [Act.put, List.setIfInBounds_toArray, List.set_cons_zero, List.set_cons_succ]
    refine anyT_done (by kernel_rfl) ?_ _
    rcases Decidable.em (saidZ ws i = (⟨#[46]⟩ : ByteArray)) with ht | ht
    ·
      rw [if_pos ht] at hr
      have e : lookT (saidZ ws i) = (.func (.func 70) #[] #[], true) := (by rw [ht]; rfl)
      rw [e] at hfl
      cases hfl
      clear e
      go_wp2_with fail
      rcases PR.split r with ⟨x170, rfl⟩ | ⟨n167, i168, o169, rfl⟩
      · replace hz := hr
        refine (self_calls RC _ hi k hkb _ hz SM.out.row).mono ?_
        rintro _ _ ⟨rfl, hk⟩
        exact ⟨rfl, SM.out.dies hk⟩
      replace hz := hr
      have ho := (self_even RC.even _ _ _ _ _ _ hz).symm
      subst ho
      refine (self_calls RC _ hi k hkb _ hz SM.out.row).mono ?_
      rintro _ w172 ⟨⟨_, rfl, hn⟩, hrw, hk⟩
      obtain ⟨c171, rfl, S173⟩ := SM.out.made hrw hk hn
      replace S173 := Lib.hid S173
      have hszc171 := S173.out.fst.size
      have honec171 := S173.out.fst.one
      clear hrw hk hn
      clear hz
      go_wp2_with (first
        | (refine st_nodeO rfl _ _ rfl (W.heap.size) c171 rfl rfl _ (S173.out.blk _ _ _ (.head _)) hszc171 rfl honec171 ?_; intro w174 hwN; have S175 := Lib.hid (S173.out.setRowO 0 _ _ _ c171 rfl hwN); clear hwN))
      refine ret_node rfl _ _ rfl (S175.out.blk _ _ _ (.head _)) hszc171 rfl ?_
      first | exact S175.out.done | (have e := S175.out.done; simp only [Int.add_sub_cancel] at e; exact e) | (simp only [Int.add_sub_cancel]; exact S175.out.done)
    have n0 := ht
    clear ht
    rw [if_neg n0] at hr
    rcases Decidable.em (saidZ ws i = (⟨#[46, 46]⟩ : ByteArray)) with ht | ht
    ·
      rw [if_pos ht] at hr
      have e : lookT (saidZ ws i) = (.func (.func 71) #[] #[], true) := (by rw [ht]; rfl)
      rw [e] at hfl
      cases hfl
      clear e
      go_wp2_with fail
      cases hr
      refine (all_calls _ hi SM.out.row).mono ?_
      rintro _ w177 ⟨⟨_, rfl, hn⟩, hrw, hk⟩
      obtain ⟨c176, rfl, S178⟩ := SM.out.made hrw hk hn
      replace S178 := Lib.hid S178
      have hszc176 := S178.out.fst.size
      have honec176 := S178.out.fst.one
      clear hrw hk hn
      go_wp2_with (first
        | (refine st_nodeO rfl _ _ rfl (W.heap.size) c176 rfl rfl _ (S178.out.blk _ _ _ (.head _)) hszc176 rfl honec176 ?_; intro w179 hwN; have S180 := Lib.hid (S178.out.setRowO 0 _ _ _ c176 rfl hwN); clear hwN))
      refine ret_node rfl _ _ rfl (S180.out.blk _ _ _ (.head _)) hszc176 rfl ?_
      first | exact S180.out.done | (have e := S180.out.done; simp only [Int.add_sub_cancel] at e; exact e) | (simp only [Int.add_sub_cancel]; exact S180.out.done)
    have n1 := ht
    clear ht
    rw [if_neg n1] at hr
    rcases Decidable.em (saidZ ws i = (⟨#[40]⟩ : ByteArray)) with ht | ht
    ·
      rw [if_pos ht] at hr
      have e : lookT (saidZ ws i) = (.func (.func 72) #[] #[], true) := (by rw [ht]; rfl)
      rw [e] at hfl
      cases hfl
      clear e
      go_wp2_with fail
      rcases PR.split r with ⟨x184, rfl⟩ | ⟨n181, i182, o183, rfl⟩
      · replace hz := hr
        refine (inner_calls RC _ hi _ hz SM.out.row).mono ?_
        rintro _ _ ⟨rfl, hk⟩
        exact ⟨rfl, SM.out.dies hk⟩
      replace hz := hr
      have ho := (inner_even RC.even _ _ _ _ _ hz).symm
      subst ho
      refine (inner_calls RC _ hi _ hz SM.out.row).mono ?_
      rintro _ w186 ⟨⟨_, rfl, hn⟩, hrw, hk⟩
      obtain ⟨c185, rfl, S187⟩ := SM.out.made hrw hk hn
      replace S187 := Lib.hid S187
      have hszc185 := S187.out.fst.size
      have honec185 := S187.out.fst.one
      clear hrw hk hn
      clear hz
      go_wp2_with (first
        | (refine st_nodeO rfl _ _ rfl (W.heap.size) c185 rfl rfl _ (S187.out.blk _ _ _ (.head _)) hszc185 rfl honec185 ?_; intro w188 hwN; have S189 := Lib.hid (S187.out.setRowO 0 _ _ _ c185 rfl hwN); clear hwN))
      refine ret_node rfl _ _ rfl (S189.out.blk _ _ _ (.head _)) hszc185 rfl ?_
      first | exact S189.out.done | (have e := S189.out.done; simp only [Int.add_sub_cancel] at e; exact e) | (simp only [Int.add_sub_cancel]; exact S189.out.done)
    have n2 := ht
    clear ht
    rw [if_neg n2] at hr
    rcases Decidable.em (saidZ ws i = (⟨#[91]⟩ : ByteArray)) with ht | ht
    ·
      rw [if_pos ht] at hr
      have e : lookT (saidZ ws i) = (.func (.func 73) #[] #[], true) := (by rw [ht]; rfl)
      rw [e] at hfl
      cases hfl
      clear e
      go_wp2_with fail
      rcases PR.split r with ⟨x193, rfl⟩ | ⟨n190, i191, o192, rfl⟩
      · replace hz := hr
        refine (list_calls RC _ hi _ hz SM.out.row).mono ?_
        rintro _ _ ⟨rfl, hk⟩
        exact ⟨rfl, SM.out.dies hk⟩
      replace hz := hr
      have ho := (list_even RC.even _ _ _ _ _ hz).symm
      subst ho
      refine (list_calls RC _ hi _ hz SM.out.row).mono ?_
      rintro _ w195 ⟨⟨_, rfl, hn⟩, hrw, hk⟩
      obtain ⟨c194, rfl, S196⟩ := SM.out.made hrw hk hn
      replace S196 := Lib.hid S196
      have hszc194 := S196.out.fst.size
      have honec194 := S196.out.fst.one
      clear hrw hk hn
      clear hz
      go_wp2_with (first
        | (refine st_nodeO rfl _ _ rfl (W.heap.size) c194 rfl rfl _ (S196.out.blk _ _ _ (.head _)) hszc194 rfl honec194 ?_; intro w197 hwN; have S198 := Lib.hid (S196.out.setRowO 0 _ _ _ c194 rfl hwN); clear hwN))
      refine ret_node rfl _ _ rfl (S198.out.blk _ _ _ (.head _)) hszc194 rfl ?_
      first | exact S198.out.done | (have e := S198.out.done; simp only [Int.add_sub_cancel] at e; exact e) | (simp only [Int.add_sub_cancel]; exact S198.out.done)
    have n3 := ht
    clear ht
    rw [if_neg n3] at hr
    rcases Decidable.em (saidZ ws i = (⟨#[123]⟩ : ByteArray)) with ht | ht
    ·
      rw [if_pos ht] at hr
      have e : lookT (saidZ ws i) = (.func (.func 74) #[] #[], true) := (by rw [ht]; rfl)
      rw [e] at hfl
      cases hfl
      clear e
      go_wp2_with fail
      rcases PR.split r with ⟨x202, rfl⟩ | ⟨n199, i200, o201, rfl⟩
      · replace hz := hr
        refine (record_calls RC _ hi k hkb _ hz SM.out.row).mono ?_
        rintro _ _ ⟨rfl, hk⟩
        exact ⟨rfl, SM.out.dies hk⟩
      replace hz := hr
      have ho := (record_even RC.even _ _ _ _ _ _ hz).symm
      subst ho
      refine (record_calls RC _ hi k hkb _ hz SM.out.row).mono ?_
      rintro _ w204 ⟨⟨_, rfl, hn⟩, hrw, hk⟩
      obtain ⟨c203, rfl, S205⟩ := SM.out.made hrw hk hn
      replace S205 := Lib.hid S205
      have hszc203 := S205.out.fst.size
      have honec203 := S205.out.fst.one
      clear hrw hk hn
      clear hz
      go_wp2_with (first
        | (refine st_nodeO rfl _ _ rfl (W.heap.size) c203 rfl rfl _ (S205.out.blk _ _ _ (.head _)) hszc203 rfl honec203 ?_; intro w206 hwN; have S207 := Lib.hid (S205.out.setRowO 0 _ _ _ c203 rfl hwN); clear hwN))
      refine ret_node rfl _ _ rfl (S207.out.blk _ _ _ (.head _)) hszc203 rfl ?_
      first | exact S207.out.done | (have e := S207.out.done; simp only [Int.add_sub_cancel] at e; exact e) | (simp only [Int.add_sub_cancel]; exact S207.out.done)
    have n4 := ht
    clear ht
    rw [if_neg n4] at hr
    rcases Decidable.em (saidZ ws i = (⟨#[110, 117, 108, 108]⟩ : ByteArray)) with ht | ht
    ·
      rw [if_pos (Or.inl ht)] at hr
      have e : lookT (saidZ ws i) = (.func (.func 75) #[] #[], true) := (by rw [ht]; rfl)
      rw [e] at hfl
      cases hfl
      clear e
      go_wp2_with fail
      rcases PR.split r with ⟨x211, rfl⟩ | ⟨n208, i209, o210, rfl⟩
      · replace hz := hr
        refine (constant_calls RC _ hi _ hz SM.out.row).mono ?_
        rintro _ _ ⟨rfl, hk⟩
        exact ⟨rfl, SM.out.dies hk⟩
      replace hz := hr
      have ho := (const_even _ _ _ _ _ hz).symm
      subst ho
      refine (constant_calls RC _ hi _ hz SM.out.row).mono ?_
      rintro _ w213 ⟨⟨_, rfl, hn⟩, hrw, hk⟩
      obtain ⟨c212, rfl, S214⟩ := SM.out.made hrw hk hn
      replace S214 := Lib.hid S214
      have hszc212 := S214.out.fst.size
      have honec212 := S214.out.fst.one
      clear hrw hk hn
      clear hz
      go_wp2_with (first
        | (refine st_nodeO rfl _ _ rfl (W.heap.size) c212 rfl rfl _ (S214.out.blk _ _ _ (.head _)) hszc212 rfl honec212 ?_; intro w215 hwN; have S216 := Lib.hid (S214.out.setRowO 0 _ _ _ c212 rfl hwN); clear hwN))
      refine ret_node rfl _ _ rfl (S216.out.blk _ _ _ (.head _)) hszc212 rfl ?_
      first | exact S216.out.done | (have e := S216.out.done; simp only [Int.add_sub_cancel] at e; exact e) | (simp only [Int.add_sub_cancel]; exact S216.out.done)
    have n5 := ht
    clear ht
    rcases Decidable.em (saidZ ws i = (⟨#[102, 97, 108, 115, 101]⟩ : ByteArray)) with ht | ht
    ·
      rw [if_pos (Or.inr <| Or.inl ht)] at hr
      have e : lookT (saidZ ws i) = (.func (.func 75) #[] #[], true) := (by rw [ht]; rfl)
      rw [e] at hfl
      cases hfl
      clear e
      go_wp2_with fail
      rcases PR.split r with ⟨x220, rfl⟩ | ⟨n217, i218, o219, rfl⟩
      · replace hz := hr
        refine (constant_calls RC _ hi _ hz SM.out.row).mono ?_
        rintro _ _ ⟨rfl, hk⟩
        exact ⟨rfl, SM.out.dies hk⟩
      replace hz := hr
      have ho := (const_even _ _ _ _ _ hz).symm
      subst ho
      refine (constant_calls RC _ hi _ hz SM.out.row).mono ?_
      rintro _ w222 ⟨⟨_, rfl, hn⟩, hrw, hk⟩
      obtain ⟨c221, rfl, S223⟩ := SM.out.made hrw hk hn
      replace S223 := Lib.hid S223
      have hszc221 := S223.out.fst.size
      have honec221 := S223.out.fst.one
      clear hrw hk hn
      clear hz
      go_wp2_with (first
        | (refine st_nodeO rfl _ _ rfl (W.heap.size) c221 rfl rfl _ (S223.out.blk _ _ _ (.head _)) hszc221 rfl honec221 ?_; intro w224 hwN; have S225 := Lib.hid (S223.out.setRowO 0 _ _ _ c221 rfl hwN); clear hwN))
      refine ret_node rfl _ _ rfl (S225.out.blk _ _ _ (.head _)) hszc221 rfl ?_
      first | exact S225.out.done | (have e := S225.out.done; simp only [Int.add_sub_cancel] at e; exact e) | (simp only [Int.add_sub_cancel]; exact S225.out.done)
    have n6 := ht
    clear ht
    rcases Decidable.em (saidZ ws i = (⟨#[116, 114, 117, 101]⟩ : ByteArray)) with ht | ht
    ·
      rw [if_pos (Or.inr <| Or.inr ht)] at hr
      have e : lookT (saidZ ws i) = (.func (.func 75) #[] #[], true) := (by rw [ht]; rfl)
      rw [e] at hfl
      cases hfl
      clear e
      go_wp2_with fail
      rcases PR.split r with ⟨x229, rfl⟩ | ⟨n226, i227, o228, rfl⟩
      · replace hz := hr
        refine (constant_calls RC _ hi _ hz SM.out.row).mono ?_
        rintro _ _ ⟨rfl, hk⟩
        exact ⟨rfl, SM.out.dies hk⟩
      replace hz := hr
      have ho := (const_even _ _ _ _ _ hz).symm
      subst ho
      refine (constant_calls RC _ hi _ hz SM.out.row).mono ?_
      rintro _ w231 ⟨⟨_, rfl, hn⟩, hrw, hk⟩
      obtain ⟨c230, rfl, S232⟩ := SM.out.made hrw hk hn
      replace S232 := Lib.hid S232
      have hszc230 := S232.out.fst.size
      have honec230 := S232.out.fst.one
      clear hrw hk hn
      clear hz
      go_wp2_with (first
        | (refine st_nodeO rfl _ _ rfl (W.heap.size) c230 rfl rfl _ (S232.out.blk _ _ _ (.head _)) hszc230 rfl honec230 ?_; intro w233 hwN; have S234 := Lib.hid (S232.out.setRowO 0 _ _ _ c230 rfl hwN); clear hwN))
      refine ret_node rfl _ _ rfl (S234.out.blk _ _ _ (.head _)) hszc230 rfl ?_
      first | exact S234.out.done | (have e := S234.out.done; simp only [Int.add_sub_cancel] at e; exact e) | (simp only [Int.add_sub_cancel]; exact S234.out.done)
    have n7 := ht
    clear ht
    rw [if_neg (fun e => e.elim n5 fun e => e.elim n6 n7)] at hr
    rcases Decidable.em (saidZ ws i = (⟨#[105, 102]⟩ : ByteArray)) with ht | ht
    ·
      rw [if_pos ht] at hr
      have e : lookT (saidZ ws i) = (.func (.func 76) #[] #[], true) := (by rw [ht]; rfl)
      rw [e] at hfl
      cases hfl
      clear e
      go_wp2_with fail
      rcases PR.split r with ⟨x238, rfl⟩ | ⟨n235, i236, o237, rfl⟩
      · replace hz := hr
        refine (condition_calls RC _ hi _ hz SM.out.row).mono ?_
        rintro _ _ ⟨rfl, hk⟩
        exact ⟨rfl, SM.out.dies hk⟩
      replace hz := hr
      have ho := (if_even RC.even _ _ _ _ _ hz).symm
      subst ho
      refine (condition_calls RC _ hi _ hz SM.out.row).mono ?_
      rintro _ w240 ⟨⟨_, rfl, hn⟩, hrw, hk⟩
      obtain ⟨c239, rfl, S241⟩ := SM.out.made hrw hk hn
      replace S241 := Lib.hid S241
      have hszc239 := S241.out.fst.size
      have honec239 := S241.out.fst.one
      clear hrw hk hn
      clear hz
      go_wp2_with (first
        | (refine st_nodeO rfl _ _ rfl (W.heap.size) c239 rfl rfl _ (S241.out.blk _ _ _ (.head _)) hszc239 rfl honec239 ?_; intro w242 hwN; have S243 := Lib.hid (S241.out.setRowO 0 _ _ _ c239 rfl hwN); clear hwN))
      refine ret_node rfl _ _ rfl (S243.out.blk _ _ _ (.head _)) hszc239 rfl ?_
      first | exact S243.out.done | (have e := S243.out.done; simp only [Int.add_sub_cancel] at e; exact e) | (simp only [Int.add_sub_cancel]; exact S243.out.done)
    have n8 := ht
    clear ht
    rw [if_neg n8] at hr
    rcases Decidable.em (saidZ ws i = (⟨#[116, 114, 121]⟩ : ByteArray)) with ht | ht
    ·
      rw [if_pos ht] at hr
      have e : lookT (saidZ ws i) = (.func (.func 77) #[] #[], true) := (by rw [ht]; rfl)
      rw [e] at hfl
      cases hfl
      clear e
      go_wp2_with fail
      rcases PR.split r with ⟨x247, rfl⟩ | ⟨n244, i245, o246, rfl⟩
      · replace hz := hr
        refine (try_calls RC _ hi _ hz SM.out.row).mono ?_
        rintro _ _ ⟨rfl, hk⟩
        exact ⟨rfl, SM.out.dies hk⟩
      replace hz := hr
      have ho := (try_even RC.even _ _ _ _ _ hz).symm
      subst ho
      refine (try_calls RC _ hi _ hz SM.out.row).mono ?_
      rintro _ w249 ⟨⟨_, rfl, hn⟩, hrw, hk⟩
      obtain ⟨c248, rfl, S250⟩ := SM.out.made hrw hk hn
      replace S250 := Lib.hid S250
      have hszc248 := S250.out.fst.size
      have honec248 := S250.out.fst.one
      clear hrw hk hn
      clear hz
      go_wp2_with (first
        | (refine st_nodeO rfl _ _ rfl (W.heap.size) c248 rfl rfl _ (S250.out.blk _ _ _ (.head _)) hszc248 rfl honec248 ?_; intro w251 hwN; have S252 := Lib.hid (S250.out.setRowO 0 _ _ _ c248 rfl hwN); clear hwN))
      refine ret_node rfl _ _ rfl (S252.out.blk _ _ _ (.head _)) hszc248 rfl ?_
      first | exact S252.out.done | (have e := S252.out.done; simp only [Int.add_sub_cancel] at e; exact e) | (simp only [Int.add_sub_cancel]; exact S252.out.done)
    have n9 := ht
    clear ht
    rw [if_neg n9] at hr
    rcases Decidable.em (saidZ ws i = (⟨#[114, 101, 100, 117, 99, 101]⟩ : ByteArray)) with ht | ht
    ·
      rw [if_pos ht] at hr
      have e : lookT (saidZ ws i) = (.func (.func 78) #[] #[], true) := (by rw [ht]; rfl)
      rw [e] at hfl
      cases hfl
      clear e
      go_wp2_with fail
      rcases PR.split r with ⟨x256, rfl⟩ | ⟨n253, i254, o255, rfl⟩
      · replace hz := hr
        refine (reduce_calls RC _ hi _ hz SM.out.row).mono ?_
        rintro _ _ ⟨rfl, hk⟩
        exact ⟨rfl, SM.out.dies hk⟩
      replace hz := hr
      have ho := (reduce_even RC.even _ _ _ _ _ hz).symm
      subst ho
      refine (reduce_calls RC _ hi _ hz SM.out.row).mono ?_
      rintro _ w258 ⟨⟨_, rfl, hn⟩, hrw, hk⟩
      obtain ⟨c257, rfl, S259⟩ := SM.out.made hrw hk hn
      replace S259 := Lib.hid S259
      have hszc257 := S259.out.fst.size
      have honec257 := S259.out.fst.one
      clear hrw hk hn
      clear hz
      go_wp2_with (first
        | (refine st_nodeO rfl _ _ rfl (W.heap.size) c257 rfl rfl _ (S259.out.blk _ _ _ (.head _)) hszc257 rfl honec257 ?_; intro w260 hwN; have S261 := Lib.hid (S259.out.setRowO 0 _ _ _ c257 rfl hwN); clear hwN))
      refine ret_node rfl _ _ rfl (S261.out.blk _ _ _ (.head _)) hszc257 rfl ?_
      first | exact S261.out.done | (have e := S261.out.done; simp only [Int.add_sub_cancel] at e; exact e) | (simp only [Int.add_sub_cancel]; exact S261.out.done)
    have n10 := ht
    clear ht
    rw [if_neg n10] at hr
    rcases Decidable.em (saidZ ws i = (⟨#[102, 111, 114, 101, 97, 99, 104]⟩ : ByteArray)) with ht | ht
    ·
      rw [if_pos ht] at hr
      have e : lookT (saidZ ws i) = (.func (.func 79) #[] #[], true) := (by rw [ht]; rfl)
      rw [e] at hfl
      cases hfl
      clear e
      go_wp2_with fail
      rcases PR.split r with ⟨x265, rfl⟩ | ⟨n262, i263, o264, rfl⟩
      · replace hz := hr
        refine (foreach_calls RC _ hi _ hz SM.out.row).mono ?_
        rintro _ _ ⟨rfl, hk⟩
        exact ⟨rfl, SM.out.dies hk⟩
      replace hz := hr
      have ho := (foreach_even RC.even _ _ _ _ _ hz).symm
      subst ho
      refine (foreach_calls RC _ hi _ hz SM.out.row).mono ?_
      rintro _ w267 ⟨⟨_, rfl, hn⟩, hrw, hk⟩
      obtain ⟨c266, rfl, S268⟩ := SM.out.made hrw hk hn
      replace S268 := Lib.hid S268
      have hszc266 := S268.out.fst.size
      have honec266 := S268.out.fst.one
      clear hrw hk hn
      clear hz
      go_wp2_with (first
        | (refine st_nodeO rfl _ _ rfl (W.heap.size) c266 rfl rfl _ (S268.out.blk _ _ _ (.head _)) hszc266 rfl honec266 ?_; intro w269 hwN; have S270 := Lib.hid (S268.out.setRowO 0 _ _ _ c266 rfl hwN); clear hwN))
      refine ret_node rfl _ _ rfl (S270.out.blk _ _ _ (.head _)) hszc266 rfl ?_
      first | exact S270.out.done | (have e := S270.out.done; simp only [Int.add_sub_cancel] at e; exact e) | (simp only [Int.add_sub_cancel]; exact S270.out.done)
    have n11 := ht
    clear ht
    rw [if_neg n11] at hr
    rcases Decidable.em (saidZ ws i = (⟨#[98, 114, 101, 97, 107]⟩ : ByteArray)) with ht | ht
    ·
      rw [if_pos ht] at hr
      have e : lookT (saidZ ws i) = (.func (.func 80) #[] #[], true) := (by rw [ht]; rfl)
      rw [e] at hfl
      cases hfl
      clear e
      go_wp2_with fail
      rcases PR.split r with ⟨x274, rfl⟩ | ⟨n271, i272, o273, rfl⟩
      · replace hz := hr
        refine (leave_calls RC _ hi _ hz SM.out.row).mono ?_
        rintro _ _ ⟨rfl, hk⟩
        exact ⟨rfl, SM.out.dies hk⟩
      replace hz := hr
      have ho := (leave_even _ _ _ _ _ hz).symm
      subst ho
      refine (leave_calls RC _ hi _ hz SM.out.row).mono ?_
      rintro _ w276 ⟨⟨_, rfl, hn⟩, hrw, hk⟩
      obtain ⟨c275, rfl, S277⟩ := SM.out.made hrw hk hn
      replace S277 := Lib.hid S277
      have hszc275 := S277.out.fst.size
      have honec275 := S277.out.fst.one
      clear hrw hk hn
      clear hz
      go_wp2_with (first
        | (refine st_nodeO rfl _ _ rfl (W.heap.size) c275 rfl rfl _ (S277.out.blk _ _ _ (.head _)) hszc275 rfl honec275 ?_; intro w278 hwN; have S279 := Lib.hid (S277.out.setRowO 0 _ _ _ c275 rfl hwN); clear hwN))
      refine ret_node rfl _ _ rfl (S279.out.blk _ _ _ (.head _)) hszc275 rfl ?_
      first | exact S279.out.done | (have e := S279.out.done; simp only [Int.add_sub_cancel] at e; exact e) | (simp only [Int.add_sub_cancel]; exact S279.out.done)
    have n12 := ht
    clear ht
    rw [if_neg n12] at hr
    have e : lookT (saidZ ws i) = (.nilFunc, false) := by simp [lookT, findT, termsT, n0, n1, n2, n3, n4, n5, n6, n7, n8, n9, n10, n11, n12]
    rw [e] at hfl
    cases hfl
    clear e
    go_wp2_with fail
    rw [failZ_eq] at hr
    cases hr
    refine (fail_calls_row _ SM.out.row).mono ?_
    rintro _ _ ⟨rfl, hd⟩
    exact ⟨rfl, SM.out.dies (Kp.of_drawn hd)⟩
  rw [if_neg (fun e => e.elim h10 hk)] at hr
  have q2 : (kindZ ws i == 2) = false := by simpa using hk
  clear hk h10
  go_wp2_with fail
  rw [failZ_eq] at hr
  cases hr
  refine (fail_calls_row _ S5.out.row).mono ?_
  rintro _ _ ⟨rfl, hd⟩
  exact ⟨rfl, S5.out.dies (Kp.of_drawn hd)⟩

end Go.Proofs.YthlmhnlfcnpocaaDoor.U

namespace Go.Proofs.YthlmhnlfcnpocaaDoor.U
open Go.RowKit Go.Proofs.YthlmhnlfcnpocaaDoorW.PrintWords
set_option linter.unusedSimpArgs false
set_option linter.unusedVariables false

set_option maxHeartbeats 8000000 in
set_option maxRecDepth 100000 in
theorem post_calls {p : Nat} {vw : Value} {ws : List Tok} {en : Int} {rc : PC → Nat → Int → PR SN} (RC : RcOk p vw ws en rc) {i : Nat} {o : Int} (W : World) (k : Nat) (hkb : k ≤ 8589934592) (r : Except (Int × Int) (SN × Nat × Int)) (hr : postZ ws en rc k i o = some r) (h : Rw p vw ws en i o W) :
    Calls Tryd.prog 28 #[.pointer (some ⟨p, 0, none⟩)] W (Ends p vw ws en W (IsN (W.heap.size ≤ ·)) r) := by
  have S0 := Lib.hid (St.start (G := (W.heap.size ≤ ·)) (V := []) h (Nat.not_le.2 h.lt) (fun k hk => hk) (fun _ hx => by cases hx))
  clear h
  go_enter Tryd.func28, Tryd.ntmps28
  go_wp2_with fail
  have S1 := Lib.hid (S0.out.allocAt (W.heap.size) (by simp [World.setCell]) 28 (ndCells 0 0 ⟨#[]⟩ 0 ⟨#[]⟩ ⟨#[]⟩ (.slice none 0 0) (.slice none 0 0)))
  clear S0
  unfold postZ at hr
  go_wp2_with fail
  rcases PR.cases hr with ⟨x5, hz, rfl⟩ | ⟨n2, i3, o4, hz, hr'⟩
  · refine (term_calls RC _ k hkb _ hz S1.out.row).mono ?_
    rintro _ _ ⟨rfl, hk⟩
    exact ⟨rfl, S1.out.dies hk⟩
  replace hr := hr'
  clear hr'
  have ho := (term_even RC.even _ _ _ _ _ _ hz).symm
  subst ho
  refine (term_calls RC _ k hkb _ hz S1.out.row).mono ?_
  rintro _ w7 ⟨⟨_, rfl, hn⟩, hrw, hk⟩
  obtain ⟨c6, rfl, S8⟩ := S1.out.made hrw hk hn
  replace S8 := Lib.hid S8
  have hszc6 := S8.out.fst.size
  have honec6 := S8.out.fst.one
  clear hrw hk hn
  clear S1
  clear hz
  have S9 := Lib.hid (S8.out.allocAt (w7.heap.size) (by simp [World.setCell]) 28 (ndCells 0 0 ⟨#[]⟩ 0 ⟨#[]⟩ ⟨#[]⟩ (.slice none 0 0) (.slice none 0 0)))
  clear S8
  go_wp2_with (first
    | (refine st_nodeO rfl _ _ rfl (w7.heap.size) c6 rfl rfl _ (S9.out.blk _ _ _ (.head _)) hszc6 rfl honec6 ?_; intro w10 hwN; have S11 := Lib.hid (S9.out.setRowO 0 _ _ _ c6 rfl hwN); clear hwN))
  try simp only [Act.put, List.setIfInBounds_toArray, List.set_cons_zero, List.set_cons_succ]
  have HR := Lib.hid hr
  clear hr
  go_loopg [] k (fun g wx => ∃ (f i1 : Nat) (o1 : Int) (n : SN) (c : Array Value), g = f ∧ Hid (postsZ ws en rc k f n i1 o1 = some r) ∧ Hid (St p vw ws en W (· = p) (W.heap.size ≤ ·) [(w7.heap.size, 28, c), (W.heap.size, 28, (ndCells 0 0 ⟨#[]⟩ 0 ⟨#[]⟩ ⟨#[]⟩ (.slice none 0 0) (.slice none 0 0)))] [(c, n)] i1 o1 wx))
  case atStart => exact ⟨k, _, _, n2, c6, rfl, HR, S11⟩
  case round =>
    clear HR S11 hszc6 honec6
    obtain ⟨f, i1, o1, n, c, hg, HR, S⟩ := hrel
    have hr := HR.out
    obtain ⟨f, rfl⟩ : ∃ m, f = m + 1 := ⟨f - 1, by have : f ≠ 0 := (by rintro rfl; cases hr); omega⟩
    rw [postsZ] at hr
    clear HR
    have hszc := S.out.fst.size
    have honec := S.out.fst.one
    go_wp2_with fail
    refine (place_calls _ S.out.row).mono ?_
    rintro _ w12 ⟨rfl, hd⟩
    have S13 := Lib.hid (S.out.drawn hd)
    clear S
    clear hd
    go_wp2_with fail
    refine (kind_calls _ S13.out.row).mono ?_
    rintro _ w14 ⟨rfl, hd⟩
    have S15 := Lib.hid (S13.out.drawn hd)
    clear S13
    clear hd
    by_cases h4 : kindZ ws i1 = 4
    ·
      rw [if_pos h4] at hr
      rw [h4]
      go_wp2_with fail
      refine region_T (fun w => w.heap[w7.heap.size]? = some (.cells c 28 (0, 0))) (fun j => j == 10) 11 rfl (by kernel_rfl) ?_
      have S16 := Lib.hid (S15.out.drawn (w' := World.drew _) ⟨1, rfl⟩)
      refine anyT_take (i := 0) (oi := _) (v := (.int .i64 (placeZ ws en i1))) (d := (some 18)) rfl rfl (by kernel_rfl) (by kernel_rfl) rfl (by kernel_rfl) (by kernel_rfl) (fun _ _ _ h => h) (Or.inl ⟨by rfl, fun _ _ => rfl⟩) (S16.out.blk _ _ _ (.head _)) ?_
      try simp only [Act.put, List.setIfInBounds_toArray, List.set_cons_zero, List.set_cons_succ]
      refine anyT_take (i := 1) (oi := _) (v := (.agg c)) (d := (some 19)) rfl rfl (by kernel_rfl) (by kernel_rfl) rfl (by kernel_rfl) (by kernel_rfl) (fun _ _ _ h => h) (yl_node _ rfl (by rfl) _ rfl _ (fun _ h => h) hszc) (S16.out.blk _ _ _ (.head _)) ?_
      try simp only [Act.put, List.setIfInBounds_toArray, List.set_cons_zero, List.set_cons_succ]
      refine anyT_take (i := 2) (oi := _) (v := (.pointer (some ⟨p, 0, none⟩))) (d := (some 20)) rfl rfl (by kernel_rfl) (by kernel_rfl) rfl (by kernel_rfl) (by kernel_rfl) (fun _ _ _ h => h) (Or.inl ⟨by rfl, fun _ _ => rfl⟩) (S16.out.blk _ _ _ (.head _)) ?_
      try simp only [Act.put, List.setIfInBounds_toArray, List.set_cons_zero, List.set_cons_succ]
      refine anyT_take (i := 3) (oi := _) (v := (.pointer (some ⟨p, 0, none⟩))) (d := (some 21)) rfl rfl (by kernel_rfl) (by kernel_rfl) rfl (by kernel_rfl) (by kernel_rfl) (fun _ _ _ h => h) (Or.inl ⟨by rfl, fun w hS => by go_simp⟩) (S16.out.blk _ _ _ (.head _)) ?_
      try simp only [Act.put, List.setIfInBounds_toArray, List.set_cons_zero, List.set_cons_succ]
      refine anyT_take (i := 4) (oi := _) (v := (.pointer (some ⟨p, 0, none⟩))) (d := (some 22)) rfl rfl (by kernel_rfl) (by kernel_rfl) rfl (by kernel_rfl) (by kernel_rfl) (fun _ _ _ h => h) (Or.inl ⟨by rfl, fun w hS => by go_simp⟩) (S16.out.blk _ _ _ (.head _)) ?_
      try simp only [Act.put, List.setIfInBounds_toArray, List.set_cons_zero, List.set_cons_succ]
      refine anyT_take (i := 6) (oi := _) (v := (.int .i64 (placeZ ws en i1))) (d := (some 24)) rfl rfl (by kernel_rfl) (by kernel_rfl) rfl (by kernel_rfl) (by kernel_rfl) (fun _ _ _ h => h) (Or.inl ⟨by rfl, fun _ _ => rfl⟩) (S16.out.blk _ _ _ (.head _)) ?_
      try simp only [Act.put, List.setIfInBounds_toArray, List.set_cons_zero, List.set_cons_succ]
      refine anyT_step (i := 5) (oi := _) rfl (by kernel_rfl) (by rfl) (fun K hK => ?_)
      go_simp
      refine (name_calls _ 4 (by decide) _ (nameZ_yes h4) S16.out.row).mono ?_
      rintro _ w17 ⟨⟨_, rfl, rfl⟩, hrw, hk⟩
      have S18 := Lib.hid (S16.out.call hrw hk)
      clear S16
      clear hrw hk
      refine hK.out _ _ (fun h => (S18.out.blk _ _ _ (.head _))) ?_
      clear hK K
      try simp only [Act.put, List.setIfInBounds_toArray, List.set_cons_zero, List.set_cons_succ]
      refine anyT_step (i := 7) (oi := _) rfl (by kernel_rfl) (by rfl) (fun K hK => ?_)
      go_simp
      refine (txt_calls _ (saidZ ws i1) (placeZ ws en i1) S18.out.row).mono ?_
      rintro _ w19 ⟨rfl, hrw, hk⟩
      have S20 := Lib.hid (S18.out.call hrw hk)
      clear S18
      clear hrw hk
      have S21 := Lib.hid (S20.out.plain 2 (placeZ ws en i1) ⟨#[]⟩ 4 ⟨#[]⟩ (saidZ ws i1))
      clear S20
      refine hK.out _ _ (fun h => (S21.out.blk _ _ _ (.head _))) ?_
      clear hK K
      try simp only [Act.put, List.setIfInBounds_toArray, List.set_cons_zero, List.set_cons_succ]
      refine anyT_step (i := 8) (oi := _) rfl (by kernel_rfl) (by rfl) (fun K hK => ?_)
      refine wp_bs_nodes 2 _ rfl [c, (ndCells 2 (placeZ ws en i1) ⟨#[]⟩ 4 ⟨#[]⟩ (saidZ ws i1) (.slice none 0 0) (.slice none 0 0))] rfl (by intro c hc; simp only [List.mem_cons, List.not_mem_nil, or_false] at hc; rcases hc with rfl | rfl <;> first | assumption | rfl) rfl (by decide) (by decide) ?_
      intro cur hcur
      have S22 := Lib.hid (S21.out.build 7 (placeZ ws en i1) ⟨#[]⟩ [c, (ndCells 2 (placeZ ws en i1) ⟨#[]⟩ 4 ⟨#[]⟩ (saidZ ws i1) (.slice none 0 0) (.slice none 0 0))] [n, (SN.mk 2 (placeZ ws en i1) ⟨#[]⟩ 4 ⟨#[]⟩ (saidZ ws i1) [] [])] (.cons (S21.out.nds (c, n) (.tail _ (.head _))) (.cons (S21.out.nds ((ndCells 2 (placeZ ws en i1) ⟨#[]⟩ 4 ⟨#[]⟩ (saidZ ws i1) (.slice none 0 0) (.slice none 0 0)), (SN.mk 2 (placeZ ws en i1) ⟨#[]⟩ 4 ⟨#[]⟩ (saidZ ws i1) [] [])) (.head _)) .nil)) (by simp) (by simp) cur hcur)
      clear S21
      refine hK.out (Act.put _ (some 26) _) _ (fun h => (S22.out.blk _ _ _ (.head _))) ?_
      clear hK K
      try simp only [Act.put, List.setIfInBounds_toArray, List.set_cons_zero, List.set_cons_succ]
      refine anyT_step (i := 9) (oi := _) rfl (by kernel_rfl) (by rfl) (fun K hK => ?_)
      go_simp
      refine hK.out _ _ (fun h => (S22.out.blk _ _ _ (.head _))) ?_
      clear hK K
      try simp only [Act.put, List.setIfInBounds_toArray, List.set_cons_zero, List.set_cons_succ]
      refine anyT_step (i := 10) (oi := _) rfl (by kernel_rfl) (by rfl) (fun K hK => ?_)
      refine wp_st_node _ _ rfl _ _ rfl rfl _ (S22.out.blk _ _ _ (.head _)) rfl hszc (by first | (simp [ndCells, Value.oneCell']; done) | exact nd_one rfl hok.one | exact nd_one hok.one rfl) ?_
      refine hK.out (Act.put _ none _) _ (fun h => by cases h) ?_
      clear hK K
      try simp only [Act.put, List.setIfInBounds_toArray, List.set_cons_zero, List.set_cons_succ]
      have S23 := Lib.hid (S22.out.setRow 0 _ _ _ (ndCells 7 (placeZ ws en i1) ⟨#[]⟩ 0 ⟨#[]⟩ ⟨#[]⟩ (.slice none 0 0) (.slice (some ⟨w19.heap.size, 0, none⟩) 2 2)) rfl)
      clear S22
      refine anyT_done (by kernel_rfl) ?_ _
      go_wp2_with fail
      have S24 := Lib.hid (S23.out.drop (V' := [((ndCells 7 (placeZ ws en i1) ⟨#[]⟩ 0 ⟨#[]⟩ ⟨#[]⟩ (.slice none 0 0) (.slice (some ⟨w19.heap.size, 0, none⟩) 2 2)), (SN.mk 7 (placeZ ws en i1) ⟨#[]⟩ 0 ⟨#[]⟩ ⟨#[]⟩ [] [n, (SN.mk 2 (placeZ ws en i1) ⟨#[]⟩ 4 ⟨#[]⟩ (saidZ ws i1) [] [])]))]) (fun x hx => by rw [List.mem_singleton] at hx; subst hx; exact (.head _)))
      clear S23
      go_roundg f
      case rel => exact ⟨f, _, _, _, _, rfl, Lib.hid hr, S24⟩
      case measure => omega
    ·
      rw [if_neg h4] at hr
      have h4' : (kindZ ws i1 == 4) = false := by simpa using h4
      clear h4
      go_wp2_with fail
      have S25 := Lib.hid (S15.out.waste (.cells #[.string ⟨#[46]⟩] 9))
      refine (is_calls _ _ ⟨#[46]⟩ _ (cell_top _ _ _ _ (by simp)) S25.out.row).mono ?_
      rintro _ w26 ⟨rfl, hd⟩
      have S28 := Lib.hid (S25.out.drawn hd)
      clear S25
      clear hd
      cases hb27 : isZ ws i1 ⟨#[46]⟩ with
      | true =>
        rw [if_pos hb27] at hr
        have c1_ := S28.out.row.c1
        have f1_ := S28.out.row.fr 1
        have hw1_ := S28.out.wrapU
        have hlt := isZ_lt hb27
        go_wp2_with fail
        clear c1_ f1_ hw1_
        have S29 := Lib.hid (S28.out.step hlt)
        refine region_T (fun w => w.heap[w7.heap.size]? = some (.cells c 28 (0, 0))) (fun j => j == 6) 7 rfl (by kernel_rfl) ?_
        have S30 := Lib.hid (S29.out.drawn (w' := World.drew _) ⟨1, rfl⟩)
        clear S29
        refine anyT_take (i := 0) (oi := _) (v := (.int .i64 (placeZ ws en i1))) (d := (some 43)) rfl rfl (by kernel_rfl) (by kernel_rfl) rfl (by kernel_rfl) (by kernel_rfl) (fun _ _ _ h => h) (Or.inl ⟨by rfl, fun _ _ => rfl⟩) (S30.out.blk _ _ _ (.head _)) ?_
        try simp only [Act.put, List.setIfInBounds_toArray, List.set_cons_zero, List.set_cons_succ]
        refine anyT_take (i := 1) (oi := _) (v := (.agg c)) (d := (some 44)) rfl rfl (by kernel_rfl) (by kernel_rfl) rfl (by kernel_rfl) (by kernel_rfl) (fun _ _ _ h => h) (yl_node _ rfl (by rfl) _ rfl _ (fun _ h => h) hszc) (S30.out.blk _ _ _ (.head _)) ?_
        try simp only [Act.put, List.setIfInBounds_toArray, List.set_cons_zero, List.set_cons_succ]
        refine anyT_take (i := 2) (oi := _) (v := (.pointer (some ⟨p, 0, none⟩))) (d := (some 45)) rfl rfl (by kernel_rfl) (by kernel_rfl) rfl (by kernel_rfl) (by kernel_rfl) (fun _ _ _ h => h) (Or.inl ⟨by rfl, fun _ _ => rfl⟩) (S30.out.blk _ _ _ (.head _)) ?_
        try simp only [Act.put, List.setIfInBounds_toArray, List.set_cons_zero, List.set_cons_succ]
        refine anyT_step (i := 3) (oi := _) rfl (by kernel_rfl) (by rfl) (fun K hK => ?_)
        go_simp
        rcases PR.cases hr with ⟨x34, hz, rfl⟩ | ⟨n31, i32, o33, hz, hr'⟩
        · refine (text_calls RC _ k hkb _ hz S30.out.row).mono ?_
          rintro _ _ ⟨rfl, hk⟩
          exact ⟨rfl, S30.out.dies hk⟩
        replace hr := hr'
        clear hr'
        have ho := (text_even RC.even _ _ _ _ _ _ hz).symm
        subst ho
        refine (text_calls RC _ k hkb _ hz S30.out.row).mono ?_
        rintro _ w36 ⟨⟨_, rfl, hn⟩, hrw, hk⟩
        obtain ⟨c35, rfl, S37⟩ := S30.out.made hrw hk hn
        replace S37 := Lib.hid S37
        have hszc35 := S37.out.fst.size
        have honec35 := S37.out.fst.one
        clear hrw hk hn
        clear S30
        clear hz
        refine hK.out _ _ (fun h => (S37.out.blk _ _ _ (.head _))) ?_
        clear hK K
        try simp only [Act.put, List.setIfInBounds_toArray, List.set_cons_zero, List.set_cons_succ]
        refine anyT_step (i := 4) (oi := _) rfl (by kernel_rfl) (by rfl) (fun K hK => ?_)
        refine wp_bs_nodes 2 _ rfl [c, c35] rfl (by intro c hc; simp only [List.mem_cons, List.not_mem_nil, or_false] at hc; rcases hc with rfl | rfl <;> first | assumption | rfl) rfl (by decide) (by decide) ?_
        intro cur hcur
        have S38 := Lib.hid (S37.out.build 7 (placeZ ws en i1) ⟨#[]⟩ [c, c35] [n, n31] (.cons (S37.out.nds (c, n) (.tail _ (.head _))) (.cons (S37.out.nds (c35, n31) (.head _)) .nil)) (by simp) (by simp) cur hcur)
        clear S37
        refine hK.out (Act.put _ (some 47) _) _ (fun h => (S38.out.blk _ _ _ (.head _))) ?_
        clear hK K
        try simp only [Act.put, List.setIfInBounds_toArray, List.set_cons_zero, List.set_cons_succ]
        refine anyT_step (i := 5) (oi := _) rfl (by kernel_rfl) (by rfl) (fun K hK => ?_)
        go_simp
        refine hK.out _ _ (fun h => (S38.out.blk _ _ _ (.head _))) ?_
        clear hK K
        try simp only [Act.put, List.setIfInBounds_toArray, List.set_cons_zero, List.set_cons_succ]
        refine anyT_step (i := 6) (oi := _) rfl (by kernel_rfl) (by rfl) (fun K hK => ?_)
        refine wp_st_node _ _ rfl _ _ rfl rfl _ (S38.out.blk _ _ _ (.head _)) rfl hszc (by first | (simp [ndCells, Value.oneCell']; done) | exact nd_one rfl hok.one | exact nd_one hok.one rfl) ?_
        refine hK.out (Act.put _ none _) _ (fun h => by cases h) ?_
        clear hK K
        try simp only [Act.put, List.setIfInBounds_toArray, List.set_cons_zero, List.set_cons_succ]
        have S39 := Lib.hid (S38.out.setRow 0 _ _ _ (ndCells 7 (placeZ ws en i1) ⟨#[]⟩ 0 ⟨#[]⟩ ⟨#[]⟩ (.slice none 0 0) (.slice (some ⟨w36.heap.size, 0, none⟩) 2 2)) rfl)
        clear S38
        refine anyT_done (by kernel_rfl) ?_ _
        go_wp2_with fail
        have S40 := Lib.hid (S39.out.drop (V' := [((ndCells 7 (placeZ ws en i1) ⟨#[]⟩ 0 ⟨#[]⟩ ⟨#[]⟩ (.slice none 0 0) (.slice (some ⟨w36.heap.size, 0, none⟩) 2 2)), (SN.mk 7 (placeZ ws en i1) ⟨#[]⟩ 0 ⟨#[]⟩ ⟨#[]⟩ [] [n, n31]))]) (fun x hx => by rw [List.mem_singleton] at hx; subst hx; exact (.head _)))
        clear S39
        go_roundg f
        case rel => exact ⟨f, _, _, _, _, rfl, Lib.hid hr, S40⟩
        case measure => omega
      | false =>
        rw [if_neg (by rw [hb27]; decide)] at hr
        go_wp2_with fail
        have S41 := Lib.hid (S28.out.waste (.cells #[.string ⟨#[91]⟩] 9))
        refine (is_calls _ _ ⟨#[91]⟩ _ (cell_top _ _ _ _ (by simp)) S41.out.row).mono ?_
        rintro _ w42 ⟨rfl, hd⟩
        have S44 := Lib.hid (S41.out.drawn hd)
        clear S41
        clear hd
        cases hb43 : isZ ws i1 ⟨#[91]⟩ with
        | true =>
          rw [if_pos hb43] at hr
          go_wp2_with (first
            | (refine ld_node rfl _ rfl _ rfl _ (S44.out.blk _ _ _ (.head _)) hszc ?_))
          have hlt := isZ_lt hb43
          rcases PR.cases hr with ⟨x48, hz, rfl⟩ | ⟨n45, i46, o47, hz, hr'⟩
          · refine (bracket_calls RC _ hlt _ _ _ (S44.out.nds (c, n) (.head _)) (fun e => S44.out.gp p S44.out.mp e.1) _ hz S44.out.row).mono ?_
            rintro _ _ ⟨rfl, hk⟩
            exact ⟨rfl, S44.out.dies hk⟩
          replace hr := hr'
          clear hr'
          have ho := (bracket_even RC.even _ _ _ _ _ _ hz).symm
          subst ho
          refine (bracket_calls RC _ hlt _ _ _ (S44.out.nds (c, n) (.head _)) (fun e => S44.out.gp p S44.out.mp e.1) _ hz S44.out.row).mono ?_
          rintro _ w50 ⟨⟨_, rfl, hn⟩, hrw, hk⟩
          obtain ⟨c49, rfl, S51⟩ := S44.out.madeF hrw hk hn
          replace S51 := Lib.hid S51
          have hszc49 := S51.out.fst.size
          have honec49 := S51.out.fst.one
          clear hrw hk hn
          clear hz
          go_wp2_with (first
            | (refine st_nodeO rfl _ _ rfl (w7.heap.size) c49 rfl rfl _ (S51.out.blk _ _ _ (.head _)) hszc49 hszc honec49 ?_; intro w52 hwN; have S53 := Lib.hid (S51.out.setRowO 0 _ _ _ c49 rfl hwN); clear hwN))
          have S54 := Lib.hid (S53.out.drop (V' := [(c49, n45)]) (fun x hx => by rw [List.mem_singleton] at hx; subst hx; exact (.head _)))
          clear S53
          go_roundg f
          case rel => exact ⟨f, _, _, _, _, rfl, Lib.hid hr, S54⟩
          case measure => omega
        | false =>
          rw [if_neg (by rw [hb43]; decide)] at hr
          go_wp2_with fail
          have S55 := Lib.hid (S44.out.waste (.cells #[.string ⟨#[63]⟩] 9))
          cases hb56 : isZ ws i1 ⟨#[63]⟩ with
          | true =>
            rw [if_pos hb56] at hr
            refine (take_calls _ _ ⟨#[63]⟩ _ true hb56 (cell_top _ _ _ _ (by simp)) S55.out.row).mono ?_
            rintro _ w57 ⟨rfl, hrw, hk⟩
            replace hrw : Rw p vw ws en (i1 + 1) _ _ := hrw
            have S58 := Lib.hid (S55.out.call hrw hk)
            clear hrw hk
            go_wp2_with (first
              | (refine ld_node rfl _ rfl _ rfl _ (S58.out.blk _ _ _ (.head _)) hszc ?_)
              | (refine bs_nodes rfl 1 _ rfl [c] rfl (by intro c hc; simp only [List.mem_cons, List.not_mem_nil, or_false] at hc; rcases hc with rfl <;> first | assumption | rfl) rfl (by decide) (by decide) ?_; intro cur hcur; have S59 := Lib.hid (S58.out.build 10 (placeZ ws en i1) ⟨#[]⟩ [c] [n] (.cons (S58.out.nds (c, n) (.head _)) .nil) (by simp) (by simp) cur hcur))
              | (refine st_nodeO rfl _ _ rfl (w7.heap.size) (ndCells 10 (placeZ ws en i1) ⟨#[]⟩ 0 ⟨#[]⟩ ⟨#[]⟩ (.slice none 0 0) (.slice (some ⟨w57.heap.size, 0, none⟩) 1 1)) rfl rfl _ (S59.out.blk _ _ _ (.head _)) rfl hszc (by first | (simp [ndCells, Value.oneCell']; done) | exact nd_one rfl hok.one | exact nd_one hok.one rfl) ?_; intro w60 hwN; have S61 := Lib.hid (S59.out.setRowO 0 _ _ _ (ndCells 10 (placeZ ws en i1) ⟨#[]⟩ 0 ⟨#[]⟩ ⟨#[]⟩ (.slice none 0 0) (.slice (some ⟨w57.heap.size, 0, none⟩) 1 1)) rfl hwN); clear hwN))
            have S62 := Lib.hid (S61.out.drop (V' := [((ndCells 10 (placeZ ws en i1) ⟨#[]⟩ 0 ⟨#[]⟩ ⟨#[]⟩ (.slice none 0 0) (.slice (some ⟨w57.heap.size, 0, none⟩) 1 1)), (SN.mk 10 (placeZ ws en i1) ⟨#[]⟩ 0 ⟨#[]⟩ ⟨#[]⟩ [] [n]))]) (fun x hx => by rw [List.mem_singleton] at hx; subst hx; exact (.head _)))
            clear S61
            go_roundg f
            case rel => exact ⟨f, _, _, _, _, rfl, Lib.hid hr, S62⟩
            case measure => omega
          | false =>
            rw [if_neg (by rw [hb56]; decide)] at hr
            refine (take_calls _ _ ⟨#[63]⟩ _ false hb56 (cell_top _ _ _ _ (by simp)) S55.out.row).mono ?_
            rintro _ w63 ⟨rfl, hrw, hk⟩
            replace hrw : Rw p vw ws en i1 _ _ := hrw
            have S64 := Lib.hid (S55.out.call hrw hk)
            clear hrw hk
            cases hr
            go_wp2_with (first
              | (refine ld_node rfl _ rfl _ rfl _ (S64.out.blk _ _ _ (.head _)) hszc ?_)
              | (refine st_node rfl _ _ rfl _ _ rfl rfl _ (S64.out.blk _ _ _ (.tail _ (.head _))) hszc rfl honec ?_))
            have S65 := Lib.hid (S64.out.setRow 1 _ _ _ c rfl)
            clear S64
            refine ret_node rfl _ _ rfl (S65.out.blk _ _ _ (.tail _ (.head _))) hszc rfl ?_
            first | exact S65.out.done | (have e := S65.out.done; simp only [Int.add_sub_cancel] at e; exact e) | (simp only [Int.add_sub_cancel]; exact S65.out.done)

end Go.Proofs.YthlmhnlfcnpocaaDoor.U

namespace Go.Proofs.YthlmhnlfcnpocaaDoor.U
open Go.RowKit Go.Proofs.YthlmhnlfcnpocaaDoorW.PrintWords

theorem go_rc (p : Nat) (vw : Value) (ws : List Tok) (en : Int) : ∀ f, f ≤ 8589934592 → RcOk p vw ws en (goZ ws en f)
  | 0, _ => ⟨fun _ _ _ _ _ _ h => (by cases h), fun _ _ _ _ h _ => (by cases h), fun _ _ _ _ h _ => (by cases h), fun _ _ _ _ h _ => (by cases h), fun _ _ _ _ _ _ _ _ h _ _ _ => (by cases h), fun _ _ _ _ _ _ h _ _ => (by cases h)⟩
  | f + 1, hf =>
    have IH := go_rc p vw ws en f (by omega)
    ⟨fun c i o x i' o' h => go_even ws en (f + 1) c i o x i' o' h,
      fun _ _ r W hr h => pipe_calls IH W f (by omega) r hr h,
      fun _ _ r W hr h => unary_calls IH W r hr h,
      fun _ _ r W hr h => post_calls IH W f (by omega) r hr h,
      fun l least _ _ r W F c hr h hc hF => climb_calls IH W least f F c l hc hF r hr h,
      fun a _ _ r W b hr h hb => branch_calls IH W b a hb r hr h⟩
end Go.Proofs.YthlmhnlfcnpocaaDoor.U

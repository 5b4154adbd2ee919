/- The reference's Same says yes of filters that are alike but for places. -/
import Derived.Test.YthlmhnlfcnpocaaDoorParseAll
import Derived.Test.YthlmhnlfcnpocaaDoorSynSim
import Derived.Test.YthlmhnlfcnpocaaDoorRowAll
namespace Go.Proofs.YthlmhnlfcnpocaaDoor.U
open Go.RowKit Go.Proofs.YthlmhnlfcnpocaaDoorW.PrintWords
set_option linter.unusedSimpArgs false
set_option linter.unusedVariables false

theorem cell_after {w w' : World} {q : Addr} {v : Value} (h : w.cell? q = some v) (hb : Below w.heap.size w w') : w'.cell? q = some v := (hb.cell (World.block_lt_of_cell? w q h)).trans h
theorem two {W w1 : World} {A B : Obj} (hb : Below ((W.alloc A).alloc B).heap.size ((W.alloc A).alloc B) w1) : Below W.heap.size W w1 ∧ w1.heap[W.heap.size]? = some A ∧ w1.heap[W.heap.size + 1]? = some B := by
  have z1 : (W.alloc A).heap.size = W.heap.size + 1 := by simp
  have z2 : ((W.alloc A).alloc B).heap.size = W.heap.size + 2 := by simp
  refine ⟨(Below.alloc (Below.alloc (Below.refl _ W) (Nat.le_refl _) _) (by omega) _).trans (hb.mono (by omega)), ?_, ?_⟩
  · rw [hb.block _ (by omega), Below.heap_alloc _ _ _ (by omega)]
    exact heap_alloc_new _ _
  · rw [hb.block _ (by omega), ← z1]
    exact heap_alloc_new _ _
theorem AliL.length {l m : List SN} (h : AliL l m) : m.length = l.length := by
  match l, m, h with
  | [], [], _ => rfl
  | _ :: _, _ :: _, .cons _ h2 => simp [AliL.length h2]
theorem AliL.get : ∀ {l m : List SN}, AliL l m → ∀ (j : Nat) (hj : j < l.length) (hj2 : j < m.length), Ali l[j] m[j]
  | _, _, .cons h1 h2, 0, _, _ => h1
  | _, _, .cons h1 h2, j + 1, hj, hj2 => AliL.get h2 j (Nat.lt_of_succ_lt_succ hj) (Nat.lt_of_succ_lt_succ hj2)

set_option maxHeartbeats 8000000 in
set_option maxRecDepth 100000 in
theorem alike_true (k : Int) (num vt : ByteArray) (w : World) : Calls Tryd.prog 16 #[.agg #[.int .i64 k, .string num, .string vt, .slice none 0 0, .slice none 0 0], .agg #[.int .i64 k, .string num, .string vt, .slice none 0 0, .slice none 0 0]] w fun e w' => e = .returned (.bool true) ∧ Below w.heap.size w w' := by
  have hW : ∀ A B : Obj, Below w.heap.size w ((w.alloc A).alloc B) := fun A B => Below.alloc (Below.alloc (Below.refl _ w) (Nat.le_refl _) _) (by simp) _
  go_enter Tryd.func16, Tryd.ntmps16
  go_wp2
  go_loopg [5] 0 (fun g v wx => v = .int .i64 0 ∧ g = 0 ∧ wx.cell? ⟨w.heap.size, 3, none⟩ = some (.slice none 0 0) ∧ wx.cell? ⟨w.heap.size, 4, none⟩ = some (.slice none 0 0) ∧ Hid (Below w.heap.size w wx))
  case atStart => exact ⟨rfl, rfl, by simp, by simp, hW _ _⟩
  case round =>
    obtain ⟨rfl, hg, c3, c4, hb⟩ := hrel
    go_wp2
    go_loopg [6] 0 (fun g v wx => v = .int .i64 0 ∧ g = 0 ∧ wx.cell? ⟨w.heap.size, 3, none⟩ = some (.slice none 0 0) ∧ Hid (Below w.heap.size w wx))
    case atStart => exact ⟨rfl, rfl, c3, hb⟩
    case round =>
      obtain ⟨rfl, hg2, c3', hb'⟩ := hrel
      go_wp2
      go_ret
      exact ⟨rfl, hb'.out⟩

/-- a filter is read out of a list, as one that may be taken first -/
theorem yl_nodeM {ops : Array Oper} {o : Oper} {a : Act} {S : World → Prop} (x : Operand) (ho : o.op = .load 28 x) (hw : Region.wanted o (yielded ops a.tmps) = true) (g j : Nat) (hx : a.eval x = .pointer (some ⟨g, j, none⟩)) (cs : Array Value) (hg : ∀ w, S w → w.rangeAt g j cs.toList) (hs : cs.size = 10) : YieldsIf Tryd.prog ops S o (.agg cs) a := by
  obtain ⟨l, hu⟩ := nodeU
  have e := yieldsIf_load_mid hw 28 x ho g j hx cs.toList _ hg hu rfl (by rw [nodeZ, Array.length_toList, hs])
  simpa using e
set_option maxHeartbeats 8000000 in
set_option maxRecDepth 100000 in
theorem same_true : ∀ (d : Nat) (x y : SN), SizeOf.sizeOf x ≤ d → Ali x y → ∀ (F F' : Nat → Prop) (W : World) (cx cy : Array Value), Nd F W cx x → Nd F' W cy y →
    Calls Tryd.prog 7 #[.agg cx, .agg cy] W fun e w' => e = .returned (.bool true) ∧ Below W.heap.size W w'
  | 0, x, y, hd, _, _, _, _, _, _, _, _ => by
    cases x
    simp at hd
  | d + 1, .mk op a t k num vt ns l, y, hd, hali, F, F', W, cx, cy, hx, hy => by
    obtain ⟨b, m, hal, rfl⟩ : ∃ b m, AliL l m ∧ y = .mk op b t k num vt ns m := by
      cases hali with
      | mk h => exact ⟨_, _, h, rfl⟩
    clear hali
    have hml := hal.length
    have hle := hx.lens
    have hsub : ∀ (j : Nat) (hj : j < l.length), SizeOf.sizeOf l[j] ≤ d := fun j hj => by
      have h1 := List.sizeOf_lt_of_mem (List.getElem_mem hj)
      simp only [SN.mk.sizeOf_spec] at hd
      omega
    obtain ⟨An, capn, Ak, capk, rfl, hnx, hkx⟩ := Nd.inv hx
    obtain ⟨Bn, capm, Bk, capj, rfl, hny, hky⟩ := Nd.inv hy
    rw [hml]
    have HX := Lib.hid hkx
    have HY := Lib.hid hky
    have HA := Lib.hid hal
    have HS := Lib.hid hsub
    have HN := Lib.hid hnx
    have HM := Lib.hid hny
    have HL := Lib.hid hml
    clear hx hy hkx hky hal hsub hnx hny hd hml
    simp only [ndCells]
    go_enter Tryd.func7, Tryd.ntmps7
    go_wp2_with (go_at_call 16; (with_reducible refine (alike_true k num vt _).mono ?_); rintro e1 w1 ⟨rfl, hb1⟩; obtain ⟨hW1, e1, e2⟩ := two hb1; have HB := Lib.hid hW1; have E1 := Lib.hid e1; have E2 := Lib.hid e2; clear hb1 hW1 e1 e2)
    go_loopg [5] ns.length (fun g v wx => ∃ i : Nat, v = .int .i64 i ∧ i + g = ns.length ∧ Hid (Below w1.heap.size w1 wx))
    case atStart => exact ⟨0, rfl, by omega, Below.refl _ _⟩
    case round =>
      obtain ⟨i, rfl, hig, hb⟩ := hrel
      have q1 := cell_after ((cell_of_row _ _ 8 _ _ _ E1.out).trans rfl) hb.out
      have q2 := cell_after ((cell_of_row _ _ 8 _ _ _ E2.out).trans rfl) hb.out
      change wr.cell? ⟨W.heap.size, 8, none⟩ = some (.slice An ns.length capn) at q1
      change wr.cell? ⟨W.heap.size + 1, 8, none⟩ = some (.slice Bn ns.length capm) at q2
      by_cases hi : i < ns.length
      · obtain ⟨g1, rfl, s1⟩ := HN.out i hi
        obtain ⟨g2, rfl, s2⟩ := HM.out i hi
        have p1 := cell_after (cell_after s1 HB.out) hb.out
        have p2 := cell_after (cell_after s2 HB.out) hb.out
        clear s1 s2
        have hi0 : (0 : Int) ≤ (i : Int) := by omega
        have hi1 : (i : Int) < (ns.length : Int) := by omega
        generalize ns[i] = nm at *
        go_wp2_with fail
        go_quiet (fail)
        all_goals
          go_wp2
          go_roundg (ns.length - (i + 1))
          case measure => omega
          case rel => exact ⟨i + 1, by simp, by omega, by first | exact hb.out | exact hb.out.drew | (apply pw_below_drewN; exact hb.out)⟩
      · have he : i = ns.length := by omega
        subst he
        go_wp2
        clear q1 q2
        go_loopg [6] l.length (fun g v wx => ∃ i : Nat, v = .int .i64 i ∧ i + g = l.length ∧ Hid (Below w1.heap.size w1 wx))
        case atStart => exact ⟨0, rfl, by omega, hb⟩
        case round =>
          clear hb
          obtain ⟨i, rfl, hig, hb⟩ := hrel
          have q1 := cell_after ((cell_of_row _ _ 9 _ _ _ E1.out).trans rfl) hb.out
          have q2 := cell_after ((cell_of_row _ _ 9 _ _ _ E2.out).trans rfl) hb.out
          change wr.cell? ⟨W.heap.size, 9, none⟩ = some (.slice Ak l.length capk) at q1
          change wr.cell? ⟨W.heap.size + 1, 9, none⟩ = some (.slice Bk l.length capj) at q2
          by_cases hi : i < l.length
          · have hi0 : (0 : Int) ≤ (i : Int) := by omega
            have hi1 : (i : Int) < (l.length : Int) := by omega
            go_wp2_with fail
            obtain ⟨g1, c1, rfl, n1, m1⟩ := HX.out i hi
            obtain ⟨g2, c2, rfl, n2, m2⟩ := HY.out i (by rw [HL.out]; exact hi)
            have hc1 := n1.size
            have hc2 := n2.size
            have r1 : ∀ w', Below wr.heap.size wr w' → w'.rangeAt g1 (i * 10) c1.toList := fun w' hw' j v hv => by
              have hj : j < 10 := by
                have := (List.getElem?_eq_some_iff.1 hv).1
                rw [Array.length_toList] at this
                omega
              exact cell_after (cell_after (cell_after ((m1 j hj).trans (by simpa using hv)) HB.out) hb.out) hw'
            have r2 : ∀ w', Below wr.heap.size wr w' → w'.rangeAt g2 (i * 10) c2.toList := fun w' hw' j v hv => by
              have hj : j < 10 := by
                have := (List.getElem?_eq_some_iff.1 hv).1
                rw [Array.length_toList] at this
                omega
              exact cell_after (cell_after (cell_after ((m2 j hj).trans (by simpa using hv)) HB.out) hb.out) hw'
            have R1 := Lib.hid r1
            have R2 := Lib.hid r2
            have Q1 := Lib.hid q1
            have Q2 := Lib.hid q2
            clear r1 r2 q1 q2 m1 m2
            refine region_T (fun w' => Below wr.heap.size wr w') (fun _ => false) 12 rfl (by kernel_rfl) ?_
            have hS : Below wr.heap.size wr wr.drew := (Below.refl _ _).drew
            refine anyT_take (i := 0) (oi := _) (v := (.pointer (some ⟨W.heap.size, 9, none⟩))) (d := (some 70)) rfl rfl (by kernel_rfl) (by kernel_rfl) rfl (by kernel_rfl) (by kernel_rfl) (fun _ _ _ h => h) (Or.inl ⟨by rfl, fun w hS => by go_simp⟩) hS ?_
            try simp only [Act.put, List.setIfInBounds_toArray, List.set_cons_zero, List.set_cons_succ]
            refine anyT_take (i := 1) (oi := _) (v := (.slice (some ⟨g1, 0, none⟩) l.length capk)) (d := (some 71)) rfl rfl (by kernel_rfl) (by kernel_rfl) rfl (by kernel_rfl) (by kernel_rfl) (fun _ _ _ h => h) (yl_cell 26 _ rfl (by rfl) (by kernel_rfl) _ _ rfl _ (fun _ h => cell_after Q1.out h)) hS ?_
            try simp only [Act.put, List.setIfInBounds_toArray, List.set_cons_zero, List.set_cons_succ]
            refine anyT_take (i := 2) (oi := _) (v := (.int .i64 (i : Int))) (d := (some 72)) rfl rfl (by kernel_rfl) (by kernel_rfl) rfl (by kernel_rfl) (by kernel_rfl) (fun _ _ _ h => h) (Or.inl ⟨by rfl, fun _ _ => rfl⟩) hS ?_
            try simp only [Act.put, List.setIfInBounds_toArray, List.set_cons_zero, List.set_cons_succ]
            refine anyT_take (i := 3) (oi := _) (v := (.pointer (some ⟨g1, i * 10, none⟩))) (d := (some 73)) rfl rfl (by kernel_rfl) (by kernel_rfl) rfl (by kernel_rfl) (by kernel_rfl) (fun _ _ _ h => h) (Or.inl ⟨by rfl, fun w hS => by go_simp⟩) hS ?_
            try simp only [Act.put, List.setIfInBounds_toArray, List.set_cons_zero, List.set_cons_succ]
            refine anyT_take (i := 4) (oi := _) (v := (.agg c1)) (d := (some 74)) rfl rfl (by kernel_rfl) (by kernel_rfl) rfl (by kernel_rfl) (by kernel_rfl) (fun _ _ _ h => h) (yl_nodeM _ rfl (by rfl) g1 (i * 10) rfl c1 R1.out hc1) hS ?_
            try simp only [Act.put, List.setIfInBounds_toArray, List.set_cons_zero, List.set_cons_succ]
            refine anyT_take (i := 5) (oi := _) (v := (.pointer (some ⟨W.heap.size + 1, 9, none⟩))) (d := (some 75)) rfl rfl (by kernel_rfl) (by kernel_rfl) rfl (by kernel_rfl) (by kernel_rfl) (fun _ _ _ h => h) (Or.inl ⟨by rfl, fun w hS => by go_simp⟩) hS ?_
            try simp only [Act.put, List.setIfInBounds_toArray, List.set_cons_zero, List.set_cons_succ]
            refine anyT_take (i := 6) (oi := _) (v := (.slice (some ⟨g2, 0, none⟩) l.length capj)) (d := (some 76)) rfl rfl (by kernel_rfl) (by kernel_rfl) rfl (by kernel_rfl) (by kernel_rfl) (fun _ _ _ h => h) (yl_cell 26 _ rfl (by rfl) (by kernel_rfl) _ _ rfl _ (fun _ h => cell_after Q2.out h)) hS ?_
            try simp only [Act.put, List.setIfInBounds_toArray, List.set_cons_zero, List.set_cons_succ]
            refine anyT_take (i := 7) (oi := _) (v := (.int .i64 (i : Int))) (d := (some 77)) rfl rfl (by kernel_rfl) (by kernel_rfl) rfl (by kernel_rfl) (by kernel_rfl) (fun _ _ _ h => h) (Or.inl ⟨by rfl, fun _ _ => rfl⟩) hS ?_
            try simp only [Act.put, List.setIfInBounds_toArray, List.set_cons_zero, List.set_cons_succ]
            refine anyT_take (i := 8) (oi := _) (v := (.pointer (some ⟨g2, i * 10, none⟩))) (d := (some 78)) rfl rfl (by kernel_rfl) (by kernel_rfl) rfl (by kernel_rfl) (by kernel_rfl) (fun _ _ _ h => h) (Or.inl ⟨by rfl, fun w hS => by go_simp⟩) hS ?_
            try simp only [Act.put, List.setIfInBounds_toArray, List.set_cons_zero, List.set_cons_succ]
            refine anyT_take (i := 9) (oi := _) (v := (.agg c2)) (d := (some 79)) rfl rfl (by kernel_rfl) (by kernel_rfl) rfl (by kernel_rfl) (by kernel_rfl) (fun _ _ _ h => h) (yl_nodeM _ rfl (by rfl) g2 (i * 10) rfl c2 R2.out hc2) hS ?_
            try simp only [Act.put, List.setIfInBounds_toArray, List.set_cons_zero, List.set_cons_succ]
            refine anyT_step (i := 10) (oi := _) rfl (by kernel_rfl) (by rfl) (fun K hK => ?_)
            go_simp
            refine (same_true d l[i] (m[i]'(by rw [HL.out]; exact hi)) (HS.out i hi) (HA.out.get i hi _) F F' _ c1 c2 (n1.carry fun k hk hlt => ⟨hk, ?_⟩) (n2.carry fun k hk hlt => ⟨hk, ?_⟩)).mono ?_
            · exact (hb.out.block k (Nat.lt_of_lt_of_le hlt HB.out.size)).trans (HB.out.block k hlt)
            · exact (hb.out.block k (Nat.lt_of_lt_of_le hlt HB.out.size)).trans (HB.out.block k hlt)
            rintro e3 w3 ⟨rfl, hb3⟩
            have hS3 : Below wr.heap.size wr w3 := hS.trans (hb3.mono (Nat.le_refl _))
            refine hK.out _ _ (fun h => hS3) ?_
            clear hK K hb3 hS
            try simp only [Act.put, List.setIfInBounds_toArray, List.set_cons_zero, List.set_cons_succ]
            refine anyT_take (i := 11) (oi := _) (v := (.bool false)) (d := (some 81)) rfl rfl (by kernel_rfl) (by kernel_rfl) rfl (by kernel_rfl) (by kernel_rfl) (fun _ _ _ h => h) (Or.inl ⟨by rfl, fun w hS => by go_simp⟩) hS3 ?_
            try simp only [Act.put, List.setIfInBounds_toArray, List.set_cons_zero, List.set_cons_succ]
            refine anyT_done (by kernel_rfl) ?_ _
            have HB3 := Lib.hid (hb.out.trans (hS3.mono hb.out.size))
            go_wp2
            go_roundg (l.length - (i + 1))
            case measure => omega
            case rel => exact ⟨i + 1, by simp, by omega, HB3⟩
          · have he : i = l.length := by omega
            subst he
            go_wp2
            go_ret
            exact ⟨rfl, HB.out.trans (hb.out.mono HB.out.size)⟩
end Go.Proofs.YthlmhnlfcnpocaaDoor.U

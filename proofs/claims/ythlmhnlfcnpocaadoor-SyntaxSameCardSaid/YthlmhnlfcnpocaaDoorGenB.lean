/- syntax.alike: are two values alike, field by field? -/
import Derived.Test.YthlmhnlfcnpocaaDoorGenSame
namespace Go.Proofs.YthlmhnlfcnpocaaDoor.U
open Go.RowKit Go.Proofs.YthlmhnlfcnpocaaDoorW.PrintWords
set_option linter.unusedSimpArgs false
set_option linter.unusedVariables false

set_option maxHeartbeats 16000000 in
set_option maxRecDepth 100000 in
theorem alike_calls : ∀ (d : Nat) (x y : GV), SizeOf.sizeOf x ≤ d → ∀ (W : World) (cx cy : List Value), RV W cx x → RV W cy y →
    Calls Tryd.prog 17 #[.agg cx.toArray, .agg cy.toArray] W fun e w' => e = .returned (.bool (sameV x y)) ∧ Below W.heap.size W w'
  | 0, x, y, hd, _, _, _, _, _ => by
    cases x
    simp at hd
  | d + 1, .mk k n t is ks, .mk k' n' t' is' ks', hd, W, cx, cy, hx, hy => by
    have hsub : ∀ (j : Nat) (hj : j < is.length), SizeOf.sizeOf is[j] ≤ d := fun j hj => by
      have h1 := List.sizeOf_lt_of_mem (List.getElem_mem hj)
      simp only [GV.mk.sizeOf_spec] at hd
      omega
    obtain ⟨vi, vk, css, rfl, hi, hI, hk⟩ : ∃ vi vk css, cx = [.int .i64 k, .string n, .string t, vi, vk] ∧ RSl W vi 5 is.length css.flatten ∧ RVL W css is ∧ RSl W vk 1 ks.length (strs ks) := by
      cases hx with
      | mk h1 h2 h3 => exact ⟨_, _, _, rfl, h1, h2, h3⟩
    obtain ⟨vi', vk', css', rfl, hi', hI', hk'⟩ : ∃ vi vk css, cy = [.int .i64 k', .string n', .string t', vi, vk] ∧ RSl W vi 5 is'.length css.flatten ∧ RVL W css is' ∧ RSl W vk 1 ks'.length (strs ks') := by
      cases hy with
      | mk h1 h2 h3 => exact ⟨_, _, _, rfl, h1, h2, h3⟩
    clear hx hy
    have z1 := hi
    have z2 := hk
    have z3 := hi'
    have z4 := hk'
    obtain ⟨Ai, ci, rfl, hli, -, -⟩ := z1
    obtain ⟨Ak, ck, rfl, hlk, -, -⟩ := z2
    obtain ⟨Ai', ci', rfl, hli', -, -⟩ := z3
    obtain ⟨Ak', ck', rfl, hlk', -, -⟩ := z4
    obtain ⟨R, hR⟩ : ∃ R, sameV (.mk k n t is ks) (.mk k' n' t' is' ks') = R := ⟨_, rfl⟩
    rw [hR]
    show Calls _ _ #[.agg #[.int .i64 k, .string n, .string t, .slice Ai is.length ci, .slice Ak ks.length ck], .agg #[.int .i64 k', .string n', .string t', .slice Ai' is'.length ci', .slice Ak' ks'.length ck']] _ _
    have hW : ∀ A B : Obj, Below W.heap.size W ((W.alloc A).alloc B) := fun A B => Below.alloc (Below.alloc (Below.refl _ W) (Nat.le_refl _) _) (by simp) _
    by_cases h1 : k = k'
    case neg =>
      have hb : (k != k') = true := bne_iff_ne.2 h1
      obtain rfl : R = false := by rw [← hR, sameV]; simp [h1]
      clear hR hsub hi hk hi' hk' hI hI'
      go_enter Tryd.func17, Tryd.ntmps17
      go_wp2
      go_ret
      exact ⟨rfl, hW _ _⟩
    subst h1
    by_cases h2 : n = n'
    case neg =>
      have hb := bytes_ne h2
      obtain rfl : R = false := by rw [← hR, sameV]; simp [h2]
      clear hR hsub hi hk hi' hk' hI hI'
      go_enter Tryd.func17, Tryd.ntmps17
      go_wp2
      go_ret
      exact ⟨rfl, hW _ _⟩
    subst h2
    by_cases h3 : t = t'
    case neg =>
      have hb := bytes_ne h3
      obtain rfl : R = false := by rw [← hR, sameV]; simp [h3]
      clear hR hsub hi hk hi' hk' hI hI'
      go_enter Tryd.func17, Tryd.ntmps17
      go_wp2
      go_ret
      exact ⟨rfl, hW _ _⟩
    subst h3
    by_cases h4 : is.length = is'.length
    case neg =>
      have hb : ((is.length : Int) != (is'.length : Int)) = true := bne_iff_ne.2 (by omega)
      obtain rfl : R = false := by rw [← hR, sameV]; simp [h4]
      clear hR hsub hi hk hi' hk' hI hI'
      go_enter Tryd.func17, Tryd.ntmps17
      go_wp2
      go_ret
      exact ⟨rfl, hW _ _⟩
    by_cases h5 : ks.length = ks'.length
    case neg =>
      have hb : ((ks.length : Int) != (ks'.length : Int)) = true := bne_iff_ne.2 (by omega)
      obtain rfl : R = false := by
        rw [← hR, sameV]
        have : ks ≠ ks' := fun e => h5 (by rw [e])
        simp [this]
      rw [← h4]
      clear hR hsub hi hk hi' hk' hI hI'
      go_enter Tryd.func17, Tryd.ntmps17
      go_wp2
      go_ret
      exact ⟨rfl, hW _ _⟩
    have H4 := Lib.hid h4
    have H5 := Lib.hid h5
    rw [← h4, ← h5]
    rw [← h4] at hi'
    rw [← h5] at hk'
    have HR := Lib.hid hR
    have HS := Lib.hid hsub
    have HI := Lib.hid hi
    have HJ := Lib.hid hi'
    have HK := Lib.hid hk
    have HM := Lib.hid hk'
    have VI := Lib.hid hI
    have VJ := Lib.hid hI'
    clear h4 h5 hR hsub hi hi' hk hk' hI hI' hd hli' hlk'
    go_enter Tryd.func17, Tryd.ntmps17
    go_wp2
    go_loopg [47] ks.length (fun g v wx => ∃ i : Nat, v = .int .i64 i ∧ i + g = ks.length ∧ Hid (∀ j, j < i → ks[j]? = ks'[j]?) ∧ wx.cell? ⟨W.heap.size, 3, none⟩ = some (.slice Ai is.length ci) ∧ wx.cell? ⟨W.heap.size, 4, none⟩ = some (.slice Ak ks.length ck) ∧ wx.cell? ⟨W.heap.size + 1, 3, none⟩ = some (.slice Ai' is.length ci') ∧ wx.cell? ⟨W.heap.size + 1, 4, none⟩ = some (.slice Ak' ks.length ck') ∧ Hid (Below W.heap.size W wx))
    case atStart => exact ⟨0, rfl, by omega, fun j hj => absurd hj (Nat.not_lt_zero _), by simp, by simp, by simp, by simp, hW _ _⟩
    case round =>
      obtain ⟨i, rfl, hig, hpre, q1, q2, q3, q4, hb⟩ := hrel
      by_cases hi : i < ks.length
      · have hi0 : (0 : Int) ≤ (i : Int) := by omega
        have hi1 : (i : Int) < (ks.length : Int) := by omega
        have hi2 : i < ks'.length := by have := H5.out; omega
        obtain ⟨x, rfl, hx⟩ := HK.out.elem i hi
        obtain ⟨x', rfl, hx'⟩ := HM.out.elem i hi
        have p1 := cell_aft (((hx 0 (by decide)).trans (show _ = some (Value.string ks[i]) by simp [strs, hi]))) hb.out
        have p2 := cell_aft (((hx' 0 (by decide)).trans (show _ = some (Value.string ks'[i]) by simp [strs, hi2]))) hb.out
        rw [Nat.mul_one, Nat.add_zero] at p1 p2
        clear hx hx'
        by_cases he : ks[i] = ks'[i]
        · have HE : Hid (∀ j, j < i + 1 → ks[j]? = ks'[j]?) := fun j hj => by
            by_cases hj2 : j = i
            · subst hj2
              rw [List.getElem?_eq_getElem hi, List.getElem?_eq_getElem hi2, he]
            · exact hpre.out j (by omega)
          rw [← he] at p2
          clear he
          go_wp2_with fail
          go_quiet (fail)
          all_goals
            go_wp2
            go_roundg (ks.length - (i + 1))
            case measure => omega
            case rel => exact ⟨i + 1, by simp, by omega, HE, q1, q2, q3, q4, by first | exact hb.out | exact hb.out.drew | (apply pw_below_drewN; exact hb.out)⟩
        · have hbn := bytes_ne he
          obtain rfl : R = false := by
            rw [← HR.out, sameV]
            have : ks ≠ ks' := fun e => he (by simp [e])
            simp [this]
          clear he
          generalize ks[i] = u1 at *
          generalize ks'[i] = u2 at *
          go_wp2_with fail
          go_quiet (fail)
          all_goals
            go_wp2
            go_ret
            exact ⟨rfl, by first | exact hb.out | exact hb.out.drew | (apply pw_below_drewN; exact hb.out)⟩
      · have hee : i = ks.length := by omega
        subst hee
        have hks : ks = ks' := by
          apply List.ext_getElem?
          intro j
          by_cases hj : j < ks.length
          · exact hpre.out j hj
          · rw [List.getElem?_eq_none (by omega), List.getElem?_eq_none (by have := H5.out; omega)]
        have HKS := Lib.hid hks
        clear hks hpre
        go_wp2
        go_loopg [65] is.length (fun g v wx => ∃ i : Nat, v = .int .i64 i ∧ i + g = is.length ∧ Hid (∀ j (h : j < is.length) (h2 : j < is'.length), j < i → sameV is[j] is'[j] = true) ∧ wx.cell? ⟨W.heap.size, 3, none⟩ = some (.slice Ai is.length ci) ∧ wx.cell? ⟨W.heap.size + 1, 3, none⟩ = some (.slice Ai' is.length ci') ∧ Hid (Below W.heap.size W wx))
        case atStart => exact ⟨0, rfl, by omega, fun j _ _ hj => absurd hj (Nat.not_lt_zero _), q1, q3, hb⟩
        case round =>
          clear hb q1 q2 q3 q4 hi hig
          obtain ⟨i, rfl, hig, hpre, q1, q3, hb⟩ := hrel
          by_cases hi : i < is.length
          · have hi0 : (0 : Int) ≤ (i : Int) := by omega
            have hi1 : (i : Int) < (is.length : Int) := by omega
            have hi2 : i < is'.length := by have := H4.out; omega
            go_wp2_with fail
            obtain ⟨x, rfl, hx⟩ := HI.out.elem i hi
            obtain ⟨x', rfl, hx'⟩ := HJ.out.elem i hi
            obtain ⟨hc1, rv1⟩ := VI.out.get i hi
            obtain ⟨hc2, rv2⟩ := VJ.out.get i hi2
            have r1 : ∀ w', Below wr.heap.size wr w' → ∀ j v, css[i][j]? = some v → w'.cell? ((x.add (i * 5)).add j) = some v := fun w' hw' j v hv => by
              have hj : j < 5 := by
                have h1 := (List.getElem?_eq_some_iff.1 hv).1
                have h2 := rv1.len
                omega
              have h3 := hx j hj
              rw [flatten_get css 5 VI.out.lens i hc1 j hj, hv] at h3
              rw [Addr.add_add]
              exact cell_aft (cell_aft h3 hb.out) hw'
            have r2 : ∀ w', Below wr.heap.size wr w' → ∀ j v, css'[i][j]? = some v → w'.cell? ((x'.add (i * 5)).add j) = some v := fun w' hw' j v hv => by
              have hj : j < 5 := by
                have h1 := (List.getElem?_eq_some_iff.1 hv).1
                have h2 := rv2.len
                omega
              have h3 := hx' j hj
              rw [flatten_get css' 5 VJ.out.lens i hc2 j hj, hv] at h3
              rw [Addr.add_add]
              exact cell_aft (cell_aft h3 hb.out) hw'
            have R1 := Lib.hid r1
            have R2 := Lib.hid r2
            have Q1 := Lib.hid q1
            have Q3 := Lib.hid q3
            have hl1 := rv1.len
            have hl2 := rv2.len
            have hcall := Lib.hid (fun w' (hw' : Below W.heap.size W w') => alike_calls d is[i] is'[i] (HS.out i hi) w' css[i] css'[i] (rv1.move hw') (rv2.move hw'))
            have hlast := Lib.hid (fun (h : sameV is[i] is'[i] = true) => show ∀ j (h : j < is.length) (h2 : j < is'.length), j < i + 1 → sameV is[j] is'[j] = true from fun j h1 h2 hj => by
              by_cases hj2 : j = i
              · subst hj2
                exact h
              · exact hpre.out j h1 h2 (by omega))
            have hfalse := Lib.hid (fun (h : sameV is[i] is'[i] = false) => show R = false by
              rw [← HR.out, sameV]
              have : sameVL is is' = false := by
                rw [Bool.eq_false_iff]
                intro h2
                have := (sameVL_all is is' H4.out).1 h2 i hi hi2
                rw [h] at this
                cases this
              rw [this, Bool.and_false])
            clear r1 r2 hx hx' rv1 rv2 hpre q1 q3
            generalize sameV is[i] is'[i] = b at *
            generalize css[i] = c1 at *
            generalize css'[i] = c2 at *
            refine region_T (fun w' => Below wr.heap.size wr w') (fun _ => false) 12 rfl (by kernel_rfl) ?_
            have hS : Below wr.heap.size wr wr.drew := (Below.refl _ _).drew
            refine anyT_take (i := 0) (oi := _) (v := (.pointer (some ⟨W.heap.size, 3, none⟩))) (d := (some 68)) rfl rfl (by kernel_rfl) (by kernel_rfl) rfl (by kernel_rfl) (by kernel_rfl) (fun _ _ _ h => h) (Or.inl ⟨by rfl, fun w hS => by go_simp⟩) hS ?_
            try simp only [Act.put, List.setIfInBounds_toArray, List.set_cons_zero, List.set_cons_succ]
            refine anyT_take (i := 1) (oi := _) (v := (.slice (some x) is.length ci)) (d := (some 69)) rfl rfl (by kernel_rfl) (by kernel_rfl) rfl (by kernel_rfl) (by kernel_rfl) (fun _ _ _ h => h) (yl_cell 22 _ rfl (by rfl) (by kernel_rfl) _ _ rfl _ (fun _ h => cell_aft Q1.out h)) hS ?_
            try simp only [Act.put, List.setIfInBounds_toArray, List.set_cons_zero, List.set_cons_succ]
            refine anyT_take (i := 2) (oi := _) (v := (.int .i64 (i : Int))) (d := (some 70)) rfl rfl (by kernel_rfl) (by kernel_rfl) rfl (by kernel_rfl) (by kernel_rfl) (fun _ _ _ h => h) (Or.inl ⟨by rfl, fun _ _ => rfl⟩) hS ?_
            try simp only [Act.put, List.setIfInBounds_toArray, List.set_cons_zero, List.set_cons_succ]
            refine anyT_take (i := 3) (oi := _) (v := (.pointer (some (x.add (i * 5))))) (d := (some 71)) rfl rfl (by kernel_rfl) (by kernel_rfl) rfl (by kernel_rfl) (by kernel_rfl) (fun _ _ _ h => h) (Or.inl ⟨by rfl, fun w hS => by go_simp⟩) hS ?_
            try simp only [Act.put, List.setIfInBounds_toArray, List.set_cons_zero, List.set_cons_succ]
            refine anyT_take (i := 4) (oi := _) (v := (.agg c1.toArray)) (d := (some 72)) rfl rfl (by kernel_rfl) (by kernel_rfl) rfl (by kernel_rfl) (by kernel_rfl) (fun _ _ _ h => h) (yl_any 25 _ rfl (by rfl) valU (x.add (i * 5)) rfl c1 (by rw [valZ, hl1]) R1.out) hS ?_
            try simp only [Act.put, List.setIfInBounds_toArray, List.set_cons_zero, List.set_cons_succ]
            refine anyT_take (i := 5) (oi := _) (v := (.pointer (some ⟨W.heap.size + 1, 3, none⟩))) (d := (some 73)) rfl rfl (by kernel_rfl) (by kernel_rfl) rfl (by kernel_rfl) (by kernel_rfl) (fun _ _ _ h => h) (Or.inl ⟨by rfl, fun w hS => by go_simp⟩) hS ?_
            try simp only [Act.put, List.setIfInBounds_toArray, List.set_cons_zero, List.set_cons_succ]
            refine anyT_take (i := 6) (oi := _) (v := (.slice (some x') is.length ci')) (d := (some 74)) rfl rfl (by kernel_rfl) (by kernel_rfl) rfl (by kernel_rfl) (by kernel_rfl) (fun _ _ _ h => h) (yl_cell 22 _ rfl (by rfl) (by kernel_rfl) _ _ rfl _ (fun _ h => cell_aft Q3.out h)) hS ?_
            try simp only [Act.put, List.setIfInBounds_toArray, List.set_cons_zero, List.set_cons_succ]
            refine anyT_take (i := 7) (oi := _) (v := (.int .i64 (i : Int))) (d := (some 75)) rfl rfl (by kernel_rfl) (by kernel_rfl) rfl (by kernel_rfl) (by kernel_rfl) (fun _ _ _ h => h) (Or.inl ⟨by rfl, fun _ _ => rfl⟩) hS ?_
            try simp only [Act.put, List.setIfInBounds_toArray, List.set_cons_zero, List.set_cons_succ]
            refine anyT_take (i := 8) (oi := _) (v := (.pointer (some (x'.add (i * 5))))) (d := (some 76)) rfl rfl (by kernel_rfl) (by kernel_rfl) rfl (by kernel_rfl) (by kernel_rfl) (fun _ _ _ h => h) (Or.inl ⟨by rfl, fun w hS => by go_simp⟩) hS ?_
            try simp only [Act.put, List.setIfInBounds_toArray, List.set_cons_zero, List.set_cons_succ]
            refine anyT_take (i := 9) (oi := _) (v := (.agg c2.toArray)) (d := (some 77)) rfl rfl (by kernel_rfl) (by kernel_rfl) rfl (by kernel_rfl) (by kernel_rfl) (fun _ _ _ h => h) (yl_any 25 _ rfl (by rfl) valU (x'.add (i * 5)) rfl c2 (by rw [valZ, hl2]) R2.out) hS ?_
            try simp only [Act.put, List.setIfInBounds_toArray, List.set_cons_zero, List.set_cons_succ]
            refine anyT_step (i := 10) (oi := _) rfl (by kernel_rfl) (by rfl) (fun K hK => ?_)
            go_simp
            refine (hcall.out _ (hb.out.drew)).mono ?_
            rintro e3 w3 ⟨rfl, hb3⟩
            have hS3 : Below wr.heap.size wr w3 := hS.trans (hb3.mono (Nat.le_refl _))
            have HB3 := Lib.hid (hb.out.trans (hS3.mono hb.out.size))
            have Q1' := Lib.hid (cell_aft Q1.out hS3)
            have Q3' := Lib.hid (cell_aft Q3.out hS3)
            cases b with
            | true =>
              refine hK.out _ _ (fun h => hS3) ?_
              clear hK K hb3 hS
              try simp only [Act.put, List.setIfInBounds_toArray, List.set_cons_zero, List.set_cons_succ]
              refine anyT_take (i := 11) (oi := _) (v := (.bool false)) (d := (some 79)) rfl rfl (by kernel_rfl) (by kernel_rfl) rfl (by kernel_rfl) (by kernel_rfl) (fun _ _ _ h => h) (Or.inl ⟨by rfl, fun w hS => by go_simp⟩) hS3 ?_
              try simp only [Act.put, List.setIfInBounds_toArray, List.set_cons_zero, List.set_cons_succ]
              refine anyT_done (by kernel_rfl) ?_ _
              have HP := Lib.hid (hlast.out rfl)
              go_wp2
              go_roundg (is.length - (i + 1))
              case measure => omega
              case rel => exact ⟨i + 1, by simp, by omega, HP.out, Q1'.out, Q3'.out, HB3⟩
            | false =>
              refine hK.out _ _ (fun h => hS3) ?_
              clear hK K hb3 hS
              try simp only [Act.put, List.setIfInBounds_toArray, List.set_cons_zero, List.set_cons_succ]
              refine anyT_take (i := 11) (oi := _) (v := (.bool true)) (d := (some 79)) rfl rfl (by kernel_rfl) (by kernel_rfl) rfl (by kernel_rfl) (by kernel_rfl) (fun _ _ _ h => h) (Or.inl ⟨by rfl, fun w hS => by go_simp⟩) hS3 ?_
              try simp only [Act.put, List.setIfInBounds_toArray, List.set_cons_zero, List.set_cons_succ]
              refine anyT_done (by kernel_rfl) ?_ _
              obtain rfl := hfalse.out rfl
              go_wp2
              go_ret
              exact ⟨rfl, HB3.out⟩
          · have hee : i = is.length := by omega
            subst hee
            obtain rfl : R = true := by
              rw [← HR.out, sameV, HKS.out, (sameVL_all is is' H4.out).2 (fun j h h2 => hpre.out j h h2 h)]
              simp [H4.out]
            go_wp2
            go_ret
            exact ⟨rfl, hb.out⟩
end Go.Proofs.YthlmhnlfcnpocaaDoor.U

-- Written by wip/xprint.py (the kit's printer with hooks) out of the translation; Lean checks it.
import Derived.Test.YtfkianfddjccgaaDoorU0
import Derived.Test.YtfkianfddjccgaaDoorTabs
import Derived.Test.YtfkianfddjccgaaDoorUL1x0
import Derived.Test.YtfkianfddjccgaaDoorUL3x0
namespace Go.Proofs.YtfkianfddjccgaaDoor.U
open Go.RowKit Go.Proofs.YtfkianfddjccgaaDoorW.PrintWords Go.Proofs.YtfkianfddjccgaaDoorW.PrintLast Go.Proofs.YtfkianfddjccgaaDoorW.PrintMore
attribute [local go_sem] max2_int min2_int max_two min_two max_three min_three max_four min_four   -- for this text's walks alone
set_option linter.unusedVariables false
set_option linter.unusedSimpArgs false

/-! ### hallmarklaw02_UtfCases: function 7 -/
mutual
def hallmarklaw02_UtfCases.j0 : Nat → ByteArray → ByteArray → ByteArray → Bool → Option (Bool)
  | 0, _, _, _, _ => none
  | k + 1, x0, x3, x4, x36 => if x36 = true then (some false) else (hallmarklaw02_UtfCases.l0 k x0 x3 x4 0)
def hallmarklaw02_UtfCases.l0 : Nat → ByteArray → ByteArray → ByteArray → Int → Option (Bool)
  | 0, _, _, _, _ => none
  | k + 1, x0, x3, x4, x5 => if x5 < (x0.size : Int) then (if 0 ≤ x5 then (if (bt x0 x5) ≥ 97 then (if (bt x0 x5) ≤ 122 then (if x5 < (x3.size : Int) then (if x5 < (x4.size : Int) then (if (((bt x3 x5) != (bt x4 x5)) != true) = true then (some false) else (if (bt x3 x5) = (bt x0 x5) then (hallmarklaw02_UtfCases.l0 k x0 x3 x4 (wrap64 (x5 + 1))) else (if (bt x4 x5) = (bt x0 x5) then (hallmarklaw02_UtfCases.l0 k x0 x3 x4 (wrap64 (x5 + 1))) else (some false)))) else (none)) else (none)) else (if (bt x0 x5) ≥ 65 then (if x5 < (x3.size : Int) then (if x5 < (x4.size : Int) then (if (((bt x3 x5) != (bt x4 x5)) != (decide ((bt x0 x5) ≤ 90))) = true then (some false) else (if (bt x3 x5) = (bt x0 x5) then (hallmarklaw02_UtfCases.l0 k x0 x3 x4 (wrap64 (x5 + 1))) else (if (bt x4 x5) = (bt x0 x5) then (hallmarklaw02_UtfCases.l0 k x0 x3 x4 (wrap64 (x5 + 1))) else (some false)))) else (none)) else (none)) else (if x5 < (x3.size : Int) then (if x5 < (x4.size : Int) then (if (((bt x3 x5) != (bt x4 x5)) != false) = true then (some false) else (if (bt x3 x5) = (bt x0 x5) then (hallmarklaw02_UtfCases.l0 k x0 x3 x4 (wrap64 (x5 + 1))) else (if (bt x4 x5) = (bt x0 x5) then (hallmarklaw02_UtfCases.l0 k x0 x3 x4 (wrap64 (x5 + 1))) else (some false)))) else (none)) else (none)))) else (if (bt x0 x5) ≥ 65 then (if x5 < (x3.size : Int) then (if x5 < (x4.size : Int) then (if (((bt x3 x5) != (bt x4 x5)) != (decide ((bt x0 x5) ≤ 90))) = true then (some false) else (if (bt x3 x5) = (bt x0 x5) then (hallmarklaw02_UtfCases.l0 k x0 x3 x4 (wrap64 (x5 + 1))) else (if (bt x4 x5) = (bt x0 x5) then (hallmarklaw02_UtfCases.l0 k x0 x3 x4 (wrap64 (x5 + 1))) else (some false)))) else (none)) else (none)) else (if x5 < (x3.size : Int) then (if x5 < (x4.size : Int) then (if (((bt x3 x5) != (bt x4 x5)) != false) = true then (some false) else (if (bt x3 x5) = (bt x0 x5) then (hallmarklaw02_UtfCases.l0 k x0 x3 x4 (wrap64 (x5 + 1))) else (if (bt x4 x5) = (bt x0 x5) then (hallmarklaw02_UtfCases.l0 k x0 x3 x4 (wrap64 (x5 + 1))) else (some false)))) else (none)) else (none)))) else (none)) else (some true)
end
def hallmarklaw02_UtfCases.f (k : Nat) (a0 : ByteArray) : Option (Bool) := (hallmarklaw02_fixed.f k).bind fun t207 => (if t207 = true then ((utf_Lower.f a0).bind fun t208 => ((utf_Upper.f a0).bind fun t209 => (if (t208.size : Int) = (a0.size : Int) then (if (t209.size : Int) = (a0.size : Int) then ((utf_Lower.f t209).bind fun t210 => (if t210.toList = t208.toList then ((utf_Upper.f t208).bind fun t211 => (hallmarklaw02_UtfCases.j0 k a0 t208 t209 (t211.toList != t209.toList))) else (hallmarklaw02_UtfCases.j0 k a0 t208 t209 true))) else (hallmarklaw02_UtfCases.j0 k a0 t208 t209 true)) else (hallmarklaw02_UtfCases.j0 k a0 t208 t209 true)))) else (some false))
theorem hallmarklaw02_UtfCases.mono_l : ∀ k, (∀ y0 y1 y2 y3, LeO (hallmarklaw02_UtfCases.j0 k y0 y1 y2 y3) (hallmarklaw02_UtfCases.j0 (k + 1) y0 y1 y2 y3)) ∧ (∀ y0 y1 y2 y3, LeO (hallmarklaw02_UtfCases.l0 k y0 y1 y2 y3) (hallmarklaw02_UtfCases.l0 (k + 1) y0 y1 y2 y3))
  | 0 => ⟨fun _ _ _ _ r h => by simp [hallmarklaw02_UtfCases.j0] at h, fun _ _ _ _ r h => by simp [hallmarklaw02_UtfCases.l0] at h⟩
  | k + 1 => by
    obtain ⟨ih0, ih1⟩ := hallmarklaw02_UtfCases.mono_l k
    refine ⟨?_, ?_⟩
    · intro y0 y1 y2 y3
      unfold hallmarklaw02_UtfCases.j0
      repeat' first
      | (with_reducible exact ih0 _ _ _ _)
      | (with_reducible exact ih1 _ _ _ _)
      | (with_reducible exact hallmarklaw02_fixed.mono _)
      | (with_reducible exact LeO.refl _)
      | (with_reducible exact LeO.none _)
      | (with_reducible refine LeO.ite ?_ ?_)
      | (with_reducible refine LeO.bind ?_ (fun _ => ?_))
      | exact ih0 _ _ _ _
      | exact ih1 _ _ _ _
      | exact hallmarklaw02_fixed.mono _
      | exact LeO.none _
      | refine LeO.ite ?_ ?_
      | refine LeO.bind ?_ (fun _ => ?_)
    · intro y0 y1 y2 y3
      unfold hallmarklaw02_UtfCases.l0
      repeat' first
      | (with_reducible exact ih0 _ _ _ _)
      | (with_reducible exact ih1 _ _ _ _)
      | (with_reducible exact hallmarklaw02_fixed.mono _)
      | (with_reducible exact LeO.refl _)
      | (with_reducible exact LeO.none _)
      | (with_reducible refine LeO.ite ?_ ?_)
      | (with_reducible refine LeO.bind ?_ (fun _ => ?_))
      | exact ih0 _ _ _ _
      | exact ih1 _ _ _ _
      | exact hallmarklaw02_fixed.mono _
      | exact LeO.none _
      | refine LeO.ite ?_ ?_
      | refine LeO.bind ?_ (fun _ => ?_)
theorem hallmarklaw02_UtfCases.mono : ∀ a0 k, LeO (hallmarklaw02_UtfCases.f k a0) (hallmarklaw02_UtfCases.f (k + 1) a0) := by
  intro a0 k
  obtain ⟨ih0, ih1⟩ := hallmarklaw02_UtfCases.mono_l k
  unfold hallmarklaw02_UtfCases.f
  repeat' first
      | (with_reducible exact ih0 _ _ _ _)
      | (with_reducible exact ih1 _ _ _ _)
      | (with_reducible exact hallmarklaw02_fixed.mono _)
      | (with_reducible exact LeO.refl _)
      | (with_reducible exact LeO.none _)
      | (with_reducible refine LeO.ite ?_ ?_)
      | (with_reducible refine LeO.bind ?_ (fun _ => ?_))
      | exact ih0 _ _ _ _
      | exact ih1 _ _ _ _
      | exact hallmarklaw02_fixed.mono _
      | exact LeO.none _
      | refine LeO.ite ?_ ?_
      | refine LeO.bind ?_ (fun _ => ?_)
set_option maxHeartbeats 8000000 in
set_option maxRecDepth 100000 in
theorem hallmarklaw02_UtfCases.calls (k : Nat) (a0 : ByteArray) (r : Bool) (w : World) (hT : Tabs w) (h : hallmarklaw02_UtfCases.f k a0 = some r) :
    Calls Tryd.prog 7 #[.string a0] w fun e w' => e = .returned (.bool r) ∧ Below w.heap.size w w' := by
  have HB := Aside0.mk (Below.refl w.heap.size w)
  have HTab_ := Aside0.mk hT
  clear hT
  have H : ((hallmarklaw02_fixed.f k).bind fun t207 => (if t207 = true then ((utf_Lower.f a0).bind fun t208 => ((utf_Upper.f a0).bind fun t209 => (if (t208.size : Int) = (a0.size : Int) then (if (t209.size : Int) = (a0.size : Int) then ((utf_Lower.f t209).bind fun t210 => (if t210.toList = t208.toList then ((utf_Upper.f t208).bind fun t211 => (hallmarklaw02_UtfCases.j0 k a0 t208 t209 (t211.toList != t209.toList))) else (hallmarklaw02_UtfCases.j0 k a0 t208 t209 true))) else (hallmarklaw02_UtfCases.j0 k a0 t208 t209 true)) else (hallmarklaw02_UtfCases.j0 k a0 t208 t209 true)))) else (some false))) = some r := h
  clear h
  replace H := Option.bind_eq_some_iff.mp H
  obtain ⟨t207, A20, H⟩ := H
  replace H : (if t207 = true then ((utf_Lower.f a0).bind fun t208 => ((utf_Upper.f a0).bind fun t209 => (if (t208.size : Int) = (a0.size : Int) then (if (t209.size : Int) = (a0.size : Int) then ((utf_Lower.f t209).bind fun t210 => (if t210.toList = t208.toList then ((utf_Upper.f t208).bind fun t211 => (hallmarklaw02_UtfCases.j0 k a0 t208 t209 (t211.toList != t209.toList))) else (hallmarklaw02_UtfCases.j0 k a0 t208 t209 true))) else (hallmarklaw02_UtfCases.j0 k a0 t208 t209 true)) else (hallmarklaw02_UtfCases.j0 k a0 t208 t209 true)))) else (some false)) = some r := H
  have A2 := Aside0.mk A20
  clear A20
  by_cases c3 : t207 = true
  · subst c3
    have H1 : ((utf_Lower.f a0).bind fun t208 => ((utf_Upper.f a0).bind fun t209 => (if (t208.size : Int) = (a0.size : Int) then (if (t209.size : Int) = (a0.size : Int) then ((utf_Lower.f t209).bind fun t210 => (if t210.toList = t208.toList then ((utf_Upper.f t208).bind fun t211 => (hallmarklaw02_UtfCases.j0 k a0 t208 t209 (t211.toList != t209.toList))) else (hallmarklaw02_UtfCases.j0 k a0 t208 t209 true))) else (hallmarklaw02_UtfCases.j0 k a0 t208 t209 true)) else (hallmarklaw02_UtfCases.j0 k a0 t208 t209 true)))) = some r := by rw [if_pos rfl] at H; exact H
    clear H
    have H := H1
    clear H1
    replace H := Option.bind_eq_some_iff.mp H
    obtain ⟨t208, A40, H⟩ := H
    replace H : ((utf_Upper.f a0).bind fun t209 => (if (t208.size : Int) = (a0.size : Int) then (if (t209.size : Int) = (a0.size : Int) then ((utf_Lower.f t209).bind fun t210 => (if t210.toList = t208.toList then ((utf_Upper.f t208).bind fun t211 => (hallmarklaw02_UtfCases.j0 k a0 t208 t209 (t211.toList != t209.toList))) else (hallmarklaw02_UtfCases.j0 k a0 t208 t209 true))) else (hallmarklaw02_UtfCases.j0 k a0 t208 t209 true)) else (hallmarklaw02_UtfCases.j0 k a0 t208 t209 true))) = some r := H
    have A4 := Aside0.mk A40
    clear A40
    replace H := Option.bind_eq_some_iff.mp H
    obtain ⟨t209, A50, H⟩ := H
    replace H : (if (t208.size : Int) = (a0.size : Int) then (if (t209.size : Int) = (a0.size : Int) then ((utf_Lower.f t209).bind fun t210 => (if t210.toList = t208.toList then ((utf_Upper.f t208).bind fun t211 => (hallmarklaw02_UtfCases.j0 k a0 t208 t209 (t211.toList != t209.toList))) else (hallmarklaw02_UtfCases.j0 k a0 t208 t209 true))) else (hallmarklaw02_UtfCases.j0 k a0 t208 t209 true)) else (hallmarklaw02_UtfCases.j0 k a0 t208 t209 true)) = some r := H
    have A5 := Aside0.mk A50
    clear A50
    have HC6 := Aside0.mk H
    clear H
    go_enter Tryd.func7, Tryd.ntmps7
    go_upto_region 5 with (first | (go_at_call 17; (with_reducible refine (hallmarklaw02_fixed.calls k  true _ ?side1 A2.out).mono ?_); (case side1 => exact Tabs.below HTab_.out (by repeat (first | (with_reducible first | exact HB.out | apply below_alloc | apply pw_below_drewN | apply below_drew1) | exact HB.out))); rintro e w7 ⟨rfl, hb⟩; have n0_ := Aside0.mk (below_step (by repeat (first | (with_reducible first | exact HB.out | apply below_alloc | apply pw_below_drewN | apply below_drew1) | exact HB.out)) hb); clear HB; have HB := n0_; clear n0_; (try clear hb); (try clear hb2); (try clear hk); (try clear hi)) | (go_at_call 29; (with_reducible refine (utf_Lower.calls a0 t208 _ A4.out).mono ?_); rintro e w8 ⟨rfl, hb⟩; have n0_ := Aside0.mk (below_step (by repeat (first | (with_reducible first | exact HB.out | apply below_alloc | apply pw_below_drewN | apply below_drew1) | exact HB.out)) hb); clear HB; have HB := n0_; clear n0_; (try clear hb); (try clear hb2); (try clear hk); (try clear hi)) | (go_at_call 30; (with_reducible refine (utf_Upper.calls a0 t209 _ A5.out).mono ?_); rintro e w9 ⟨rfl, hb⟩; have n0_ := Aside0.mk (below_step (by repeat (first | (with_reducible first | exact HB.out | apply below_alloc | apply pw_below_drewN | apply below_drew1) | exact HB.out)) hb); clear HB; have HB := n0_; clear n0_; (try clear hb); (try clear hb2); (try clear hk); (try clear hi)))
    repeat (go_quiet (first | (go_at_call 17; (with_reducible refine (hallmarklaw02_fixed.calls k  true _ ?side1 A2.out).mono ?_); (case side1 => exact Tabs.below HTab_.out (by repeat (first | (with_reducible first | exact HB.out | apply below_alloc | apply pw_below_drewN | apply below_drew1) | exact HB.out))); rintro e w7 ⟨rfl, hb⟩; have n0_ := Aside0.mk (below_step (by repeat (first | (with_reducible first | exact HB.out | apply below_alloc | apply pw_below_drewN | apply below_drew1) | exact HB.out)) hb); clear HB; have HB := n0_; clear n0_; (try clear hb); (try clear hb2); (try clear hk); (try clear hi)) | (go_at_call 29; (with_reducible refine (utf_Lower.calls a0 t208 _ A4.out).mono ?_); rintro e w8 ⟨rfl, hb⟩; have n0_ := Aside0.mk (below_step (by repeat (first | (with_reducible first | exact HB.out | apply below_alloc | apply pw_below_drewN | apply below_drew1) | exact HB.out)) hb); clear HB; have HB := n0_; clear n0_; (try clear hb); (try clear hb2); (try clear hk); (try clear hi)) | (go_at_call 30; (with_reducible refine (utf_Upper.calls a0 t209 _ A5.out).mono ?_); rintro e w9 ⟨rfl, hb⟩; have n0_ := Aside0.mk (below_step (by repeat (first | (with_reducible first | exact HB.out | apply below_alloc | apply pw_below_drewN | apply below_drew1) | exact HB.out)) hb); clear HB; have HB := n0_; clear n0_; (try clear hb); (try clear hb2); (try clear hk); (try clear hi))); go_upto_region 5 with (first | (go_at_call 17; (with_reducible refine (hallmarklaw02_fixed.calls k  true _ ?side1 A2.out).mono ?_); (case side1 => exact Tabs.below HTab_.out (by repeat (first | (with_reducible first | exact HB.out | apply below_alloc | apply pw_below_drewN | apply below_drew1) | exact HB.out))); rintro e w7 ⟨rfl, hb⟩; have n0_ := Aside0.mk (below_step (by repeat (first | (with_reducible first | exact HB.out | apply below_alloc | apply pw_below_drewN | apply below_drew1) | exact HB.out)) hb); clear HB; have HB := n0_; clear n0_; (try clear hb); (try clear hb2); (try clear hk); (try clear hi)) | (go_at_call 29; (with_reducible refine (utf_Lower.calls a0 t208 _ A4.out).mono ?_); rintro e w8 ⟨rfl, hb⟩; have n0_ := Aside0.mk (below_step (by repeat (first | (with_reducible first | exact HB.out | apply below_alloc | apply pw_below_drewN | apply below_drew1) | exact HB.out)) hb); clear HB; have HB := n0_; clear n0_; (try clear hb); (try clear hb2); (try clear hk); (try clear hi)) | (go_at_call 30; (with_reducible refine (utf_Upper.calls a0 t209 _ A5.out).mono ?_); rintro e w9 ⟨rfl, hb⟩; have n0_ := Aside0.mk (below_step (by repeat (first | (with_reducible first | exact HB.out | apply below_alloc | apply pw_below_drewN | apply below_drew1) | exact HB.out)) hb); clear HB; have HB := n0_; clear n0_; (try clear hb); (try clear hb2); (try clear hk); (try clear hi))))
    (try simp only [Act.put, List.setIfInBounds_toArray, List.set_cons_zero, List.set_cons_succ])
    go_cut [36] (fun v36 wc => ∃ (kq : Nat) (x36_5 : Bool), v36 = .bool x36_5 ∧ Aside0 (hallmarklaw02_UtfCases.j0 kq a0 t208 t209 x36_5 = some r) ∧ Aside0 (kq ≤ k) ∧ Aside0 (Below w.heap.size w wc))
    case first =>
      have H := HC6.out
      clear HC6
      by_cases c10 : (t208.size : Int) = (a0.size : Int)
      · rw [if_pos c10] at H
        have c10b0 : ((t208.size : Int) == (a0.size : Int)) = true := beq_iff_eq.mpr c10
        have c10b1 : ((t208.size : Int) != (a0.size : Int)) = false := bne_eq_false_iff_eq.mpr c10
        have c10b2 : (t208.size == a0.size) = true := by first | simpa using c10 | (simp at c10 ⊢; omega)
        clear c10
        (first | rw [c10b0] | (simp only [i64_w, i32_w]; rw [c10b0]) | skip)
        by_cases c11 : (t209.size : Int) = (a0.size : Int)
        · rw [if_pos c11] at H
          have c11b0 : ((t209.size : Int) == (a0.size : Int)) = true := beq_iff_eq.mpr c11
          have c11b1 : ((t209.size : Int) != (a0.size : Int)) = false := bne_eq_false_iff_eq.mpr c11
          have c11b2 : (t209.size == a0.size) = true := by first | simpa using c11 | (simp at c11 ⊢; omega)
          clear c11
          replace H := Option.bind_eq_some_iff.mp H
          obtain ⟨t210, A120, H⟩ := H
          replace H : (if t210.toList = t208.toList then ((utf_Upper.f t208).bind fun t211 => (hallmarklaw02_UtfCases.j0 k a0 t208 t209 (t211.toList != t209.toList))) else (hallmarklaw02_UtfCases.j0 k a0 t208 t209 true)) = some r := H
          have A12 := Aside0.mk A120
          clear A120
          by_cases c13 : t210.toList = t208.toList
          · rw [if_pos c13] at H
            have c13b0 : (t210.toList == t208.toList) = true := beq_iff_eq.mpr c13
            have c13b1 : (t210.toList != t208.toList) = false := bne_eq_false_iff_eq.mpr c13
            clear c13
            replace H := Option.bind_eq_some_iff.mp H
            obtain ⟨t211, A140, H⟩ := H
            replace H : (hallmarklaw02_UtfCases.j0 k a0 t208 t209 (t211.toList != t209.toList)) = some r := H
            have A14 := Aside0.mk A140
            clear A140
            have H' := Aside0.mk H
            clear H
            go_wp2_with (first | (go_at_call 29; (with_reducible refine (utf_Lower.calls t209 t210 _ A12.out).mono ?_); rintro e w15 ⟨rfl, hb⟩; have n0_ := Aside0.mk (below_step (by repeat (first | (with_reducible first | exact HB.out | apply below_alloc | apply pw_below_drewN | apply below_drew1) | exact HB.out)) hb); clear HB; have HB := n0_; clear n0_; (try clear hb); (try clear hb2); (try clear hk); (try clear hi)) | (go_at_call 30; (with_reducible refine (utf_Upper.calls t208 t211 _ A14.out).mono ?_); rintro e w16 ⟨rfl, hb⟩; have n0_ := Aside0.mk (below_step (by repeat (first | (with_reducible first | exact HB.out | apply below_alloc | apply pw_below_drewN | apply below_drew1) | exact HB.out)) hb); clear HB; have HB := n0_; clear n0_; (try clear hb); (try clear hb2); (try clear hk); (try clear hi)))
            repeat (go_quiet (first | (go_at_call 29; (with_reducible refine (utf_Lower.calls t209 t210 _ A12.out).mono ?_); rintro e w15 ⟨rfl, hb⟩; have n0_ := Aside0.mk (below_step (by repeat (first | (with_reducible first | exact HB.out | apply below_alloc | apply pw_below_drewN | apply below_drew1) | exact HB.out)) hb); clear HB; have HB := n0_; clear n0_; (try clear hb); (try clear hb2); (try clear hk); (try clear hi)) | (go_at_call 30; (with_reducible refine (utf_Upper.calls t208 t211 _ A14.out).mono ?_); rintro e w16 ⟨rfl, hb⟩; have n0_ := Aside0.mk (below_step (by repeat (first | (with_reducible first | exact HB.out | apply below_alloc | apply pw_below_drewN | apply below_drew1) | exact HB.out)) hb); clear HB; have HB := n0_; clear n0_; (try clear hb); (try clear hb2); (try clear hk); (try clear hi))); try go_wp2_with (first | (go_at_call 29; (with_reducible refine (utf_Lower.calls t209 t210 _ A12.out).mono ?_); rintro e w15 ⟨rfl, hb⟩; have n0_ := Aside0.mk (below_step (by repeat (first | (with_reducible first | exact HB.out | apply below_alloc | apply pw_below_drewN | apply below_drew1) | exact HB.out)) hb); clear HB; have HB := n0_; clear n0_; (try clear hb); (try clear hb2); (try clear hk); (try clear hi)) | (go_at_call 30; (with_reducible refine (utf_Upper.calls t208 t211 _ A14.out).mono ?_); rintro e w16 ⟨rfl, hb⟩; have n0_ := Aside0.mk (below_step (by repeat (first | (with_reducible first | exact HB.out | apply below_alloc | apply pw_below_drewN | apply below_drew1) | exact HB.out)) hb); clear HB; have HB := n0_; clear n0_; (try clear hb); (try clear hb2); (try clear hk); (try clear hi))))
            go_meet
            case rel => exact ⟨_, ((t211.toList != t209.toList)), (by first | rfl | (simp; done) | (simp [*]; done)), H', ⟨by first | omega | exact Nat.le_refl _⟩, ⟨by repeat (first | (with_reducible first | exact HB.out | apply below_alloc | apply pw_below_drewN | apply below_drew1) | exact HB.out)⟩⟩
          · rw [if_neg c13] at H
            have c13b0 : (t210.toList == t208.toList) = false := beq_eq_false_iff_ne.mpr c13
            have c13b1 : (t210.toList != t208.toList) = true := bne_iff_ne.mpr c13
            have H' := Aside0.mk H
            clear H
            go_wp2_with (first | (go_at_call 29; (with_reducible refine (utf_Lower.calls t209 t210 _ A12.out).mono ?_); rintro e w17 ⟨rfl, hb⟩; have n0_ := Aside0.mk (below_step (by repeat (first | (with_reducible first | exact HB.out | apply below_alloc | apply pw_below_drewN | apply below_drew1) | exact HB.out)) hb); clear HB; have HB := n0_; clear n0_; (try clear hb); (try clear hb2); (try clear hk); (try clear hi)))
            repeat (go_quiet (first | (go_at_call 29; (with_reducible refine (utf_Lower.calls t209 t210 _ A12.out).mono ?_); rintro e w17 ⟨rfl, hb⟩; have n0_ := Aside0.mk (below_step (by repeat (first | (with_reducible first | exact HB.out | apply below_alloc | apply pw_below_drewN | apply below_drew1) | exact HB.out)) hb); clear HB; have HB := n0_; clear n0_; (try clear hb); (try clear hb2); (try clear hk); (try clear hi))); try go_wp2_with (first | (go_at_call 29; (with_reducible refine (utf_Lower.calls t209 t210 _ A12.out).mono ?_); rintro e w17 ⟨rfl, hb⟩; have n0_ := Aside0.mk (below_step (by repeat (first | (with_reducible first | exact HB.out | apply below_alloc | apply pw_below_drewN | apply below_drew1) | exact HB.out)) hb); clear HB; have HB := n0_; clear n0_; (try clear hb); (try clear hb2); (try clear hk); (try clear hi))))
            go_meet
            case rel => exact ⟨_, (true), (by first | rfl | (simp; done) | (simp [*]; done)), H', ⟨by first | omega | exact Nat.le_refl _⟩, ⟨by repeat (first | (with_reducible first | exact HB.out | apply below_alloc | apply pw_below_drewN | apply below_drew1) | exact HB.out)⟩⟩
        · rw [if_neg c11] at H
          have c11b0 : ((t209.size : Int) == (a0.size : Int)) = false := beq_eq_false_iff_ne.mpr c11
          have c11b1 : ((t209.size : Int) != (a0.size : Int)) = true := bne_iff_ne.mpr c11
          have c11b2 : (t209.size == a0.size) = false := by first | simpa using c11 | (simp at c11 ⊢; omega)
          have H' := Aside0.mk H
          clear H
          go_wp2
          repeat (go_quiet (fail); try go_wp2)
          go_meet
          case rel => exact ⟨_, (true), (by first | rfl | (simp; done) | (simp [*]; done)), H', ⟨by first | omega | exact Nat.le_refl _⟩, ⟨by repeat (first | (with_reducible first | exact HB.out | apply below_alloc | apply pw_below_drewN | apply below_drew1) | exact HB.out)⟩⟩
      · rw [if_neg c10] at H
        have c10b0 : ((t208.size : Int) == (a0.size : Int)) = false := beq_eq_false_iff_ne.mpr c10
        have c10b1 : ((t208.size : Int) != (a0.size : Int)) = true := bne_iff_ne.mpr c10
        have c10b2 : (t208.size == a0.size) = false := by first | simpa using c10 | (simp at c10 ⊢; omega)
        (first | rw [c10b0] | (simp only [i64_w, i32_w]; rw [c10b0]) | skip)
        have H' := Aside0.mk H
        clear H
        go_wp2
        repeat (go_quiet (fail); try go_wp2)
        go_meet
        case rel => exact ⟨_, (true), (by first | rfl | (simp; done) | (simp [*]; done)), H', ⟨by first | omega | exact Nat.le_refl _⟩, ⟨by repeat (first | (with_reducible first | exact HB.out | apply below_alloc | apply pw_below_drewN | apply below_drew1) | exact HB.out)⟩⟩
    case rest =>
      clear HC6
      try clear c1
      try clear p2
      try clear c3
      try clear c7
      try clear c10
      try clear c10b0
      try clear c10b1
      try clear c10b2
      try clear c11
      try clear c11b0
      try clear c11b1
      try clear c11b2
      try clear c13
      try clear c13b0
      try clear c13b1
      obtain ⟨kq, x36_5, rfl, HA, HJ5, HB⟩ := hcut
      cases kq with
      | zero => exact absurd HA.out (by simp [hallmarklaw02_UtfCases.j0])
      | succ kj5 =>
        have H := HA.out
        clear HA
        simp only [hallmarklaw02_UtfCases.j0] at H
        by_cases c18 : x36_5 = true
        · subst c18
          have H1 : (some false) = some r := by rw [if_pos rfl] at H; exact H
          clear H
          have H := H1
          clear H1
          obtain rfl := Option.some.inj H
          go_wp2
          repeat (go_quiet (fail); try go_wp2)
          go_ret
          exact ⟨by first | rfl | (simp [errW_none, errW_some] <;> rfl) | (simp [*, errW_none, errW_some] <;> rfl), by repeat (first | (with_reducible first | exact HB.out | apply below_alloc | apply pw_below_drewN | apply below_drew1) | exact HB.out)⟩
        · replace c18 := Bool.eq_false_iff.mpr c18
          subst c18
          have H1 : (hallmarklaw02_UtfCases.l0 kj5 a0 t208 t209 0) = some r := by rw [if_neg (show ¬ (false = true) by decide)] at H; exact H
          clear H
          have H := H1
          clear H1
          have H' := Aside0.mk H
          clear H
          go_wp2
          repeat (go_quiet (fail); try go_wp2)
          go_loopg [5] kj5 (fun kq v5 w' => ∃ (x5_2 : Int), v5 = .int .i64 x5_2 ∧ Aside0 (hallmarklaw02_UtfCases.l0 kq a0 t208 t209 x5_2 = some r) ∧ Aside0 (kq ≤ kj5) ∧ Aside0 (Below w.heap.size w w'))
          case atStart => exact ⟨(0), (by first | rfl | (simp; done) | (simp [*]; done)), H', ⟨Nat.le_refl _⟩, ⟨by repeat (first | (with_reducible first | exact HB.out | apply below_alloc | apply pw_below_drewN | apply below_drew1) | exact HB.out)⟩⟩
          case round =>
            clear H'
            try clear c1
            try clear p2
            try clear c3
            try clear c7
            try clear c10
            try clear c10b0
            try clear c10b1
            try clear c10b2
            try clear c11
            try clear c11b0
            try clear c11b1
            try clear c11b2
            try clear c13
            try clear c13b0
            try clear c13b1
            try clear c18
            try clear p2
            obtain ⟨x5_2, rfl, HA, HK2, HB⟩ := hrel
            cases gk with
            | zero => exact absurd HA.out (by simp [hallmarklaw02_UtfCases.l0])
            | succ k2 =>
              have H := HA.out
              clear HA
              simp only [hallmarklaw02_UtfCases.l0] at H
              by_cases c19 : x5_2 < (a0.size : Int)
              · rw [if_pos c19] at H
                have c19b0 : decide (x5_2 < (a0.size : Int)) = true := decide_eq_true c19
                clear c19
                by_cases c20 : 0 ≤ x5_2
                · rw [if_pos c20] at H
                  have c20b0 : decide (0 ≤ x5_2) = true := decide_eq_true c20
                  clear c20
                  by_cases c22 : (bt a0 x5_2) ≥ 97
                  · rw [if_pos c22] at H
                    have c22b0 : decide (97 ≤ (bt a0 x5_2)) = true := decide_eq_true c22
                    clear c22
                    by_cases c24 : (bt a0 x5_2) ≤ 122
                    · rw [if_pos c24] at H
                      have c24b0 : decide ((bt a0 x5_2) ≤ 122) = true := decide_eq_true c24
                      clear c24
                      by_cases c25 : x5_2 < (t208.size : Int)
                      · rw [if_pos c25] at H
                        have c25b0 : decide (x5_2 < (t208.size : Int)) = true := decide_eq_true c25
                        clear c25
                        by_cases c27 : x5_2 < (t209.size : Int)
                        · rw [if_pos c27] at H
                          have c27b0 : decide (x5_2 < (t209.size : Int)) = true := decide_eq_true c27
                          clear c27
                          by_cases c29 : (((bt t208 x5_2) != (bt t209 x5_2)) != true) = true
                          · rw [if_pos c29] at H
                            have c29b0 : (((bt t208 x5_2) != (bt t209 x5_2)) != true) = true := c29
                            (try (have c29b1 : decide (((bt t208 x5_2) != (bt t209 x5_2)) = true) = false := by simpa using c29))
                            (try (have c29b2 : (((bt t208 x5_2) != (bt t209 x5_2)) == true) = false := by simpa using c29))
                            (try (have c29b3 : ¬ (((bt t208 x5_2) != (bt t209 x5_2)) = true) := by simpa using c29))
                            clear c29
                            obtain rfl := Option.some.inj H
                            have p21 : 0 ≤ (x5_2 : Int) := of_decide_eq_true (by first | (with_reducible assumption) | assumption)
                            have q21 : x5_2 < (a0.size : Int) := of_decide_eq_true (by first | (with_reducible assumption) | assumption)
                            have hx21 := bt_at a0 x5_2
                            replace p21 := eq_true p21
                            replace q21 := eq_true q21
                            have p23 : 0 ≤ (x5_2 : Int) := of_decide_eq_true (by first | (with_reducible assumption) | assumption)
                            have q23 : x5_2 < (a0.size : Int) := of_decide_eq_true (by first | (with_reducible assumption) | assumption)
                            have hx23 := bt_at a0 x5_2
                            replace p23 := eq_true p23
                            replace q23 := eq_true q23
                            have p26 : 0 ≤ (x5_2 : Int) := of_decide_eq_true (by first | (with_reducible assumption) | assumption)
                            have q26 : x5_2 < (t208.size : Int) := of_decide_eq_true (by first | (with_reducible assumption) | assumption)
                            have hx26 := bt_at t208 x5_2
                            replace p26 := eq_true p26
                            replace q26 := eq_true q26
                            have p28 : 0 ≤ (x5_2 : Int) := of_decide_eq_true (by first | (with_reducible assumption) | assumption)
                            have q28 : x5_2 < (t209.size : Int) := of_decide_eq_true (by first | (with_reducible assumption) | assumption)
                            have hx28 := bt_at t209 x5_2
                            replace p28 := eq_true p28
                            replace q28 := eq_true q28
                            go_wp2
                            repeat (go_quiet (fail); try go_wp2)
                            go_ret
                            exact ⟨by first | rfl | (simp [errW_none, errW_some] <;> rfl) | (simp [*, errW_none, errW_some] <;> rfl), by repeat (first | (with_reducible first | exact HB.out | apply below_alloc | apply pw_below_drewN | apply below_drew1) | exact HB.out)⟩
                          · rw [if_neg c29] at H
                            have c29b0 : (((bt t208 x5_2) != (bt t209 x5_2)) != true) = false := by simpa using c29
                            (try (have c29b1 : decide (((bt t208 x5_2) != (bt t209 x5_2)) = true) = true := by simpa using c29))
                            (try (have c29b2 : (((bt t208 x5_2) != (bt t209 x5_2)) == true) = true := by simpa using c29))
                            clear c29
                            by_cases c32 : (bt t208 x5_2) = (bt a0 x5_2)
                            · rw [if_pos c32] at H
                              have c32b0 : ((bt t208 x5_2) == (bt a0 x5_2)) = true := beq_iff_eq.mpr c32
                              have c32b1 : ((bt t208 x5_2) != (bt a0 x5_2)) = false := bne_eq_false_iff_eq.mpr c32
                              clear c32
                              have H' := Aside0.mk H
                              clear H
                              have p21 : 0 ≤ (x5_2 : Int) := of_decide_eq_true (by first | (with_reducible assumption) | assumption)
                              have q21 : x5_2 < (a0.size : Int) := of_decide_eq_true (by first | (with_reducible assumption) | assumption)
                              have hx21 := bt_at a0 x5_2
                              replace p21 := eq_true p21
                              replace q21 := eq_true q21
                              have p23 : 0 ≤ (x5_2 : Int) := of_decide_eq_true (by first | (with_reducible assumption) | assumption)
                              have q23 : x5_2 < (a0.size : Int) := of_decide_eq_true (by first | (with_reducible assumption) | assumption)
                              have hx23 := bt_at a0 x5_2
                              replace p23 := eq_true p23
                              replace q23 := eq_true q23
                              have p26 : 0 ≤ (x5_2 : Int) := of_decide_eq_true (by first | (with_reducible assumption) | assumption)
                              have q26 : x5_2 < (t208.size : Int) := of_decide_eq_true (by first | (with_reducible assumption) | assumption)
                              have hx26 := bt_at t208 x5_2
                              replace p26 := eq_true p26
                              replace q26 := eq_true q26
                              have p28 : 0 ≤ (x5_2 : Int) := of_decide_eq_true (by first | (with_reducible assumption) | assumption)
                              have q28 : x5_2 < (t209.size : Int) := of_decide_eq_true (by first | (with_reducible assumption) | assumption)
                              have hx28 := bt_at t209 x5_2
                              replace p28 := eq_true p28
                              replace q28 := eq_true q28
                              have p30 : 0 ≤ (x5_2 : Int) := of_decide_eq_true (by first | (with_reducible assumption) | assumption)
                              have q30 : x5_2 < (t208.size : Int) := of_decide_eq_true (by first | (with_reducible assumption) | assumption)
                              have hx30 := bt_at t208 x5_2
                              replace p30 := eq_true p30
                              replace q30 := eq_true q30
                              have p31 : 0 ≤ (x5_2 : Int) := of_decide_eq_true (by first | (with_reducible assumption) | assumption)
                              have q31 : x5_2 < (a0.size : Int) := of_decide_eq_true (by first | (with_reducible assumption) | assumption)
                              have hx31 := bt_at a0 x5_2
                              replace p31 := eq_true p31
                              replace q31 := eq_true q31
                              go_wp2
                              repeat (go_quiet (fail); try go_wp2)
                              go_roundg k2
                              case measure => have := HJ5.out; have := HK2.out; omega
                              case rel => exact ⟨(wrap64 (x5_2 + 1)), (by first | rfl | (simp; done) | (simp [*]; done)), H', ⟨by have := HJ5.out; have := HK2.out; omega⟩, ⟨by repeat (first | (with_reducible first | exact HB.out | apply below_alloc | apply pw_below_drewN | apply below_drew1) | exact HB.out)⟩⟩
                            · rw [if_neg c32] at H
                              have c32b0 : ((bt t208 x5_2) == (bt a0 x5_2)) = false := beq_eq_false_iff_ne.mpr c32
                              have c32b1 : ((bt t208 x5_2) != (bt a0 x5_2)) = true := bne_iff_ne.mpr c32
                              by_cases c35 : (bt t209 x5_2) = (bt a0 x5_2)
                              · rw [if_pos c35] at H
                                have c35b0 : ((bt t209 x5_2) == (bt a0 x5_2)) = true := beq_iff_eq.mpr c35
                                have c35b1 : ((bt t209 x5_2) != (bt a0 x5_2)) = false := bne_eq_false_iff_eq.mpr c35
                                clear c35
                                have H' := Aside0.mk H
                                clear H
                                have p21 : 0 ≤ (x5_2 : Int) := of_decide_eq_true (by first | (with_reducible assumption) | assumption)
                                have q21 : x5_2 < (a0.size : Int) := of_decide_eq_true (by first | (with_reducible assumption) | assumption)
                                have hx21 := bt_at a0 x5_2
                                replace p21 := eq_true p21
                                replace q21 := eq_true q21
                                have p23 : 0 ≤ (x5_2 : Int) := of_decide_eq_true (by first | (with_reducible assumption) | assumption)
                                have q23 : x5_2 < (a0.size : Int) := of_decide_eq_true (by first | (with_reducible assumption) | assumption)
                                have hx23 := bt_at a0 x5_2
                                replace p23 := eq_true p23
                                replace q23 := eq_true q23
                                have p26 : 0 ≤ (x5_2 : Int) := of_decide_eq_true (by first | (with_reducible assumption) | assumption)
                                have q26 : x5_2 < (t208.size : Int) := of_decide_eq_true (by first | (with_reducible assumption) | assumption)
                                have hx26 := bt_at t208 x5_2
                                replace p26 := eq_true p26
                                replace q26 := eq_true q26
                                have p28 : 0 ≤ (x5_2 : Int) := of_decide_eq_true (by first | (with_reducible assumption) | assumption)
                                have q28 : x5_2 < (t209.size : Int) := of_decide_eq_true (by first | (with_reducible assumption) | assumption)
                                have hx28 := bt_at t209 x5_2
                                replace p28 := eq_true p28
                                replace q28 := eq_true q28
                                have p30 : 0 ≤ (x5_2 : Int) := of_decide_eq_true (by first | (with_reducible assumption) | assumption)
                                have q30 : x5_2 < (t208.size : Int) := of_decide_eq_true (by first | (with_reducible assumption) | assumption)
                                have hx30 := bt_at t208 x5_2
                                replace p30 := eq_true p30
                                replace q30 := eq_true q30
                                have p31 : 0 ≤ (x5_2 : Int) := of_decide_eq_true (by first | (with_reducible assumption) | assumption)
                                have q31 : x5_2 < (a0.size : Int) := of_decide_eq_true (by first | (with_reducible assumption) | assumption)
                                have hx31 := bt_at a0 x5_2
                                replace p31 := eq_true p31
                                replace q31 := eq_true q31
                                have p33 : 0 ≤ (x5_2 : Int) := of_decide_eq_true (by first | (with_reducible assumption) | assumption)
                                have q33 : x5_2 < (t209.size : Int) := of_decide_eq_true (by first | (with_reducible assumption) | assumption)
                                have hx33 := bt_at t209 x5_2
                                replace p33 := eq_true p33
                                replace q33 := eq_true q33
                                have p34 : 0 ≤ (x5_2 : Int) := of_decide_eq_true (by first | (with_reducible assumption) | assumption)
                                have q34 : x5_2 < (a0.size : Int) := of_decide_eq_true (by first | (with_reducible assumption) | assumption)
                                have hx34 := bt_at a0 x5_2
                                replace p34 := eq_true p34
                                replace q34 := eq_true q34
                                go_wp2
                                repeat (go_quiet (fail); try go_wp2)
                                go_roundg k2
                                case measure => have := HJ5.out; have := HK2.out; omega
                                case rel => exact ⟨(wrap64 (x5_2 + 1)), (by first | rfl | (simp; done) | (simp [*]; done)), H', ⟨by have := HJ5.out; have := HK2.out; omega⟩, ⟨by repeat (first | (with_reducible first | exact HB.out | apply below_alloc | apply pw_below_drewN | apply below_drew1) | exact HB.out)⟩⟩
                              · rw [if_neg c35] at H
                                have c35b0 : ((bt t209 x5_2) == (bt a0 x5_2)) = false := beq_eq_false_iff_ne.mpr c35
                                have c35b1 : ((bt t209 x5_2) != (bt a0 x5_2)) = true := bne_iff_ne.mpr c35
                                obtain rfl := Option.some.inj H
                                have p21 : 0 ≤ (x5_2 : Int) := of_decide_eq_true (by first | (with_reducible assumption) | assumption)
                                have q21 : x5_2 < (a0.size : Int) := of_decide_eq_true (by first | (with_reducible assumption) | assumption)
                                have hx21 := bt_at a0 x5_2
                                replace p21 := eq_true p21
                                replace q21 := eq_true q21
                                have p23 : 0 ≤ (x5_2 : Int) := of_decide_eq_true (by first | (with_reducible assumption) | assumption)
                                have q23 : x5_2 < (a0.size : Int) := of_decide_eq_true (by first | (with_reducible assumption) | assumption)
                                have hx23 := bt_at a0 x5_2
                                replace p23 := eq_true p23
                                replace q23 := eq_true q23
                                have p26 : 0 ≤ (x5_2 : Int) := of_decide_eq_true (by first | (with_reducible assumption) | assumption)
                                have q26 : x5_2 < (t208.size : Int) := of_decide_eq_true (by first | (with_reducible assumption) | assumption)
                                have hx26 := bt_at t208 x5_2
                                replace p26 := eq_true p26
                                replace q26 := eq_true q26
                                have p28 : 0 ≤ (x5_2 : Int) := of_decide_eq_true (by first | (with_reducible assumption) | assumption)
                                have q28 : x5_2 < (t209.size : Int) := of_decide_eq_true (by first | (with_reducible assumption) | assumption)
                                have hx28 := bt_at t209 x5_2
                                replace p28 := eq_true p28
                                replace q28 := eq_true q28
                                have p30 : 0 ≤ (x5_2 : Int) := of_decide_eq_true (by first | (with_reducible assumption) | assumption)
                                have q30 : x5_2 < (t208.size : Int) := of_decide_eq_true (by first | (with_reducible assumption) | assumption)
                                have hx30 := bt_at t208 x5_2
                                replace p30 := eq_true p30
                                replace q30 := eq_true q30
                                have p31 : 0 ≤ (x5_2 : Int) := of_decide_eq_true (by first | (with_reducible assumption) | assumption)
                                have q31 : x5_2 < (a0.size : Int) := of_decide_eq_true (by first | (with_reducible assumption) | assumption)
                                have hx31 := bt_at a0 x5_2
                                replace p31 := eq_true p31
                                replace q31 := eq_true q31
                                have p33 : 0 ≤ (x5_2 : Int) := of_decide_eq_true (by first | (with_reducible assumption) | assumption)
                                have q33 : x5_2 < (t209.size : Int) := of_decide_eq_true (by first | (with_reducible assumption) | assumption)
                                have hx33 := bt_at t209 x5_2
                                replace p33 := eq_true p33
                                replace q33 := eq_true q33
                                have p34 : 0 ≤ (x5_2 : Int) := of_decide_eq_true (by first | (with_reducible assumption) | assumption)
                                have q34 : x5_2 < (a0.size : Int) := of_decide_eq_true (by first | (with_reducible assumption) | assumption)
                                have hx34 := bt_at a0 x5_2
                                replace p34 := eq_true p34
                                replace q34 := eq_true q34
                                go_wp2
                                repeat (go_quiet (fail); try go_wp2)
                                go_ret
                                exact ⟨by first | rfl | (simp [errW_none, errW_some] <;> rfl) | (simp [*, errW_none, errW_some] <;> rfl), by repeat (first | (with_reducible first | exact HB.out | apply below_alloc | apply pw_below_drewN | apply below_drew1) | exact HB.out)⟩
                        · rw [if_neg c27] at H
                          exact absurd H (by simp)
                      · rw [if_neg c25] at H
                        exact absurd H (by simp)
                    · rw [if_neg c24] at H
                      have c24b0 : decide ((bt a0 x5_2) ≤ 122) = false := decide_eq_false c24
                      clear c24
                      by_cases c37 : (bt a0 x5_2) ≥ 65
                      · rw [if_pos c37] at H
                        have c37b0 : decide (65 ≤ (bt a0 x5_2)) = true := decide_eq_true c37
                        clear c37
                        by_cases c39 : x5_2 < (t208.size : Int)
                        · rw [if_pos c39] at H
                          have c39b0 : decide (x5_2 < (t208.size : Int)) = true := decide_eq_true c39
                          clear c39
                          by_cases c41 : x5_2 < (t209.size : Int)
                          · rw [if_pos c41] at H
                            have c41b0 : decide (x5_2 < (t209.size : Int)) = true := decide_eq_true c41
                            clear c41
                            by_cases c43 : (((bt t208 x5_2) != (bt t209 x5_2)) != (decide ((bt a0 x5_2) ≤ 90))) = true
                            · rw [if_pos c43] at H
                              have c43b0 : (((bt t208 x5_2) != (bt t209 x5_2)) != (decide ((bt a0 x5_2) ≤ 90))) = true := c43
                              (try (have c43b1 : decide (((bt t208 x5_2) != (bt t209 x5_2)) = (decide ((bt a0 x5_2) ≤ 90))) = false := by simpa using c43))
                              (try (have c43b2 : (((bt t208 x5_2) != (bt t209 x5_2)) == (decide ((bt a0 x5_2) ≤ 90))) = false := by simpa using c43))
                              (try (have c43b3 : ¬ (((bt t208 x5_2) != (bt t209 x5_2)) = (decide ((bt a0 x5_2) ≤ 90))) := by simpa using c43))
                              clear c43
                              obtain rfl := Option.some.inj H
                              have p21 : 0 ≤ (x5_2 : Int) := of_decide_eq_true (by first | (with_reducible assumption) | assumption)
                              have q21 : x5_2 < (a0.size : Int) := of_decide_eq_true (by first | (with_reducible assumption) | assumption)
                              have hx21 := bt_at a0 x5_2
                              replace p21 := eq_true p21
                              replace q21 := eq_true q21
                              have p23 : 0 ≤ (x5_2 : Int) := of_decide_eq_true (by first | (with_reducible assumption) | assumption)
                              have q23 : x5_2 < (a0.size : Int) := of_decide_eq_true (by first | (with_reducible assumption) | assumption)
                              have hx23 := bt_at a0 x5_2
                              replace p23 := eq_true p23
                              replace q23 := eq_true q23
                              have p36 : 0 ≤ (x5_2 : Int) := of_decide_eq_true (by first | (with_reducible assumption) | assumption)
                              have q36 : x5_2 < (a0.size : Int) := of_decide_eq_true (by first | (with_reducible assumption) | assumption)
                              have hx36 := bt_at a0 x5_2
                              replace p36 := eq_true p36
                              replace q36 := eq_true q36
                              have p38 : 0 ≤ (x5_2 : Int) := of_decide_eq_true (by first | (with_reducible assumption) | assumption)
                              have q38 : x5_2 < (a0.size : Int) := of_decide_eq_true (by first | (with_reducible assumption) | assumption)
                              have hx38 := bt_at a0 x5_2
                              replace p38 := eq_true p38
                              replace q38 := eq_true q38
                              have p40 : 0 ≤ (x5_2 : Int) := of_decide_eq_true (by first | (with_reducible assumption) | assumption)
                              have q40 : x5_2 < (t208.size : Int) := of_decide_eq_true (by first | (with_reducible assumption) | assumption)
                              have hx40 := bt_at t208 x5_2
                              replace p40 := eq_true p40
                              replace q40 := eq_true q40
                              have p42 : 0 ≤ (x5_2 : Int) := of_decide_eq_true (by first | (with_reducible assumption) | assumption)
                              have q42 : x5_2 < (t209.size : Int) := of_decide_eq_true (by first | (with_reducible assumption) | assumption)
                              have hx42 := bt_at t209 x5_2
                              replace p42 := eq_true p42
                              replace q42 := eq_true q42
                              go_wp2
                              repeat (go_quiet (fail); try go_wp2)
                              go_ret
                              exact ⟨by first | rfl | (simp [errW_none, errW_some] <;> rfl) | (simp [*, errW_none, errW_some] <;> rfl), by repeat (first | (with_reducible first | exact HB.out | apply below_alloc | apply pw_below_drewN | apply below_drew1) | exact HB.out)⟩
                            · rw [if_neg c43] at H
                              have c43b0 : (((bt t208 x5_2) != (bt t209 x5_2)) != (decide ((bt a0 x5_2) ≤ 90))) = false := by simpa using c43
                              (try (have c43b1 : decide (((bt t208 x5_2) != (bt t209 x5_2)) = (decide ((bt a0 x5_2) ≤ 90))) = true := by simpa using c43))
                              (try (have c43b2 : (((bt t208 x5_2) != (bt t209 x5_2)) == (decide ((bt a0 x5_2) ≤ 90))) = true := by simpa using c43))
                              clear c43
                              by_cases c46 : (bt t208 x5_2) = (bt a0 x5_2)
                              · rw [if_pos c46] at H
                                have c46b0 : ((bt t208 x5_2) == (bt a0 x5_2)) = true := beq_iff_eq.mpr c46
                                have c46b1 : ((bt t208 x5_2) != (bt a0 x5_2)) = false := bne_eq_false_iff_eq.mpr c46
                                clear c46
                                have H' := Aside0.mk H
                                clear H
                                have p21 : 0 ≤ (x5_2 : Int) := of_decide_eq_true (by first | (with_reducible assumption) | assumption)
                                have q21 : x5_2 < (a0.size : Int) := of_decide_eq_true (by first | (with_reducible assumption) | assumption)
                                have hx21 := bt_at a0 x5_2
                                replace p21 := eq_true p21
                                replace q21 := eq_true q21
                                have p23 : 0 ≤ (x5_2 : Int) := of_decide_eq_true (by first | (with_reducible assumption) | assumption)
                                have q23 : x5_2 < (a0.size : Int) := of_decide_eq_true (by first | (with_reducible assumption) | assumption)
                                have hx23 := bt_at a0 x5_2
                                replace p23 := eq_true p23
                                replace q23 := eq_true q23
                                have p36 : 0 ≤ (x5_2 : Int) := of_decide_eq_true (by first | (with_reducible assumption) | assumption)
                                have q36 : x5_2 < (a0.size : Int) := of_decide_eq_true (by first | (with_reducible assumption) | assumption)
                                have hx36 := bt_at a0 x5_2
                                replace p36 := eq_true p36
                                replace q36 := eq_true q36
                                have p38 : 0 ≤ (x5_2 : Int) := of_decide_eq_true (by first | (with_reducible assumption) | assumption)
                                have q38 : x5_2 < (a0.size : Int) := of_decide_eq_true (by first | (with_reducible assumption) | assumption)
                                have hx38 := bt_at a0 x5_2
                                replace p38 := eq_true p38
                                replace q38 := eq_true q38
                                have p40 : 0 ≤ (x5_2 : Int) := of_decide_eq_true (by first | (with_reducible assumption) | assumption)
                                have q40 : x5_2 < (t208.size : Int) := of_decide_eq_true (by first | (with_reducible assumption) | assumption)
                                have hx40 := bt_at t208 x5_2
                                replace p40 := eq_true p40
                                replace q40 := eq_true q40
                                have p42 : 0 ≤ (x5_2 : Int) := of_decide_eq_true (by first | (with_reducible assumption) | assumption)
                                have q42 : x5_2 < (t209.size : Int) := of_decide_eq_true (by first | (with_reducible assumption) | assumption)
                                have hx42 := bt_at t209 x5_2
                                replace p42 := eq_true p42
                                replace q42 := eq_true q42
                                have p44 : 0 ≤ (x5_2 : Int) := of_decide_eq_true (by first | (with_reducible assumption) | assumption)
                                have q44 : x5_2 < (t208.size : Int) := of_decide_eq_true (by first | (with_reducible assumption) | assumption)
                                have hx44 := bt_at t208 x5_2
                                replace p44 := eq_true p44
                                replace q44 := eq_true q44
                                have p45 : 0 ≤ (x5_2 : Int) := of_decide_eq_true (by first | (with_reducible assumption) | assumption)
                                have q45 : x5_2 < (a0.size : Int) := of_decide_eq_true (by first | (with_reducible assumption) | assumption)
                                have hx45 := bt_at a0 x5_2
                                replace p45 := eq_true p45
                                replace q45 := eq_true q45
                                go_wp2
                                repeat (go_quiet (fail); try go_wp2)
                                go_roundg k2
                                case measure => have := HJ5.out; have := HK2.out; omega
                                case rel => exact ⟨(wrap64 (x5_2 + 1)), (by first | rfl | (simp; done) | (simp [*]; done)), H', ⟨by have := HJ5.out; have := HK2.out; omega⟩, ⟨by repeat (first | (with_reducible first | exact HB.out | apply below_alloc | apply pw_below_drewN | apply below_drew1) | exact HB.out)⟩⟩
                              · rw [if_neg c46] at H
                                have c46b0 : ((bt t208 x5_2) == (bt a0 x5_2)) = false := beq_eq_false_iff_ne.mpr c46
                                have c46b1 : ((bt t208 x5_2) != (bt a0 x5_2)) = true := bne_iff_ne.mpr c46
                                by_cases c49 : (bt t209 x5_2) = (bt a0 x5_2)
                                · rw [if_pos c49] at H
                                  have c49b0 : ((bt t209 x5_2) == (bt a0 x5_2)) = true := beq_iff_eq.mpr c49
                                  have c49b1 : ((bt t209 x5_2) != (bt a0 x5_2)) = false := bne_eq_false_iff_eq.mpr c49
                                  clear c49
                                  have H' := Aside0.mk H
                                  clear H
                                  have p21 : 0 ≤ (x5_2 : Int) := of_decide_eq_true (by first | (with_reducible assumption) | assumption)
                                  have q21 : x5_2 < (a0.size : Int) := of_decide_eq_true (by first | (with_reducible assumption) | assumption)
                                  have hx21 := bt_at a0 x5_2
                                  replace p21 := eq_true p21
                                  replace q21 := eq_true q21
                                  have p23 : 0 ≤ (x5_2 : Int) := of_decide_eq_true (by first | (with_reducible assumption) | assumption)
                                  have q23 : x5_2 < (a0.size : Int) := of_decide_eq_true (by first | (with_reducible assumption) | assumption)
                                  have hx23 := bt_at a0 x5_2
                                  replace p23 := eq_true p23
                                  replace q23 := eq_true q23
                                  have p36 : 0 ≤ (x5_2 : Int) := of_decide_eq_true (by first | (with_reducible assumption) | assumption)
                                  have q36 : x5_2 < (a0.size : Int) := of_decide_eq_true (by first | (with_reducible assumption) | assumption)
                                  have hx36 := bt_at a0 x5_2
                                  replace p36 := eq_true p36
                                  replace q36 := eq_true q36
                                  have p38 : 0 ≤ (x5_2 : Int) := of_decide_eq_true (by first | (with_reducible assumption) | assumption)
                                  have q38 : x5_2 < (a0.size : Int) := of_decide_eq_true (by first | (with_reducible assumption) | assumption)
                                  have hx38 := bt_at a0 x5_2
                                  replace p38 := eq_true p38
                                  replace q38 := eq_true q38
                                  have p40 : 0 ≤ (x5_2 : Int) := of_decide_eq_true (by first | (with_reducible assumption) | assumption)
                                  have q40 : x5_2 < (t208.size : Int) := of_decide_eq_true (by first | (with_reducible assumption) | assumption)
                                  have hx40 := bt_at t208 x5_2
                                  replace p40 := eq_true p40
                                  replace q40 := eq_true q40
                                  have p42 : 0 ≤ (x5_2 : Int) := of_decide_eq_true (by first | (with_reducible assumption) | assumption)
                                  have q42 : x5_2 < (t209.size : Int) := of_decide_eq_true (by first | (with_reducible assumption) | assumption)
                                  have hx42 := bt_at t209 x5_2
                                  replace p42 := eq_true p42
                                  replace q42 := eq_true q42
                                  have p44 : 0 ≤ (x5_2 : Int) := of_decide_eq_true (by first | (with_reducible assumption) | assumption)
                                  have q44 : x5_2 < (t208.size : Int) := of_decide_eq_true (by first | (with_reducible assumption) | assumption)
                                  have hx44 := bt_at t208 x5_2
                                  replace p44 := eq_true p44
                                  replace q44 := eq_true q44
                                  have p45 : 0 ≤ (x5_2 : Int) := of_decide_eq_true (by first | (with_reducible assumption) | assumption)
                                  have q45 : x5_2 < (a0.size : Int) := of_decide_eq_true (by first | (with_reducible assumption) | assumption)
                                  have hx45 := bt_at a0 x5_2
                                  replace p45 := eq_true p45
                                  replace q45 := eq_true q45
                                  have p47 : 0 ≤ (x5_2 : Int) := of_decide_eq_true (by first | (with_reducible assumption) | assumption)
                                  have q47 : x5_2 < (t209.size : Int) := of_decide_eq_true (by first | (with_reducible assumption) | assumption)
                                  have hx47 := bt_at t209 x5_2
                                  replace p47 := eq_true p47
                                  replace q47 := eq_true q47
                                  have p48 : 0 ≤ (x5_2 : Int) := of_decide_eq_true (by first | (with_reducible assumption) | assumption)
                                  have q48 : x5_2 < (a0.size : Int) := of_decide_eq_true (by first | (with_reducible assumption) | assumption)
                                  have hx48 := bt_at a0 x5_2
                                  replace p48 := eq_true p48
                                  replace q48 := eq_true q48
                                  go_wp2
                                  repeat (go_quiet (fail); try go_wp2)
                                  go_roundg k2
                                  case measure => have := HJ5.out; have := HK2.out; omega
                                  case rel => exact ⟨(wrap64 (x5_2 + 1)), (by first | rfl | (simp; done) | (simp [*]; done)), H', ⟨by have := HJ5.out; have := HK2.out; omega⟩, ⟨by repeat (first | (with_reducible first | exact HB.out | apply below_alloc | apply pw_below_drewN | apply below_drew1) | exact HB.out)⟩⟩
                                · rw [if_neg c49] at H
                                  have c49b0 : ((bt t209 x5_2) == (bt a0 x5_2)) = false := beq_eq_false_iff_ne.mpr c49
                                  have c49b1 : ((bt t209 x5_2) != (bt a0 x5_2)) = true := bne_iff_ne.mpr c49
                                  obtain rfl := Option.some.inj H
                                  have p21 : 0 ≤ (x5_2 : Int) := of_decide_eq_true (by first | (with_reducible assumption) | assumption)
                                  have q21 : x5_2 < (a0.size : Int) := of_decide_eq_true (by first | (with_reducible assumption) | assumption)
                                  have hx21 := bt_at a0 x5_2
                                  replace p21 := eq_true p21
                                  replace q21 := eq_true q21
                                  have p23 : 0 ≤ (x5_2 : Int) := of_decide_eq_true (by first | (with_reducible assumption) | assumption)
                                  have q23 : x5_2 < (a0.size : Int) := of_decide_eq_true (by first | (with_reducible assumption) | assumption)
                                  have hx23 := bt_at a0 x5_2
                                  replace p23 := eq_true p23
                                  replace q23 := eq_true q23
                                  have p36 : 0 ≤ (x5_2 : Int) := of_decide_eq_true (by first | (with_reducible assumption) | assumption)
                                  have q36 : x5_2 < (a0.size : Int) := of_decide_eq_true (by first | (with_reducible assumption) | assumption)
                                  have hx36 := bt_at a0 x5_2
                                  replace p36 := eq_true p36
                                  replace q36 := eq_true q36
                                  have p38 : 0 ≤ (x5_2 : Int) := of_decide_eq_true (by first | (with_reducible assumption) | assumption)
                                  have q38 : x5_2 < (a0.size : Int) := of_decide_eq_true (by first | (with_reducible assumption) | assumption)
                                  have hx38 := bt_at a0 x5_2
                                  replace p38 := eq_true p38
                                  replace q38 := eq_true q38
                                  have p40 : 0 ≤ (x5_2 : Int) := of_decide_eq_true (by first | (with_reducible assumption) | assumption)
                                  have q40 : x5_2 < (t208.size : Int) := of_decide_eq_true (by first | (with_reducible assumption) | assumption)
                                  have hx40 := bt_at t208 x5_2
                                  replace p40 := eq_true p40
                                  replace q40 := eq_true q40
                                  have p42 : 0 ≤ (x5_2 : Int) := of_decide_eq_true (by first | (with_reducible assumption) | assumption)
                                  have q42 : x5_2 < (t209.size : Int) := of_decide_eq_true (by first | (with_reducible assumption) | assumption)
                                  have hx42 := bt_at t209 x5_2
                                  replace p42 := eq_true p42
                                  replace q42 := eq_true q42
                                  have p44 : 0 ≤ (x5_2 : Int) := of_decide_eq_true (by first | (with_reducible assumption) | assumption)
                                  have q44 : x5_2 < (t208.size : Int) := of_decide_eq_true (by first | (with_reducible assumption) | assumption)
                                  have hx44 := bt_at t208 x5_2
                                  replace p44 := eq_true p44
                                  replace q44 := eq_true q44
                                  have p45 : 0 ≤ (x5_2 : Int) := of_decide_eq_true (by first | (with_reducible assumption) | assumption)
                                  have q45 : x5_2 < (a0.size : Int) := of_decide_eq_true (by first | (with_reducible assumption) | assumption)
                                  have hx45 := bt_at a0 x5_2
                                  replace p45 := eq_true p45
                                  replace q45 := eq_true q45
                                  have p47 : 0 ≤ (x5_2 : Int) := of_decide_eq_true (by first | (with_reducible assumption) | assumption)
                                  have q47 : x5_2 < (t209.size : Int) := of_decide_eq_true (by first | (with_reducible assumption) | assumption)
                                  have hx47 := bt_at t209 x5_2
                                  replace p47 := eq_true p47
                                  replace q47 := eq_true q47
                                  have p48 : 0 ≤ (x5_2 : Int) := of_decide_eq_true (by first | (with_reducible assumption) | assumption)
                                  have q48 : x5_2 < (a0.size : Int) := of_decide_eq_true (by first | (with_reducible assumption) | assumption)
                                  have hx48 := bt_at a0 x5_2
                                  replace p48 := eq_true p48
                                  replace q48 := eq_true q48
                                  go_wp2
                                  repeat (go_quiet (fail); try go_wp2)
                                  go_ret
                                  exact ⟨by first | rfl | (simp [errW_none, errW_some] <;> rfl) | (simp [*, errW_none, errW_some] <;> rfl), by repeat (first | (with_reducible first | exact HB.out | apply below_alloc | apply pw_below_drewN | apply below_drew1) | exact HB.out)⟩
                          · rw [if_neg c41] at H
                            exact absurd H (by simp)
                        · rw [if_neg c39] at H
                          exact absurd H (by simp)
                      · rw [if_neg c37] at H
                        have c37b0 : decide (65 ≤ (bt a0 x5_2)) = false := decide_eq_false c37
                        clear c37
                        by_cases c50 : x5_2 < (t208.size : Int)
                        · rw [if_pos c50] at H
                          have c50b0 : decide (x5_2 < (t208.size : Int)) = true := decide_eq_true c50
                          clear c50
                          by_cases c52 : x5_2 < (t209.size : Int)
                          · rw [if_pos c52] at H
                            have c52b0 : decide (x5_2 < (t209.size : Int)) = true := decide_eq_true c52
                            clear c52
                            by_cases c54 : (((bt t208 x5_2) != (bt t209 x5_2)) != false) = true
                            · rw [if_pos c54] at H
                              have c54b0 : (((bt t208 x5_2) != (bt t209 x5_2)) != false) = true := c54
                              (try (have c54b1 : decide (((bt t208 x5_2) != (bt t209 x5_2)) = false) = false := by simpa using c54))
                              (try (have c54b2 : (((bt t208 x5_2) != (bt t209 x5_2)) == false) = false := by simpa using c54))
                              (try (have c54b3 : ¬ (((bt t208 x5_2) != (bt t209 x5_2)) = false) := by simpa using c54))
                              clear c54
                              obtain rfl := Option.some.inj H
                              have p21 : 0 ≤ (x5_2 : Int) := of_decide_eq_true (by first | (with_reducible assumption) | assumption)
                              have q21 : x5_2 < (a0.size : Int) := of_decide_eq_true (by first | (with_reducible assumption) | assumption)
                              have hx21 := bt_at a0 x5_2
                              replace p21 := eq_true p21
                              replace q21 := eq_true q21
                              have p23 : 0 ≤ (x5_2 : Int) := of_decide_eq_true (by first | (with_reducible assumption) | assumption)
                              have q23 : x5_2 < (a0.size : Int) := of_decide_eq_true (by first | (with_reducible assumption) | assumption)
                              have hx23 := bt_at a0 x5_2
                              replace p23 := eq_true p23
                              replace q23 := eq_true q23
                              have p36 : 0 ≤ (x5_2 : Int) := of_decide_eq_true (by first | (with_reducible assumption) | assumption)
                              have q36 : x5_2 < (a0.size : Int) := of_decide_eq_true (by first | (with_reducible assumption) | assumption)
                              have hx36 := bt_at a0 x5_2
                              replace p36 := eq_true p36
                              replace q36 := eq_true q36
                              have p51 : 0 ≤ (x5_2 : Int) := of_decide_eq_true (by first | (with_reducible assumption) | assumption)
                              have q51 : x5_2 < (t208.size : Int) := of_decide_eq_true (by first | (with_reducible assumption) | assumption)
                              have hx51 := bt_at t208 x5_2
                              replace p51 := eq_true p51
                              replace q51 := eq_true q51
                              have p53 : 0 ≤ (x5_2 : Int) := of_decide_eq_true (by first | (with_reducible assumption) | assumption)
                              have q53 : x5_2 < (t209.size : Int) := of_decide_eq_true (by first | (with_reducible assumption) | assumption)
                              have hx53 := bt_at t209 x5_2
                              replace p53 := eq_true p53
                              replace q53 := eq_true q53
                              go_wp2
                              repeat (go_quiet (fail); try go_wp2)
                              go_ret
                              exact ⟨by first | rfl | (simp [errW_none, errW_some] <;> rfl) | (simp [*, errW_none, errW_some] <;> rfl), by repeat (first | (with_reducible first | exact HB.out | apply below_alloc | apply pw_below_drewN | apply below_drew1) | exact HB.out)⟩
                            · rw [if_neg c54] at H
                              have c54b0 : (((bt t208 x5_2) != (bt t209 x5_2)) != false) = false := by simpa using c54
                              (try (have c54b1 : decide (((bt t208 x5_2) != (bt t209 x5_2)) = false) = true := by simpa using c54))
                              (try (have c54b2 : (((bt t208 x5_2) != (bt t209 x5_2)) == false) = true := by simpa using c54))
                              clear c54
                              by_cases c57 : (bt t208 x5_2) = (bt a0 x5_2)
                              · rw [if_pos c57] at H
                                have c57b0 : ((bt t208 x5_2) == (bt a0 x5_2)) = true := beq_iff_eq.mpr c57
                                have c57b1 : ((bt t208 x5_2) != (bt a0 x5_2)) = false := bne_eq_false_iff_eq.mpr c57
                                clear c57
                                have H' := Aside0.mk H
                                clear H
                                have p21 : 0 ≤ (x5_2 : Int) := of_decide_eq_true (by first | (with_reducible assumption) | assumption)
                                have q21 : x5_2 < (a0.size : Int) := of_decide_eq_true (by first | (with_reducible assumption) | assumption)
                                have hx21 := bt_at a0 x5_2
                                replace p21 := eq_true p21
                                replace q21 := eq_true q21
                                have p23 : 0 ≤ (x5_2 : Int) := of_decide_eq_true (by first | (with_reducible assumption) | assumption)
                                have q23 : x5_2 < (a0.size : Int) := of_decide_eq_true (by first | (with_reducible assumption) | assumption)
                                have hx23 := bt_at a0 x5_2
                                replace p23 := eq_true p23
                                replace q23 := eq_true q23
                                have p36 : 0 ≤ (x5_2 : Int) := of_decide_eq_true (by first | (with_reducible assumption) | assumption)
                                have q36 : x5_2 < (a0.size : Int) := of_decide_eq_true (by first | (with_reducible assumption) | assumption)
                                have hx36 := bt_at a0 x5_2
                                replace p36 := eq_true p36
                                replace q36 := eq_true q36
                                have p51 : 0 ≤ (x5_2 : Int) := of_decide_eq_true (by first | (with_reducible assumption) | assumption)
                                have q51 : x5_2 < (t208.size : Int) := of_decide_eq_true (by first | (with_reducible assumption) | assumption)
                                have hx51 := bt_at t208 x5_2
                                replace p51 := eq_true p51
                                replace q51 := eq_true q51
                                have p53 : 0 ≤ (x5_2 : Int) := of_decide_eq_true (by first | (with_reducible assumption) | assumption)
                                have q53 : x5_2 < (t209.size : Int) := of_decide_eq_true (by first | (with_reducible assumption) | assumption)
                                have hx53 := bt_at t209 x5_2
                                replace p53 := eq_true p53
                                replace q53 := eq_true q53
                                have p55 : 0 ≤ (x5_2 : Int) := of_decide_eq_true (by first | (with_reducible assumption) | assumption)
                                have q55 : x5_2 < (t208.size : Int) := of_decide_eq_true (by first | (with_reducible assumption) | assumption)
                                have hx55 := bt_at t208 x5_2
                                replace p55 := eq_true p55
                                replace q55 := eq_true q55
                                have p56 : 0 ≤ (x5_2 : Int) := of_decide_eq_true (by first | (with_reducible assumption) | assumption)
                                have q56 : x5_2 < (a0.size : Int) := of_decide_eq_true (by first | (with_reducible assumption) | assumption)
                                have hx56 := bt_at a0 x5_2
                                replace p56 := eq_true p56
                                replace q56 := eq_true q56
                                go_wp2
                                repeat (go_quiet (fail); try go_wp2)
                                go_roundg k2
                                case measure => have := HJ5.out; have := HK2.out; omega
                                case rel => exact ⟨(wrap64 (x5_2 + 1)), (by first | rfl | (simp; done) | (simp [*]; done)), H', ⟨by have := HJ5.out; have := HK2.out; omega⟩, ⟨by repeat (first | (with_reducible first | exact HB.out | apply below_alloc | apply pw_below_drewN | apply below_drew1) | exact HB.out)⟩⟩
                              · rw [if_neg c57] at H
                                have c57b0 : ((bt t208 x5_2) == (bt a0 x5_2)) = false := beq_eq_false_iff_ne.mpr c57
                                have c57b1 : ((bt t208 x5_2) != (bt a0 x5_2)) = true := bne_iff_ne.mpr c57
                                by_cases c60 : (bt t209 x5_2) = (bt a0 x5_2)
                                · rw [if_pos c60] at H
                                  have c60b0 : ((bt t209 x5_2) == (bt a0 x5_2)) = true := beq_iff_eq.mpr c60
                                  have c60b1 : ((bt t209 x5_2) != (bt a0 x5_2)) = false := bne_eq_false_iff_eq.mpr c60
                                  clear c60
                                  have H' := Aside0.mk H
                                  clear H
                                  have p21 : 0 ≤ (x5_2 : Int) := of_decide_eq_true (by first | (with_reducible assumption) | assumption)
                                  have q21 : x5_2 < (a0.size : Int) := of_decide_eq_true (by first | (with_reducible assumption) | assumption)
                                  have hx21 := bt_at a0 x5_2
                                  replace p21 := eq_true p21
                                  replace q21 := eq_true q21
                                  have p23 : 0 ≤ (x5_2 : Int) := of_decide_eq_true (by first | (with_reducible assumption) | assumption)
                                  have q23 : x5_2 < (a0.size : Int) := of_decide_eq_true (by first | (with_reducible assumption) | assumption)
                                  have hx23 := bt_at a0 x5_2
                                  replace p23 := eq_true p23
                                  replace q23 := eq_true q23
                                  have p36 : 0 ≤ (x5_2 : Int) := of_decide_eq_true (by first | (with_reducible assumption) | assumption)
                                  have q36 : x5_2 < (a0.size : Int) := of_decide_eq_true (by first | (with_reducible assumption) | assumption)
                                  have hx36 := bt_at a0 x5_2
                                  replace p36 := eq_true p36
                                  replace q36 := eq_true q36
                                  have p51 : 0 ≤ (x5_2 : Int) := of_decide_eq_true (by first | (with_reducible assumption) | assumption)
                                  have q51 : x5_2 < (t208.size : Int) := of_decide_eq_true (by first | (with_reducible assumption) | assumption)
                                  have hx51 := bt_at t208 x5_2
                                  replace p51 := eq_true p51
                                  replace q51 := eq_true q51
                                  have p53 : 0 ≤ (x5_2 : Int) := of_decide_eq_true (by first | (with_reducible assumption) | assumption)
                                  have q53 : x5_2 < (t209.size : Int) := of_decide_eq_true (by first | (with_reducible assumption) | assumption)
                                  have hx53 := bt_at t209 x5_2
                                  replace p53 := eq_true p53
                                  replace q53 := eq_true q53
                                  have p55 : 0 ≤ (x5_2 : Int) := of_decide_eq_true (by first | (with_reducible assumption) | assumption)
                                  have q55 : x5_2 < (t208.size : Int) := of_decide_eq_true (by first | (with_reducible assumption) | assumption)
                                  have hx55 := bt_at t208 x5_2
                                  replace p55 := eq_true p55
                                  replace q55 := eq_true q55
                                  have p56 : 0 ≤ (x5_2 : Int) := of_decide_eq_true (by first | (with_reducible assumption) | assumption)
                                  have q56 : x5_2 < (a0.size : Int) := of_decide_eq_true (by first | (with_reducible assumption) | assumption)
                                  have hx56 := bt_at a0 x5_2
                                  replace p56 := eq_true p56
                                  replace q56 := eq_true q56
                                  have p58 : 0 ≤ (x5_2 : Int) := of_decide_eq_true (by first | (with_reducible assumption) | assumption)
                                  have q58 : x5_2 < (t209.size : Int) := of_decide_eq_true (by first | (with_reducible assumption) | assumption)
                                  have hx58 := bt_at t209 x5_2
                                  replace p58 := eq_true p58
                                  replace q58 := eq_true q58
                                  have p59 : 0 ≤ (x5_2 : Int) := of_decide_eq_true (by first | (with_reducible assumption) | assumption)
                                  have q59 : x5_2 < (a0.size : Int) := of_decide_eq_true (by first | (with_reducible assumption) | assumption)
                                  have hx59 := bt_at a0 x5_2
                                  replace p59 := eq_true p59
                                  replace q59 := eq_true q59
                                  go_wp2
                                  repeat (go_quiet (fail); try go_wp2)
                                  go_roundg k2
                                  case measure => have := HJ5.out; have := HK2.out; omega
                                  case rel => exact ⟨(wrap64 (x5_2 + 1)), (by first | rfl | (simp; done) | (simp [*]; done)), H', ⟨by have := HJ5.out; have := HK2.out; omega⟩, ⟨by repeat (first | (with_reducible first | exact HB.out | apply below_alloc | apply pw_below_drewN | apply below_drew1) | exact HB.out)⟩⟩
                                · rw [if_neg c60] at H
                                  have c60b0 : ((bt t209 x5_2) == (bt a0 x5_2)) = false := beq_eq_false_iff_ne.mpr c60
                                  have c60b1 : ((bt t209 x5_2) != (bt a0 x5_2)) = true := bne_iff_ne.mpr c60
                                  obtain rfl := Option.some.inj H
                                  have p21 : 0 ≤ (x5_2 : Int) := of_decide_eq_true (by first | (with_reducible assumption) | assumption)
                                  have q21 : x5_2 < (a0.size : Int) := of_decide_eq_true (by first | (with_reducible assumption) | assumption)
                                  have hx21 := bt_at a0 x5_2
                                  replace p21 := eq_true p21
                                  replace q21 := eq_true q21
                                  have p23 : 0 ≤ (x5_2 : Int) := of_decide_eq_true (by first | (with_reducible assumption) | assumption)
                                  have q23 : x5_2 < (a0.size : Int) := of_decide_eq_true (by first | (with_reducible assumption) | assumption)
                                  have hx23 := bt_at a0 x5_2
                                  replace p23 := eq_true p23
                                  replace q23 := eq_true q23
                                  have p36 : 0 ≤ (x5_2 : Int) := of_decide_eq_true (by first | (with_reducible assumption) | assumption)
                                  have q36 : x5_2 < (a0.size : Int) := of_decide_eq_true (by first | (with_reducible assumption) | assumption)
                                  have hx36 := bt_at a0 x5_2
                                  replace p36 := eq_true p36
                                  replace q36 := eq_true q36
                                  have p51 : 0 ≤ (x5_2 : Int) := of_decide_eq_true (by first | (with_reducible assumption) | assumption)
                                  have q51 : x5_2 < (t208.size : Int) := of_decide_eq_true (by first | (with_reducible assumption) | assumption)
                                  have hx51 := bt_at t208 x5_2
                                  replace p51 := eq_true p51
                                  replace q51 := eq_true q51
                                  have p53 : 0 ≤ (x5_2 : Int) := of_decide_eq_true (by first | (with_reducible assumption) | assumption)
                                  have q53 : x5_2 < (t209.size : Int) := of_decide_eq_true (by first | (with_reducible assumption) | assumption)
                                  have hx53 := bt_at t209 x5_2
                                  replace p53 := eq_true p53
                                  replace q53 := eq_true q53
                                  have p55 : 0 ≤ (x5_2 : Int) := of_decide_eq_true (by first | (with_reducible assumption) | assumption)
                                  have q55 : x5_2 < (t208.size : Int) := of_decide_eq_true (by first | (with_reducible assumption) | assumption)
                                  have hx55 := bt_at t208 x5_2
                                  replace p55 := eq_true p55
                                  replace q55 := eq_true q55
                                  have p56 : 0 ≤ (x5_2 : Int) := of_decide_eq_true (by first | (with_reducible assumption) | assumption)
                                  have q56 : x5_2 < (a0.size : Int) := of_decide_eq_true (by first | (with_reducible assumption) | assumption)
                                  have hx56 := bt_at a0 x5_2
                                  replace p56 := eq_true p56
                                  replace q56 := eq_true q56
                                  have p58 : 0 ≤ (x5_2 : Int) := of_decide_eq_true (by first | (with_reducible assumption) | assumption)
                                  have q58 : x5_2 < (t209.size : Int) := of_decide_eq_true (by first | (with_reducible assumption) | assumption)
                                  have hx58 := bt_at t209 x5_2
                                  replace p58 := eq_true p58
                                  replace q58 := eq_true q58
                                  have p59 : 0 ≤ (x5_2 : Int) := of_decide_eq_true (by first | (with_reducible assumption) | assumption)
                                  have q59 : x5_2 < (a0.size : Int) := of_decide_eq_true (by first | (with_reducible assumption) | assumption)
                                  have hx59 := bt_at a0 x5_2
                                  replace p59 := eq_true p59
                                  replace q59 := eq_true q59
                                  go_wp2
                                  repeat (go_quiet (fail); try go_wp2)
                                  go_ret
                                  exact ⟨by first | rfl | (simp [errW_none, errW_some] <;> rfl) | (simp [*, errW_none, errW_some] <;> rfl), by repeat (first | (with_reducible first | exact HB.out | apply below_alloc | apply pw_below_drewN | apply below_drew1) | exact HB.out)⟩
                          · rw [if_neg c52] at H
                            exact absurd H (by simp)
                        · rw [if_neg c50] at H
                          exact absurd H (by simp)
                  · rw [if_neg c22] at H
                    have c22b0 : decide (97 ≤ (bt a0 x5_2)) = false := decide_eq_false c22
                    clear c22
                    by_cases c62 : (bt a0 x5_2) ≥ 65
                    · rw [if_pos c62] at H
                      have c62b0 : decide (65 ≤ (bt a0 x5_2)) = true := decide_eq_true c62
                      clear c62
                      by_cases c64 : x5_2 < (t208.size : Int)
                      · rw [if_pos c64] at H
                        have c64b0 : decide (x5_2 < (t208.size : Int)) = true := decide_eq_true c64
                        clear c64
                        by_cases c66 : x5_2 < (t209.size : Int)
                        · rw [if_pos c66] at H
                          have c66b0 : decide (x5_2 < (t209.size : Int)) = true := decide_eq_true c66
                          clear c66
                          by_cases c68 : (((bt t208 x5_2) != (bt t209 x5_2)) != (decide ((bt a0 x5_2) ≤ 90))) = true
                          · rw [if_pos c68] at H
                            have c68b0 : (((bt t208 x5_2) != (bt t209 x5_2)) != (decide ((bt a0 x5_2) ≤ 90))) = true := c68
                            (try (have c68b1 : decide (((bt t208 x5_2) != (bt t209 x5_2)) = (decide ((bt a0 x5_2) ≤ 90))) = false := by simpa using c68))
                            (try (have c68b2 : (((bt t208 x5_2) != (bt t209 x5_2)) == (decide ((bt a0 x5_2) ≤ 90))) = false := by simpa using c68))
                            (try (have c68b3 : ¬ (((bt t208 x5_2) != (bt t209 x5_2)) = (decide ((bt a0 x5_2) ≤ 90))) := by simpa using c68))
                            clear c68
                            obtain rfl := Option.some.inj H
                            have p21 : 0 ≤ (x5_2 : Int) := of_decide_eq_true (by first | (with_reducible assumption) | assumption)
                            have q21 : x5_2 < (a0.size : Int) := of_decide_eq_true (by first | (with_reducible assumption) | assumption)
                            have hx21 := bt_at a0 x5_2
                            replace p21 := eq_true p21
                            replace q21 := eq_true q21
                            have p61 : 0 ≤ (x5_2 : Int) := of_decide_eq_true (by first | (with_reducible assumption) | assumption)
                            have q61 : x5_2 < (a0.size : Int) := of_decide_eq_true (by first | (with_reducible assumption) | assumption)
                            have hx61 := bt_at a0 x5_2
                            replace p61 := eq_true p61
                            replace q61 := eq_true q61
                            have p63 : 0 ≤ (x5_2 : Int) := of_decide_eq_true (by first | (with_reducible assumption) | assumption)
                            have q63 : x5_2 < (a0.size : Int) := of_decide_eq_true (by first | (with_reducible assumption) | assumption)
                            have hx63 := bt_at a0 x5_2
                            replace p63 := eq_true p63
                            replace q63 := eq_true q63
                            have p65 : 0 ≤ (x5_2 : Int) := of_decide_eq_true (by first | (with_reducible assumption) | assumption)
                            have q65 : x5_2 < (t208.size : Int) := of_decide_eq_true (by first | (with_reducible assumption) | assumption)
                            have hx65 := bt_at t208 x5_2
                            replace p65 := eq_true p65
                            replace q65 := eq_true q65
                            have p67 : 0 ≤ (x5_2 : Int) := of_decide_eq_true (by first | (with_reducible assumption) | assumption)
                            have q67 : x5_2 < (t209.size : Int) := of_decide_eq_true (by first | (with_reducible assumption) | assumption)
                            have hx67 := bt_at t209 x5_2
                            replace p67 := eq_true p67
                            replace q67 := eq_true q67
                            go_wp2
                            repeat (go_quiet (fail); try go_wp2)
                            go_ret
                            exact ⟨by first | rfl | (simp [errW_none, errW_some] <;> rfl) | (simp [*, errW_none, errW_some] <;> rfl), by repeat (first | (with_reducible first | exact HB.out | apply below_alloc | apply pw_below_drewN | apply below_drew1) | exact HB.out)⟩
                          · rw [if_neg c68] at H
                            have c68b0 : (((bt t208 x5_2) != (bt t209 x5_2)) != (decide ((bt a0 x5_2) ≤ 90))) = false := by simpa using c68
                            (try (have c68b1 : decide (((bt t208 x5_2) != (bt t209 x5_2)) = (decide ((bt a0 x5_2) ≤ 90))) = true := by simpa using c68))
                            (try (have c68b2 : (((bt t208 x5_2) != (bt t209 x5_2)) == (decide ((bt a0 x5_2) ≤ 90))) = true := by simpa using c68))
                            clear c68
                            by_cases c71 : (bt t208 x5_2) = (bt a0 x5_2)
                            · rw [if_pos c71] at H
                              have c71b0 : ((bt t208 x5_2) == (bt a0 x5_2)) = true := beq_iff_eq.mpr c71
                              have c71b1 : ((bt t208 x5_2) != (bt a0 x5_2)) = false := bne_eq_false_iff_eq.mpr c71
                              clear c71
                              have H' := Aside0.mk H
                              clear H
                              have p21 : 0 ≤ (x5_2 : Int) := of_decide_eq_true (by first | (with_reducible assumption) | assumption)
                              have q21 : x5_2 < (a0.size : Int) := of_decide_eq_true (by first | (with_reducible assumption) | assumption)
                              have hx21 := bt_at a0 x5_2
                              replace p21 := eq_true p21
                              replace q21 := eq_true q21
                              have p61 : 0 ≤ (x5_2 : Int) := of_decide_eq_true (by first | (with_reducible assumption) | assumption)
                              have q61 : x5_2 < (a0.size : Int) := of_decide_eq_true (by first | (with_reducible assumption) | assumption)
                              have hx61 := bt_at a0 x5_2
                              replace p61 := eq_true p61
                              replace q61 := eq_true q61
                              have p63 : 0 ≤ (x5_2 : Int) := of_decide_eq_true (by first | (with_reducible assumption) | assumption)
                              have q63 : x5_2 < (a0.size : Int) := of_decide_eq_true (by first | (with_reducible assumption) | assumption)
                              have hx63 := bt_at a0 x5_2
                              replace p63 := eq_true p63
                              replace q63 := eq_true q63
                              have p65 : 0 ≤ (x5_2 : Int) := of_decide_eq_true (by first | (with_reducible assumption) | assumption)
                              have q65 : x5_2 < (t208.size : Int) := of_decide_eq_true (by first | (with_reducible assumption) | assumption)
                              have hx65 := bt_at t208 x5_2
                              replace p65 := eq_true p65
                              replace q65 := eq_true q65
                              have p67 : 0 ≤ (x5_2 : Int) := of_decide_eq_true (by first | (with_reducible assumption) | assumption)
                              have q67 : x5_2 < (t209.size : Int) := of_decide_eq_true (by first | (with_reducible assumption) | assumption)
                              have hx67 := bt_at t209 x5_2
                              replace p67 := eq_true p67
                              replace q67 := eq_true q67
                              have p69 : 0 ≤ (x5_2 : Int) := of_decide_eq_true (by first | (with_reducible assumption) | assumption)
                              have q69 : x5_2 < (t208.size : Int) := of_decide_eq_true (by first | (with_reducible assumption) | assumption)
                              have hx69 := bt_at t208 x5_2
                              replace p69 := eq_true p69
                              replace q69 := eq_true q69
                              have p70 : 0 ≤ (x5_2 : Int) := of_decide_eq_true (by first | (with_reducible assumption) | assumption)
                              have q70 : x5_2 < (a0.size : Int) := of_decide_eq_true (by first | (with_reducible assumption) | assumption)
                              have hx70 := bt_at a0 x5_2
                              replace p70 := eq_true p70
                              replace q70 := eq_true q70
                              go_wp2
                              repeat (go_quiet (fail); try go_wp2)
                              go_roundg k2
                              case measure => have := HJ5.out; have := HK2.out; omega
                              case rel => exact ⟨(wrap64 (x5_2 + 1)), (by first | rfl | (simp; done) | (simp [*]; done)), H', ⟨by have := HJ5.out; have := HK2.out; omega⟩, ⟨by repeat (first | (with_reducible first | exact HB.out | apply below_alloc | apply pw_below_drewN | apply below_drew1) | exact HB.out)⟩⟩
                            · rw [if_neg c71] at H
                              have c71b0 : ((bt t208 x5_2) == (bt a0 x5_2)) = false := beq_eq_false_iff_ne.mpr c71
                              have c71b1 : ((bt t208 x5_2) != (bt a0 x5_2)) = true := bne_iff_ne.mpr c71
                              by_cases c74 : (bt t209 x5_2) = (bt a0 x5_2)
                              · rw [if_pos c74] at H
                                have c74b0 : ((bt t209 x5_2) == (bt a0 x5_2)) = true := beq_iff_eq.mpr c74
                                have c74b1 : ((bt t209 x5_2) != (bt a0 x5_2)) = false := bne_eq_false_iff_eq.mpr c74
                                clear c74
                                have H' := Aside0.mk H
                                clear H
                                have p21 : 0 ≤ (x5_2 : Int) := of_decide_eq_true (by first | (with_reducible assumption) | assumption)
                                have q21 : x5_2 < (a0.size : Int) := of_decide_eq_true (by first | (with_reducible assumption) | assumption)
                                have hx21 := bt_at a0 x5_2
                                replace p21 := eq_true p21
                                replace q21 := eq_true q21
                                have p61 : 0 ≤ (x5_2 : Int) := of_decide_eq_true (by first | (with_reducible assumption) | assumption)
                                have q61 : x5_2 < (a0.size : Int) := of_decide_eq_true (by first | (with_reducible assumption) | assumption)
                                have hx61 := bt_at a0 x5_2
                                replace p61 := eq_true p61
                                replace q61 := eq_true q61
                                have p63 : 0 ≤ (x5_2 : Int) := of_decide_eq_true (by first | (with_reducible assumption) | assumption)
                                have q63 : x5_2 < (a0.size : Int) := of_decide_eq_true (by first | (with_reducible assumption) | assumption)
                                have hx63 := bt_at a0 x5_2
                                replace p63 := eq_true p63
                                replace q63 := eq_true q63
                                have p65 : 0 ≤ (x5_2 : Int) := of_decide_eq_true (by first | (with_reducible assumption) | assumption)
                                have q65 : x5_2 < (t208.size : Int) := of_decide_eq_true (by first | (with_reducible assumption) | assumption)
                                have hx65 := bt_at t208 x5_2
                                replace p65 := eq_true p65
                                replace q65 := eq_true q65
                                have p67 : 0 ≤ (x5_2 : Int) := of_decide_eq_true (by first | (with_reducible assumption) | assumption)
                                have q67 : x5_2 < (t209.size : Int) := of_decide_eq_true (by first | (with_reducible assumption) | assumption)
                                have hx67 := bt_at t209 x5_2
                                replace p67 := eq_true p67
                                replace q67 := eq_true q67
                                have p69 : 0 ≤ (x5_2 : Int) := of_decide_eq_true (by first | (with_reducible assumption) | assumption)
                                have q69 : x5_2 < (t208.size : Int) := of_decide_eq_true (by first | (with_reducible assumption) | assumption)
                                have hx69 := bt_at t208 x5_2
                                replace p69 := eq_true p69
                                replace q69 := eq_true q69
                                have p70 : 0 ≤ (x5_2 : Int) := of_decide_eq_true (by first | (with_reducible assumption) | assumption)
                                have q70 : x5_2 < (a0.size : Int) := of_decide_eq_true (by first | (with_reducible assumption) | assumption)
                                have hx70 := bt_at a0 x5_2
                                replace p70 := eq_true p70
                                replace q70 := eq_true q70
                                have p72 : 0 ≤ (x5_2 : Int) := of_decide_eq_true (by first | (with_reducible assumption) | assumption)
                                have q72 : x5_2 < (t209.size : Int) := of_decide_eq_true (by first | (with_reducible assumption) | assumption)
                                have hx72 := bt_at t209 x5_2
                                replace p72 := eq_true p72
                                replace q72 := eq_true q72
                                have p73 : 0 ≤ (x5_2 : Int) := of_decide_eq_true (by first | (with_reducible assumption) | assumption)
                                have q73 : x5_2 < (a0.size : Int) := of_decide_eq_true (by first | (with_reducible assumption) | assumption)
                                have hx73 := bt_at a0 x5_2
                                replace p73 := eq_true p73
                                replace q73 := eq_true q73
                                go_wp2
                                repeat (go_quiet (fail); try go_wp2)
                                go_roundg k2
                                case measure => have := HJ5.out; have := HK2.out; omega
                                case rel => exact ⟨(wrap64 (x5_2 + 1)), (by first | rfl | (simp; done) | (simp [*]; done)), H', ⟨by have := HJ5.out; have := HK2.out; omega⟩, ⟨by repeat (first | (with_reducible first | exact HB.out | apply below_alloc | apply pw_below_drewN | apply below_drew1) | exact HB.out)⟩⟩
                              · rw [if_neg c74] at H
                                have c74b0 : ((bt t209 x5_2) == (bt a0 x5_2)) = false := beq_eq_false_iff_ne.mpr c74
                                have c74b1 : ((bt t209 x5_2) != (bt a0 x5_2)) = true := bne_iff_ne.mpr c74
                                obtain rfl := Option.some.inj H
                                have p21 : 0 ≤ (x5_2 : Int) := of_decide_eq_true (by first | (with_reducible assumption) | assumption)
                                have q21 : x5_2 < (a0.size : Int) := of_decide_eq_true (by first | (with_reducible assumption) | assumption)
                                have hx21 := bt_at a0 x5_2
                                replace p21 := eq_true p21
                                replace q21 := eq_true q21
                                have p61 : 0 ≤ (x5_2 : Int) := of_decide_eq_true (by first | (with_reducible assumption) | assumption)
                                have q61 : x5_2 < (a0.size : Int) := of_decide_eq_true (by first | (with_reducible assumption) | assumption)
                                have hx61 := bt_at a0 x5_2
                                replace p61 := eq_true p61
                                replace q61 := eq_true q61
                                have p63 : 0 ≤ (x5_2 : Int) := of_decide_eq_true (by first | (with_reducible assumption) | assumption)
                                have q63 : x5_2 < (a0.size : Int) := of_decide_eq_true (by first | (with_reducible assumption) | assumption)
                                have hx63 := bt_at a0 x5_2
                                replace p63 := eq_true p63
                                replace q63 := eq_true q63
                                have p65 : 0 ≤ (x5_2 : Int) := of_decide_eq_true (by first | (with_reducible assumption) | assumption)
                                have q65 : x5_2 < (t208.size : Int) := of_decide_eq_true (by first | (with_reducible assumption) | assumption)
                                have hx65 := bt_at t208 x5_2
                                replace p65 := eq_true p65
                                replace q65 := eq_true q65
                                have p67 : 0 ≤ (x5_2 : Int) := of_decide_eq_true (by first | (with_reducible assumption) | assumption)
                                have q67 : x5_2 < (t209.size : Int) := of_decide_eq_true (by first | (with_reducible assumption) | assumption)
                                have hx67 := bt_at t209 x5_2
                                replace p67 := eq_true p67
                                replace q67 := eq_true q67
                                have p69 : 0 ≤ (x5_2 : Int) := of_decide_eq_true (by first | (with_reducible assumption) | assumption)
                                have q69 : x5_2 < (t208.size : Int) := of_decide_eq_true (by first | (with_reducible assumption) | assumption)
                                have hx69 := bt_at t208 x5_2
                                replace p69 := eq_true p69
                                replace q69 := eq_true q69
                                have p70 : 0 ≤ (x5_2 : Int) := of_decide_eq_true (by first | (with_reducible assumption) | assumption)
                                have q70 : x5_2 < (a0.size : Int) := of_decide_eq_true (by first | (with_reducible assumption) | assumption)
                                have hx70 := bt_at a0 x5_2
                                replace p70 := eq_true p70
                                replace q70 := eq_true q70
                                have p72 : 0 ≤ (x5_2 : Int) := of_decide_eq_true (by first | (with_reducible assumption) | assumption)
                                have q72 : x5_2 < (t209.size : Int) := of_decide_eq_true (by first | (with_reducible assumption) | assumption)
                                have hx72 := bt_at t209 x5_2
                                replace p72 := eq_true p72
                                replace q72 := eq_true q72
                                have p73 : 0 ≤ (x5_2 : Int) := of_decide_eq_true (by first | (with_reducible assumption) | assumption)
                                have q73 : x5_2 < (a0.size : Int) := of_decide_eq_true (by first | (with_reducible assumption) | assumption)
                                have hx73 := bt_at a0 x5_2
                                replace p73 := eq_true p73
                                replace q73 := eq_true q73
                                go_wp2
                                repeat (go_quiet (fail); try go_wp2)
                                go_ret
                                exact ⟨by first | rfl | (simp [errW_none, errW_some] <;> rfl) | (simp [*, errW_none, errW_some] <;> rfl), by repeat (first | (with_reducible first | exact HB.out | apply below_alloc | apply pw_below_drewN | apply below_drew1) | exact HB.out)⟩
                        · rw [if_neg c66] at H
                          exact absurd H (by simp)
                      · rw [if_neg c64] at H
                        exact absurd H (by simp)
                    · rw [if_neg c62] at H
                      have c62b0 : decide (65 ≤ (bt a0 x5_2)) = false := decide_eq_false c62
                      clear c62
                      by_cases c75 : x5_2 < (t208.size : Int)
                      · rw [if_pos c75] at H
                        have c75b0 : decide (x5_2 < (t208.size : Int)) = true := decide_eq_true c75
                        clear c75
                        by_cases c77 : x5_2 < (t209.size : Int)
                        · rw [if_pos c77] at H
                          have c77b0 : decide (x5_2 < (t209.size : Int)) = true := decide_eq_true c77
                          clear c77
                          by_cases c79 : (((bt t208 x5_2) != (bt t209 x5_2)) != false) = true
                          · rw [if_pos c79] at H
                            have c79b0 : (((bt t208 x5_2) != (bt t209 x5_2)) != false) = true := c79
                            (try (have c79b1 : decide (((bt t208 x5_2) != (bt t209 x5_2)) = false) = false := by simpa using c79))
                            (try (have c79b2 : (((bt t208 x5_2) != (bt t209 x5_2)) == false) = false := by simpa using c79))
                            (try (have c79b3 : ¬ (((bt t208 x5_2) != (bt t209 x5_2)) = false) := by simpa using c79))
                            clear c79
                            obtain rfl := Option.some.inj H
                            have p21 : 0 ≤ (x5_2 : Int) := of_decide_eq_true (by first | (with_reducible assumption) | assumption)
                            have q21 : x5_2 < (a0.size : Int) := of_decide_eq_true (by first | (with_reducible assumption) | assumption)
                            have hx21 := bt_at a0 x5_2
                            replace p21 := eq_true p21
                            replace q21 := eq_true q21
                            have p61 : 0 ≤ (x5_2 : Int) := of_decide_eq_true (by first | (with_reducible assumption) | assumption)
                            have q61 : x5_2 < (a0.size : Int) := of_decide_eq_true (by first | (with_reducible assumption) | assumption)
                            have hx61 := bt_at a0 x5_2
                            replace p61 := eq_true p61
                            replace q61 := eq_true q61
                            have p76 : 0 ≤ (x5_2 : Int) := of_decide_eq_true (by first | (with_reducible assumption) | assumption)
                            have q76 : x5_2 < (t208.size : Int) := of_decide_eq_true (by first | (with_reducible assumption) | assumption)
                            have hx76 := bt_at t208 x5_2
                            replace p76 := eq_true p76
                            replace q76 := eq_true q76
                            have p78 : 0 ≤ (x5_2 : Int) := of_decide_eq_true (by first | (with_reducible assumption) | assumption)
                            have q78 : x5_2 < (t209.size : Int) := of_decide_eq_true (by first | (with_reducible assumption) | assumption)
                            have hx78 := bt_at t209 x5_2
                            replace p78 := eq_true p78
                            replace q78 := eq_true q78
                            go_wp2
                            repeat (go_quiet (fail); try go_wp2)
                            go_ret
                            exact ⟨by first | rfl | (simp [errW_none, errW_some] <;> rfl) | (simp [*, errW_none, errW_some] <;> rfl), by repeat (first | (with_reducible first | exact HB.out | apply below_alloc | apply pw_below_drewN | apply below_drew1) | exact HB.out)⟩
                          · rw [if_neg c79] at H
                            have c79b0 : (((bt t208 x5_2) != (bt t209 x5_2)) != false) = false := by simpa using c79
                            (try (have c79b1 : decide (((bt t208 x5_2) != (bt t209 x5_2)) = false) = true := by simpa using c79))
                            (try (have c79b2 : (((bt t208 x5_2) != (bt t209 x5_2)) == false) = true := by simpa using c79))
                            clear c79
                            by_cases c82 : (bt t208 x5_2) = (bt a0 x5_2)
                            · rw [if_pos c82] at H
                              have c82b0 : ((bt t208 x5_2) == (bt a0 x5_2)) = true := beq_iff_eq.mpr c82
                              have c82b1 : ((bt t208 x5_2) != (bt a0 x5_2)) = false := bne_eq_false_iff_eq.mpr c82
                              clear c82
                              have H' := Aside0.mk H
                              clear H
                              have p21 : 0 ≤ (x5_2 : Int) := of_decide_eq_true (by first | (with_reducible assumption) | assumption)
                              have q21 : x5_2 < (a0.size : Int) := of_decide_eq_true (by first | (with_reducible assumption) | assumption)
                              have hx21 := bt_at a0 x5_2
                              replace p21 := eq_true p21
                              replace q21 := eq_true q21
                              have p61 : 0 ≤ (x5_2 : Int) := of_decide_eq_true (by first | (with_reducible assumption) | assumption)
                              have q61 : x5_2 < (a0.size : Int) := of_decide_eq_true (by first | (with_reducible assumption) | assumption)
                              have hx61 := bt_at a0 x5_2
                              replace p61 := eq_true p61
                              replace q61 := eq_true q61
                              have p76 : 0 ≤ (x5_2 : Int) := of_decide_eq_true (by first | (with_reducible assumption) | assumption)
                              have q76 : x5_2 < (t208.size : Int) := of_decide_eq_true (by first | (with_reducible assumption) | assumption)
                              have hx76 := bt_at t208 x5_2
                              replace p76 := eq_true p76
                              replace q76 := eq_true q76
                              have p78 : 0 ≤ (x5_2 : Int) := of_decide_eq_true (by first | (with_reducible assumption) | assumption)
                              have q78 : x5_2 < (t209.size : Int) := of_decide_eq_true (by first | (with_reducible assumption) | assumption)
                              have hx78 := bt_at t209 x5_2
                              replace p78 := eq_true p78
                              replace q78 := eq_true q78
                              have p80 : 0 ≤ (x5_2 : Int) := of_decide_eq_true (by first | (with_reducible assumption) | assumption)
                              have q80 : x5_2 < (t208.size : Int) := of_decide_eq_true (by first | (with_reducible assumption) | assumption)
                              have hx80 := bt_at t208 x5_2
                              replace p80 := eq_true p80
                              replace q80 := eq_true q80
                              have p81 : 0 ≤ (x5_2 : Int) := of_decide_eq_true (by first | (with_reducible assumption) | assumption)
                              have q81 : x5_2 < (a0.size : Int) := of_decide_eq_true (by first | (with_reducible assumption) | assumption)
                              have hx81 := bt_at a0 x5_2
                              replace p81 := eq_true p81
                              replace q81 := eq_true q81
                              go_wp2
                              repeat (go_quiet (fail); try go_wp2)
                              go_roundg k2
                              case measure => have := HJ5.out; have := HK2.out; omega
                              case rel => exact ⟨(wrap64 (x5_2 + 1)), (by first | rfl | (simp; done) | (simp [*]; done)), H', ⟨by have := HJ5.out; have := HK2.out; omega⟩, ⟨by repeat (first | (with_reducible first | exact HB.out | apply below_alloc | apply pw_below_drewN | apply below_drew1) | exact HB.out)⟩⟩
                            · rw [if_neg c82] at H
                              have c82b0 : ((bt t208 x5_2) == (bt a0 x5_2)) = false := beq_eq_false_iff_ne.mpr c82
                              have c82b1 : ((bt t208 x5_2) != (bt a0 x5_2)) = true := bne_iff_ne.mpr c82
                              by_cases c85 : (bt t209 x5_2) = (bt a0 x5_2)
                              · rw [if_pos c85] at H
                                have c85b0 : ((bt t209 x5_2) == (bt a0 x5_2)) = true := beq_iff_eq.mpr c85
                                have c85b1 : ((bt t209 x5_2) != (bt a0 x5_2)) = false := bne_eq_false_iff_eq.mpr c85
                                clear c85
                                have H' := Aside0.mk H
                                clear H
                                have p21 : 0 ≤ (x5_2 : Int) := of_decide_eq_true (by first | (with_reducible assumption) | assumption)
                                have q21 : x5_2 < (a0.size : Int) := of_decide_eq_true (by first | (with_reducible assumption) | assumption)
                                have hx21 := bt_at a0 x5_2
                                replace p21 := eq_true p21
                                replace q21 := eq_true q21
                                have p61 : 0 ≤ (x5_2 : Int) := of_decide_eq_true (by first | (with_reducible assumption) | assumption)
                                have q61 : x5_2 < (a0.size : Int) := of_decide_eq_true (by first | (with_reducible assumption) | assumption)
                                have hx61 := bt_at a0 x5_2
                                replace p61 := eq_true p61
                                replace q61 := eq_true q61
                                have p76 : 0 ≤ (x5_2 : Int) := of_decide_eq_true (by first | (with_reducible assumption) | assumption)
                                have q76 : x5_2 < (t208.size : Int) := of_decide_eq_true (by first | (with_reducible assumption) | assumption)
                                have hx76 := bt_at t208 x5_2
                                replace p76 := eq_true p76
                                replace q76 := eq_true q76
                                have p78 : 0 ≤ (x5_2 : Int) := of_decide_eq_true (by first | (with_reducible assumption) | assumption)
                                have q78 : x5_2 < (t209.size : Int) := of_decide_eq_true (by first | (with_reducible assumption) | assumption)
                                have hx78 := bt_at t209 x5_2
                                replace p78 := eq_true p78
                                replace q78 := eq_true q78
                                have p80 : 0 ≤ (x5_2 : Int) := of_decide_eq_true (by first | (with_reducible assumption) | assumption)
                                have q80 : x5_2 < (t208.size : Int) := of_decide_eq_true (by first | (with_reducible assumption) | assumption)
                                have hx80 := bt_at t208 x5_2
                                replace p80 := eq_true p80
                                replace q80 := eq_true q80
                                have p81 : 0 ≤ (x5_2 : Int) := of_decide_eq_true (by first | (with_reducible assumption) | assumption)
                                have q81 : x5_2 < (a0.size : Int) := of_decide_eq_true (by first | (with_reducible assumption) | assumption)
                                have hx81 := bt_at a0 x5_2
                                replace p81 := eq_true p81
                                replace q81 := eq_true q81
                                have p83 : 0 ≤ (x5_2 : Int) := of_decide_eq_true (by first | (with_reducible assumption) | assumption)
                                have q83 : x5_2 < (t209.size : Int) := of_decide_eq_true (by first | (with_reducible assumption) | assumption)
                                have hx83 := bt_at t209 x5_2
                                replace p83 := eq_true p83
                                replace q83 := eq_true q83
                                have p84 : 0 ≤ (x5_2 : Int) := of_decide_eq_true (by first | (with_reducible assumption) | assumption)
                                have q84 : x5_2 < (a0.size : Int) := of_decide_eq_true (by first | (with_reducible assumption) | assumption)
                                have hx84 := bt_at a0 x5_2
                                replace p84 := eq_true p84
                                replace q84 := eq_true q84
                                go_wp2
                                repeat (go_quiet (fail); try go_wp2)
                                go_roundg k2
                                case measure => have := HJ5.out; have := HK2.out; omega
                                case rel => exact ⟨(wrap64 (x5_2 + 1)), (by first | rfl | (simp; done) | (simp [*]; done)), H', ⟨by have := HJ5.out; have := HK2.out; omega⟩, ⟨by repeat (first | (with_reducible first | exact HB.out | apply below_alloc | apply pw_below_drewN | apply below_drew1) | exact HB.out)⟩⟩
                              · rw [if_neg c85] at H
                                have c85b0 : ((bt t209 x5_2) == (bt a0 x5_2)) = false := beq_eq_false_iff_ne.mpr c85
                                have c85b1 : ((bt t209 x5_2) != (bt a0 x5_2)) = true := bne_iff_ne.mpr c85
                                obtain rfl := Option.some.inj H
                                have p21 : 0 ≤ (x5_2 : Int) := of_decide_eq_true (by first | (with_reducible assumption) | assumption)
                                have q21 : x5_2 < (a0.size : Int) := of_decide_eq_true (by first | (with_reducible assumption) | assumption)
                                have hx21 := bt_at a0 x5_2
                                replace p21 := eq_true p21
                                replace q21 := eq_true q21
                                have p61 : 0 ≤ (x5_2 : Int) := of_decide_eq_true (by first | (with_reducible assumption) | assumption)
                                have q61 : x5_2 < (a0.size : Int) := of_decide_eq_true (by first | (with_reducible assumption) | assumption)
                                have hx61 := bt_at a0 x5_2
                                replace p61 := eq_true p61
                                replace q61 := eq_true q61
                                have p76 : 0 ≤ (x5_2 : Int) := of_decide_eq_true (by first | (with_reducible assumption) | assumption)
                                have q76 : x5_2 < (t208.size : Int) := of_decide_eq_true (by first | (with_reducible assumption) | assumption)
                                have hx76 := bt_at t208 x5_2
                                replace p76 := eq_true p76
                                replace q76 := eq_true q76
                                have p78 : 0 ≤ (x5_2 : Int) := of_decide_eq_true (by first | (with_reducible assumption) | assumption)
                                have q78 : x5_2 < (t209.size : Int) := of_decide_eq_true (by first | (with_reducible assumption) | assumption)
                                have hx78 := bt_at t209 x5_2
                                replace p78 := eq_true p78
                                replace q78 := eq_true q78
                                have p80 : 0 ≤ (x5_2 : Int) := of_decide_eq_true (by first | (with_reducible assumption) | assumption)
                                have q80 : x5_2 < (t208.size : Int) := of_decide_eq_true (by first | (with_reducible assumption) | assumption)
                                have hx80 := bt_at t208 x5_2
                                replace p80 := eq_true p80
                                replace q80 := eq_true q80
                                have p81 : 0 ≤ (x5_2 : Int) := of_decide_eq_true (by first | (with_reducible assumption) | assumption)
                                have q81 : x5_2 < (a0.size : Int) := of_decide_eq_true (by first | (with_reducible assumption) | assumption)
                                have hx81 := bt_at a0 x5_2
                                replace p81 := eq_true p81
                                replace q81 := eq_true q81
                                have p83 : 0 ≤ (x5_2 : Int) := of_decide_eq_true (by first | (with_reducible assumption) | assumption)
                                have q83 : x5_2 < (t209.size : Int) := of_decide_eq_true (by first | (with_reducible assumption) | assumption)
                                have hx83 := bt_at t209 x5_2
                                replace p83 := eq_true p83
                                replace q83 := eq_true q83
                                have p84 : 0 ≤ (x5_2 : Int) := of_decide_eq_true (by first | (with_reducible assumption) | assumption)
                                have q84 : x5_2 < (a0.size : Int) := of_decide_eq_true (by first | (with_reducible assumption) | assumption)
                                have hx84 := bt_at a0 x5_2
                                replace p84 := eq_true p84
                                replace q84 := eq_true q84
                                go_wp2
                                repeat (go_quiet (fail); try go_wp2)
                                go_ret
                                exact ⟨by first | rfl | (simp [errW_none, errW_some] <;> rfl) | (simp [*, errW_none, errW_some] <;> rfl), by repeat (first | (with_reducible first | exact HB.out | apply below_alloc | apply pw_below_drewN | apply below_drew1) | exact HB.out)⟩
                        · rw [if_neg c77] at H
                          exact absurd H (by simp)
                      · rw [if_neg c75] at H
                        exact absurd H (by simp)
                · rw [if_neg c20] at H
                  exact absurd H (by simp)
              · rw [if_neg c19] at H
                have c19b0 : decide (x5_2 < (a0.size : Int)) = false := decide_eq_false c19
                clear c19
                obtain rfl := Option.some.inj H
                go_wp2
                repeat (go_quiet (fail); try go_wp2)
                go_ret
                exact ⟨by first | rfl | (simp [errW_none, errW_some] <;> rfl) | (simp [*, errW_none, errW_some] <;> rfl), by repeat (first | (with_reducible first | exact HB.out | apply below_alloc | apply pw_below_drewN | apply below_drew1) | exact HB.out)⟩
  · replace c3 := Bool.eq_false_iff.mpr c3
    subst c3
    have H1 : (some false) = some r := by rw [if_neg (show ¬ (false = true) by decide)] at H; exact H
    clear H
    have H := H1
    clear H1
    obtain rfl := Option.some.inj H
    go_enter Tryd.func7, Tryd.ntmps7
    go_wp2_with (first | (go_at_call 17; (with_reducible refine (hallmarklaw02_fixed.calls k  false _ ?side1 A2.out).mono ?_); (case side1 => exact Tabs.below HTab_.out (by repeat (first | (with_reducible first | exact HB.out | apply below_alloc | apply pw_below_drewN | apply below_drew1) | exact HB.out))); rintro e w86 ⟨rfl, hb⟩; have n0_ := Aside0.mk (below_step (by repeat (first | (with_reducible first | exact HB.out | apply below_alloc | apply pw_below_drewN | apply below_drew1) | exact HB.out)) hb); clear HB; have HB := n0_; clear n0_; (try clear hb); (try clear hb2); (try clear hk); (try clear hi)))
    repeat (go_quiet (first | (go_at_call 17; (with_reducible refine (hallmarklaw02_fixed.calls k  false _ ?side1 A2.out).mono ?_); (case side1 => exact Tabs.below HTab_.out (by repeat (first | (with_reducible first | exact HB.out | apply below_alloc | apply pw_below_drewN | apply below_drew1) | exact HB.out))); rintro e w86 ⟨rfl, hb⟩; have n0_ := Aside0.mk (below_step (by repeat (first | (with_reducible first | exact HB.out | apply below_alloc | apply pw_below_drewN | apply below_drew1) | exact HB.out)) hb); clear HB; have HB := n0_; clear n0_; (try clear hb); (try clear hb2); (try clear hk); (try clear hi))); try go_wp2_with (first | (go_at_call 17; (with_reducible refine (hallmarklaw02_fixed.calls k  false _ ?side1 A2.out).mono ?_); (case side1 => exact Tabs.below HTab_.out (by repeat (first | (with_reducible first | exact HB.out | apply below_alloc | apply pw_below_drewN | apply below_drew1) | exact HB.out))); rintro e w86 ⟨rfl, hb⟩; have n0_ := Aside0.mk (below_step (by repeat (first | (with_reducible first | exact HB.out | apply below_alloc | apply pw_below_drewN | apply below_drew1) | exact HB.out)) hb); clear HB; have HB := n0_; clear n0_; (try clear hb); (try clear hb2); (try clear hk); (try clear hi))))
    go_ret
    exact ⟨by first | rfl | (simp [errW_none, errW_some] <;> rfl) | (simp [*, errW_none, errW_some] <;> rfl), by repeat (first | (with_reducible first | exact HB.out | apply below_alloc | apply pw_below_drewN | apply below_drew1) | exact HB.out)⟩

end Go.Proofs.YtfkianfddjccgaaDoor.U

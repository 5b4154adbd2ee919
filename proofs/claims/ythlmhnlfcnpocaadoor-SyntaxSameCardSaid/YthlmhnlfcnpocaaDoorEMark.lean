/- The contract of the scanner's mark: the longest mark, or what a bracket turns. -/
import Derived.Test.YthlmhnlfcnpocaaDoorScanA
import Derived.Test.YthlmhnlfcnpocaaDoorEContains
import Derived.Deep.QuietTactic
import Derived.Deep.RegionWith
import Derived.IntWalk
namespace Go.Proofs.YthlmhnlfcnpocaaDoor.U
open Go.RowKit Go.Proofs.YthlmhnlfcnpocaaDoorW.PrintWords
set_option linter.unusedSimpArgs false
set_option linter.unusedVariables false

abbrev onesT : ByteArray := ⟨#[124, 44, 61, 60, 62, 43, 45, 42, 47, 37, 46, 40, 41, 91, 93, 123, 125, 58, 59, 63]⟩
abbrev twosT : ByteArray := ⟨#[32, 46, 46, 32, 124, 61, 32, 43, 61, 32, 45, 61, 32, 42, 61, 32, 47, 61, 32, 37, 61, 32, 61, 61, 32, 33, 61, 32, 60, 61, 32, 62, 61, 32, 47, 47, 32]⟩
def mk3 (t : ByteArray) : Bool := Lib.hasPrefix t.data.toList [47, 47, 61]
def mk2 (t : ByteArray) : Bool := Lib.contains twosT.data.toList (((⟨#[32]⟩ : ByteArray) ++ t.extract 0 2) ++ (⟨#[32]⟩ : ByteArray)).data.toList
def mk1 (c : Int) : Bool := decide (0 ≤ Lib.indexByte onesT.data.toList c.toNat.toUInt8)
/-- how long the mark is that a text begins with; 0: none -/
def markSz (t : ByteArray) : Nat := if mk3 t = true then 3 else if 1 < t.size ∧ mk2 t = true then 2 else if mk1 (bt t 0) = true then 1 else 0

/-- the mark that stands at a place -/
def markR (s : ByteArray) (i : Nat) (op : List Int) : OneR :=
  if markSz (s.extract i s.size) = 0 then ⟨160, i, 0, ⟨#[]⟩, op⟩
  else if op = [] ∨ markSz (s.extract i s.size) ≠ 1 then ⟨0, i + markSz (s.extract i s.size), 10, (s.extract i s.size).extract 0 (markSz (s.extract i s.size)), op⟩
  else if bt s (i : Int) = 40 then ⟨0, i + 1, 10, (s.extract i s.size).extract 0 1, op.set (op.length - 1) (op.getD (op.length - 1) 0 + 1)⟩
  else if bt s (i : Int) = 41 then
    if op.getD (op.length - 1) 0 = 0 then pieceR 9 8 op.dropLast op (pieceZ s s.size (i + 1) [])
    else ⟨0, i + 1, 10, (s.extract i s.size).extract 0 1, op.set (op.length - 1) (op.getD (op.length - 1) 0 - 1)⟩
  else ⟨0, i + 1, 10, (s.extract i s.size).extract 0 1, op⟩

theorem hasPrefix_le' {l p : List UInt8} (h : Lib.hasPrefix l p = true) : p.length ≤ l.length := by
  unfold Lib.hasPrefix at h
  exact (List.isPrefixOf_iff_prefix.1 h).length_le
theorem contains_f (t : ByteArray) : strings_Contains.f twosT (((⟨#[32]⟩ : ByteArray) ++ t.extract 0 2) ++ (⟨#[32]⟩ : ByteArray)) = some (mk2 t) := if_pos (Or.inr (by decide))

set_option maxHeartbeats 8000000 in
set_option maxRecDepth 100000 in
theorem mark_none_long {B b : Nat} {s t : ByteArray} {c : Int} {toks : List Tok} {op : List Int} {vt vo : Value} (W : World) (i : Nat) (hi : i < s.size) (hs : s.size ≤ 1073741824) (ht : toks.length ≤ i) (hol : op.length ≤ i) (hext : s.extract i s.size = t) (hts : t.size + i = s.size) (hc : ∀ h : 0 < t.size, ((t[0]'h).toNat : Int) = c) (h3 : Lib.hasPrefix t.data.toList (⟨#[47, 47, 61]⟩ : ByteArray).data.toList = false) (h2 : 1 < t.size) (HC : Hid (strings_Contains.f twosT (((⟨#[32]⟩ : ByteArray) ++ t.extract 0 2) ++ (⟨#[32]⟩ : ByteArray)) = some false)) (x : Int) (hix : Lib.indexByte onesT.data.toList c.toNat.toUInt8 = x) (hx : ¬ 0 ≤ x) (h : Sc B b s i toks op 0 0 vt vo W) (hT : Tabs W) :
    Calls Tryd.prog 41 #[.pointer (some ⟨b, 0, none⟩)] W fun r w' => r = .returned (.tuple #[]) ∧ OneEnd B b s i toks op ⟨160, i, 0, ⟨#[]⟩, op⟩ w' ∧ Below B W w' := by
  have c0 := h.c0
  have c1 := h.c1
  have c3 := h.c3
  have hlow := h.low
  have hlt := h.lt
  have hi0 : (0 : Int) ≤ (i : Int) := by omega
  have hi1 : (i : Int) ≤ (s.size : Int) := by omega
  have HT := Lib.hid hT
  clear hT
  have H := Lib.hid h
  clear h
  have ht0 : 0 < t.size := by omega
  have hc' := hc ht0
  clear hc
  go_enter Tryd.func41, Tryd.ntmps41
  go_wp2_with fail
  go_quiet (fail)
  all_goals
    go_wp2_with (first
      | (go_at_call 52; (with_reducible refine (Tryd.strings_HasPrefix t _ _).mono ?_); rintro e0 w2 ⟨rfl, hw2⟩; obtain rfl := hw2.symm; rw [h3])
      | (go_at_call 56; (with_reducible refine (strings_Contains.calls _ _ _ _ (by exact Tabs.of_heap HT.out rfl) HC.out).mono ?_); rintro e0 w2 ⟨rfl, ⟨nc, rfl⟩⟩)
      | (go_at_call 57; (with_reducible refine (Tryd.strings_IndexByte _ c _).mono ?_); rintro e0 w2 ⟨rfl, hw2⟩; obtain rfl := hw2.symm; rw [hix])
      | (go_at_call 37; (with_reducible refine (fail_calls _ 160 i (H.out.below (by repeat (first | exact Below.refl _ _ | apply pw_below_drewN)))).mono ?_); rintro e0 w5 ⟨rfl, S5, hb5⟩))
    refine bodyPost_ret (results_none rfl _ _ _) rfl ?_
    exact ⟨rfl, Or.inr ⟨by show (160 : Int) ≠ 0; decide, _, _, S5⟩, Below.trans (by repeat (first | exact Below.refl _ _ | apply pw_below_drewN)) hb5⟩

set_option maxHeartbeats 8000000 in
set_option maxRecDepth 100000 in
theorem mark_none_short {B b : Nat} {s t : ByteArray} {c : Int} {toks : List Tok} {op : List Int} {vt vo : Value} (W : World) (i : Nat) (hi : i < s.size) (hs : s.size ≤ 1073741824) (ht : toks.length ≤ i) (hol : op.length ≤ i) (hext : s.extract i s.size = t) (hts : t.size + i = s.size) (hc : ∀ h : 0 < t.size, ((t[0]'h).toNat : Int) = c) (h3 : Lib.hasPrefix t.data.toList (⟨#[47, 47, 61]⟩ : ByteArray).data.toList = false) (h2 : ¬ 1 < t.size) (x : Int) (hix : Lib.indexByte onesT.data.toList c.toNat.toUInt8 = x) (hx : ¬ 0 ≤ x) (h : Sc B b s i toks op 0 0 vt vo W) (hT : Tabs W) :
    Calls Tryd.prog 41 #[.pointer (some ⟨b, 0, none⟩)] W fun r w' => r = .returned (.tuple #[]) ∧ OneEnd B b s i toks op ⟨160, i, 0, ⟨#[]⟩, op⟩ w' ∧ Below B W w' := by
  have c0 := h.c0
  have c1 := h.c1
  have c3 := h.c3
  have hlow := h.low
  have hlt := h.lt
  have hi0 : (0 : Int) ≤ (i : Int) := by omega
  have hi1 : (i : Int) ≤ (s.size : Int) := by omega
  have HT := Lib.hid hT
  clear hT
  have H := Lib.hid h
  clear h
  have ht0 : 0 < t.size := by omega
  have hc' := hc ht0
  clear hc
  go_enter Tryd.func41, Tryd.ntmps41
  go_wp2_with fail
  go_quiet (fail)
  all_goals
    go_wp2_with (first
      | (go_at_call 52; (with_reducible refine (Tryd.strings_HasPrefix t _ _).mono ?_); rintro e0 w2 ⟨rfl, hw2⟩; obtain rfl := hw2.symm; rw [h3])
      | (go_at_call 57; (with_reducible refine (Tryd.strings_IndexByte _ c _).mono ?_); rintro e0 w2 ⟨rfl, hw2⟩; obtain rfl := hw2.symm; rw [hix])
      | (go_at_call 37; (with_reducible refine (fail_calls _ 160 i (H.out.below (by repeat (first | exact Below.refl _ _ | apply pw_below_drewN)))).mono ?_); rintro e0 w5 ⟨rfl, S5, hb5⟩))
    refine bodyPost_ret (results_none rfl _ _ _) rfl ?_
    exact ⟨rfl, Or.inr ⟨by show (160 : Int) ≠ 0; decide, _, _, S5⟩, Below.trans (by repeat (first | exact Below.refl _ _ | apply pw_below_drewN)) hb5⟩

set_option maxHeartbeats 8000000 in
set_option maxRecDepth 100000 in
theorem mark_three {B b : Nat} {s t : ByteArray} {c : Int} {toks : List Tok} {op : List Int} {vt vo : Value} (W : World) (i : Nat) (hi : i < s.size) (hs : s.size ≤ 1073741824) (ht : toks.length ≤ i) (hol : op.length ≤ i) (hext : s.extract i s.size = t) (hts : t.size + i = s.size) (hc : ∀ h : 0 < t.size, ((t[0]'h).toNat : Int) = c) (h3 : Lib.hasPrefix t.data.toList (⟨#[47, 47, 61]⟩ : ByteArray).data.toList = true) (hz : 3 ≤ t.size) (hop : op = []) (h : Sc B b s i toks op 0 0 vt vo W) (hT : Tabs W) :
    Calls Tryd.prog 41 #[.pointer (some ⟨b, 0, none⟩)] W fun r w' => r = .returned (.tuple #[]) ∧ OneEnd B b s i toks op ⟨0, i + 3, 10, t.extract 0 3, op⟩ w' ∧ Below B W w' := by
  have c0 := h.c0
  have c1 := h.c1
  have c3 := h.c3
  have hlow := h.low
  have hlt := h.lt
  have hi0 : (0 : Int) ≤ (i : Int) := by omega
  have hi1 : (i : Int) ≤ (s.size : Int) := by omega
  have HT := Lib.hid hT
  clear hT
  obtain ⟨A, cp, rfl⟩ := own_slice h.opn
  subst hop
  have H := Lib.hid h
  clear h
  have ht0 : 0 < t.size := by omega
  have hc' := hc ht0
  clear hc
  go_enter Tryd.func41, Tryd.ntmps41
  go_wp2_with fail
  go_quiet (fail)
  all_goals
    go_wp2_with (first
      | (go_at_call 52; (with_reducible refine (Tryd.strings_HasPrefix t _ _).mono ?_); rintro e0 w2 ⟨rfl, hw2⟩; obtain rfl := hw2.symm; rw [h3]))
    have hlen : (toks.length + 1) * 40 ≤ 140737488355328 := by omega
    have hcall := fun (k : Nat) => token_calls (W.drewN k) 10 ((i : Int) + 3) (t.extract 0 3) (Sc.of_heap (W := W) (W1 := W.drewN k) rfl H.out) hlen
    have HW : Hid (IntKind.i64.wrap ((i : Int) + 3) = (i : Int) + 3) := IntWalk.i64_in _ (by omega)
    clear hlen
    go_region_with
      (((try rw [HW.out]); refine (hcall _).mono ?_; rintro e0 w5 ⟨rfl, v5, S5, hb5⟩))
    all_goals
      go_wp2
      go_end0
      exact ⟨rfl, Or.inl ⟨rfl, v5, _, S5⟩, Below.trans (by repeat (first | exact Below.refl _ _ | apply pw_below_drewN)) hb5⟩

set_option maxHeartbeats 8000000 in
set_option maxRecDepth 100000 in
theorem mark_three_in {B b : Nat} {s t : ByteArray} {c : Int} {toks : List Tok} {op : List Int} {vt vo : Value} (W : World) (i : Nat) (hi : i < s.size) (hs : s.size ≤ 1073741824) (ht : toks.length ≤ i) (hol : op.length ≤ i) (hext : s.extract i s.size = t) (hts : t.size + i = s.size) (hc : ∀ h : 0 < t.size, ((t[0]'h).toNat : Int) = c) (h3 : Lib.hasPrefix t.data.toList (⟨#[47, 47, 61]⟩ : ByteArray).data.toList = true) (hz : 3 ≤ t.size) (m : Nat) (hm : op.length = m + 1) (h : Sc B b s i toks op 0 0 vt vo W) (hT : Tabs W) :
    Calls Tryd.prog 41 #[.pointer (some ⟨b, 0, none⟩)] W fun r w' => r = .returned (.tuple #[]) ∧ OneEnd B b s i toks op ⟨0, i + 3, 10, t.extract 0 3, op⟩ w' ∧ Below B W w' := by
  have c0 := h.c0
  have c1 := h.c1
  have c3 := h.c3
  have hlow := h.low
  have hlt := h.lt
  have hi0 : (0 : Int) ≤ (i : Int) := by omega
  have hi1 : (i : Int) ≤ (s.size : Int) := by omega
  have HT := Lib.hid hT
  clear hT
  obtain ⟨g, cp, rfl, hcap, hcell, hfz, hBg⟩ := h.lastOpen hm
  have c3 : W.cell? ⟨b, 3, none⟩ = some (.slice (some ⟨g, 0, none⟩) (m + 1) cp) := by
    rw [← hm]
    exact h.c3
  have hm0 : (0 : Int) ≤ (m : Int) := by omega
  have hm1 : (m : Int) < ((m + 1 : Nat) : Int) := by omega
  have H := Lib.hid h
  clear h
  have ht0 : 0 < t.size := by omega
  have hc' := hc ht0
  clear hc
  go_enter Tryd.func41, Tryd.ntmps41
  go_wp2_with fail
  go_quiet (fail)
  all_goals
    go_wp2_with (first
      | (go_at_call 52; (with_reducible refine (Tryd.strings_HasPrefix t _ _).mono ?_); rintro e0 w2 ⟨rfl, hw2⟩; obtain rfl := hw2.symm; rw [h3]))
    have hlen : (toks.length + 1) * 40 ≤ 140737488355328 := by omega
    have hcall := fun (k : Nat) => token_calls (W.drewN k) 10 ((i : Int) + 3) (t.extract 0 3) (Sc.of_heap (W := W) (W1 := W.drewN k) rfl H.out) hlen
    have HW : Hid (IntKind.i64.wrap ((i : Int) + 3) = (i : Int) + 3) := IntWalk.i64_in _ (by omega)
    clear hlen
    go_region_with
      (((try rw [HW.out]); refine (hcall _).mono ?_; rintro e0 w5 ⟨rfl, v5, S5, hb5⟩))
    all_goals
      go_wp2
      go_end0
      exact ⟨rfl, Or.inl ⟨rfl, v5, _, S5⟩, Below.trans (by repeat (first | exact Below.refl _ _ | apply pw_below_drewN)) hb5⟩

set_option maxHeartbeats 8000000 in
set_option maxRecDepth 100000 in
theorem mark_two {B b : Nat} {s t : ByteArray} {c : Int} {toks : List Tok} {op : List Int} {vt vo : Value} (W : World) (i : Nat) (hi : i < s.size) (hs : s.size ≤ 1073741824) (ht : toks.length ≤ i) (hol : op.length ≤ i) (hext : s.extract i s.size = t) (hts : t.size + i = s.size) (hc : ∀ h : 0 < t.size, ((t[0]'h).toNat : Int) = c) (h3 : Lib.hasPrefix t.data.toList (⟨#[47, 47, 61]⟩ : ByteArray).data.toList = false) (h2 : 1 < t.size) (HC : Hid (strings_Contains.f twosT (((⟨#[32]⟩ : ByteArray) ++ t.extract 0 2) ++ (⟨#[32]⟩ : ByteArray)) = some true)) (hop : op = []) (h : Sc B b s i toks op 0 0 vt vo W) (hT : Tabs W) :
    Calls Tryd.prog 41 #[.pointer (some ⟨b, 0, none⟩)] W fun r w' => r = .returned (.tuple #[]) ∧ OneEnd B b s i toks op ⟨0, i + 2, 10, t.extract 0 2, op⟩ w' ∧ Below B W w' := by
  have c0 := h.c0
  have c1 := h.c1
  have c3 := h.c3
  have hlow := h.low
  have hlt := h.lt
  have hi0 : (0 : Int) ≤ (i : Int) := by omega
  have hi1 : (i : Int) ≤ (s.size : Int) := by omega
  have HT := Lib.hid hT
  clear hT
  obtain ⟨A, cp, rfl⟩ := own_slice h.opn
  subst hop
  have H := Lib.hid h
  clear h
  have ht0 : 0 < t.size := by omega
  have hc' := hc ht0
  clear hc
  go_enter Tryd.func41, Tryd.ntmps41
  go_wp2_with fail
  go_quiet (fail)
  all_goals
    go_wp2_with (first
      | (go_at_call 52; (with_reducible refine (Tryd.strings_HasPrefix t _ _).mono ?_); rintro e0 w2 ⟨rfl, hw2⟩; obtain rfl := hw2.symm; rw [h3])
      | (go_at_call 56; (with_reducible refine (strings_Contains.calls _ _ _ _ (by exact Tabs.of_heap HT.out rfl) HC.out).mono ?_); rintro e0 w2 ⟨rfl, ⟨nc, rfl⟩⟩))
    have hlen : (toks.length + 1) * 40 ≤ 140737488355328 := by omega
    have hcall := fun (k : Nat) => token_calls (W.drewN k) 10 ((i : Int) + 2) (t.extract 0 2) (Sc.of_heap (W := W) (W1 := W.drewN k) rfl H.out) hlen
    have HW : Hid (IntKind.i64.wrap ((i : Int) + 2) = (i : Int) + 2) := IntWalk.i64_in _ (by omega)
    clear hlen
    go_region_with
      (((try rw [HW.out]); refine (hcall _).mono ?_; rintro e0 w5 ⟨rfl, v5, S5, hb5⟩))
    all_goals
      go_wp2
      go_end0
      exact ⟨rfl, Or.inl ⟨rfl, v5, _, S5⟩, Below.trans (by repeat (first | exact Below.refl _ _ | apply pw_below_drewN)) hb5⟩

set_option maxHeartbeats 8000000 in
set_option maxRecDepth 100000 in
theorem mark_two_in {B b : Nat} {s t : ByteArray} {c : Int} {toks : List Tok} {op : List Int} {vt vo : Value} (W : World) (i : Nat) (hi : i < s.size) (hs : s.size ≤ 1073741824) (ht : toks.length ≤ i) (hol : op.length ≤ i) (hext : s.extract i s.size = t) (hts : t.size + i = s.size) (hc : ∀ h : 0 < t.size, ((t[0]'h).toNat : Int) = c) (h3 : Lib.hasPrefix t.data.toList (⟨#[47, 47, 61]⟩ : ByteArray).data.toList = false) (h2 : 1 < t.size) (HC : Hid (strings_Contains.f twosT (((⟨#[32]⟩ : ByteArray) ++ t.extract 0 2) ++ (⟨#[32]⟩ : ByteArray)) = some true)) (m : Nat) (hm : op.length = m + 1) (h : Sc B b s i toks op 0 0 vt vo W) (hT : Tabs W) :
    Calls Tryd.prog 41 #[.pointer (some ⟨b, 0, none⟩)] W fun r w' => r = .returned (.tuple #[]) ∧ OneEnd B b s i toks op ⟨0, i + 2, 10, t.extract 0 2, op⟩ w' ∧ Below B W w' := by
  have c0 := h.c0
  have c1 := h.c1
  have c3 := h.c3
  have hlow := h.low
  have hlt := h.lt
  have hi0 : (0 : Int) ≤ (i : Int) := by omega
  have hi1 : (i : Int) ≤ (s.size : Int) := by omega
  have HT := Lib.hid hT
  clear hT
  obtain ⟨g, cp, rfl, hcap, hcell, hfz, hBg⟩ := h.lastOpen hm
  have c3 : W.cell? ⟨b, 3, none⟩ = some (.slice (some ⟨g, 0, none⟩) (m + 1) cp) := by
    rw [← hm]
    exact h.c3
  have hm0 : (0 : Int) ≤ (m : Int) := by omega
  have hm1 : (m : Int) < ((m + 1 : Nat) : Int) := by omega
  have H := Lib.hid h
  clear h
  have ht0 : 0 < t.size := by omega
  have hc' := hc ht0
  clear hc
  go_enter Tryd.func41, Tryd.ntmps41
  go_wp2_with fail
  go_quiet (fail)
  all_goals
    go_wp2_with (first
      | (go_at_call 52; (with_reducible refine (Tryd.strings_HasPrefix t _ _).mono ?_); rintro e0 w2 ⟨rfl, hw2⟩; obtain rfl := hw2.symm; rw [h3])
      | (go_at_call 56; (with_reducible refine (strings_Contains.calls _ _ _ _ (by exact Tabs.of_heap HT.out rfl) HC.out).mono ?_); rintro e0 w2 ⟨rfl, ⟨nc, rfl⟩⟩))
    have hlen : (toks.length + 1) * 40 ≤ 140737488355328 := by omega
    have hcall := fun (k : Nat) => token_calls (W.drewN k) 10 ((i : Int) + 2) (t.extract 0 2) (Sc.of_heap (W := W) (W1 := W.drewN k) rfl H.out) hlen
    have HW : Hid (IntKind.i64.wrap ((i : Int) + 2) = (i : Int) + 2) := IntWalk.i64_in _ (by omega)
    clear hlen
    go_region_with
      (((try rw [HW.out]); refine (hcall _).mono ?_; rintro e0 w5 ⟨rfl, v5, S5, hb5⟩))
    all_goals
      go_wp2
      go_end0
      exact ⟨rfl, Or.inl ⟨rfl, v5, _, S5⟩, Below.trans (by repeat (first | exact Below.refl _ _ | apply pw_below_drewN)) hb5⟩

set_option maxHeartbeats 8000000 in
set_option maxRecDepth 100000 in
theorem mark_one_long {B b : Nat} {s t : ByteArray} {c : Int} {toks : List Tok} {op : List Int} {vt vo : Value} (W : World) (i : Nat) (hi : i < s.size) (hs : s.size ≤ 1073741824) (ht : toks.length ≤ i) (hol : op.length ≤ i) (hext : s.extract i s.size = t) (hts : t.size + i = s.size) (hc : ∀ h : 0 < t.size, ((t[0]'h).toNat : Int) = c) (h3 : Lib.hasPrefix t.data.toList (⟨#[47, 47, 61]⟩ : ByteArray).data.toList = false) (h2 : 1 < t.size) (HC : Hid (strings_Contains.f twosT (((⟨#[32]⟩ : ByteArray) ++ t.extract 0 2) ++ (⟨#[32]⟩ : ByteArray)) = some false)) (x : Int) (hix : Lib.indexByte onesT.data.toList c.toNat.toUInt8 = x) (hx : 0 ≤ x) (hop : op = []) (h : Sc B b s i toks op 0 0 vt vo W) (hT : Tabs W) :
    Calls Tryd.prog 41 #[.pointer (some ⟨b, 0, none⟩)] W fun r w' => r = .returned (.tuple #[]) ∧ OneEnd B b s i toks op ⟨0, i + 1, 10, t.extract 0 1, op⟩ w' ∧ Below B W w' := by
  have c0 := h.c0
  have c1 := h.c1
  have c3 := h.c3
  have hlow := h.low
  have hlt := h.lt
  have hi0 : (0 : Int) ≤ (i : Int) := by omega
  have hi1 : (i : Int) ≤ (s.size : Int) := by omega
  have HT := Lib.hid hT
  clear hT
  obtain ⟨A, cp, rfl⟩ := own_slice h.opn
  subst hop
  have H := Lib.hid h
  clear h
  have ht0 : 0 < t.size := by omega
  have hc' := hc ht0
  clear hc
  go_enter Tryd.func41, Tryd.ntmps41
  go_wp2_with fail
  go_quiet (fail)
  all_goals
    go_wp2_with (first
      | (go_at_call 52; (with_reducible refine (Tryd.strings_HasPrefix t _ _).mono ?_); rintro e0 w2 ⟨rfl, hw2⟩; obtain rfl := hw2.symm; rw [h3])
      | (go_at_call 56; (with_reducible refine (strings_Contains.calls _ _ _ _ (by exact Tabs.of_heap HT.out rfl) HC.out).mono ?_); rintro e0 w2 ⟨rfl, ⟨nc, rfl⟩⟩)
      | (go_at_call 57; (with_reducible refine (Tryd.strings_IndexByte _ c _).mono ?_); rintro e0 w2 ⟨rfl, hw2⟩; obtain rfl := hw2.symm; rw [hix]))
    have hlen : (toks.length + 1) * 40 ≤ 140737488355328 := by omega
    have hcall := fun (k : Nat) => token_calls (W.drewN k) 10 ((i : Int) + 1) (t.extract 0 1) (Sc.of_heap (W := W) (W1 := W.drewN k) rfl H.out) hlen
    have HW : Hid (IntKind.i64.wrap ((i : Int) + 1) = (i : Int) + 1) := IntWalk.i64_in _ (by omega)
    clear hlen
    go_region_with
      (((try rw [HW.out]); refine (hcall _).mono ?_; rintro e0 w5 ⟨rfl, v5, S5, hb5⟩))
    all_goals
      go_wp2
      go_end0
      exact ⟨rfl, Or.inl ⟨rfl, v5, _, S5⟩, Below.trans (by repeat (first | exact Below.refl _ _ | apply pw_below_drewN)) hb5⟩

set_option maxHeartbeats 8000000 in
set_option maxRecDepth 100000 in
theorem mark_one_in_long {B b : Nat} {s t : ByteArray} {c : Int} {toks : List Tok} {op : List Int} {vt vo : Value} (W : World) (i : Nat) (hi : i < s.size) (hs : s.size ≤ 1073741824) (ht : toks.length ≤ i) (hol : op.length ≤ i) (hext : s.extract i s.size = t) (hts : t.size + i = s.size) (hc : ∀ h : 0 < t.size, ((t[0]'h).toNat : Int) = c) (h3 : Lib.hasPrefix t.data.toList (⟨#[47, 47, 61]⟩ : ByteArray).data.toList = false) (h2 : 1 < t.size) (HC : Hid (strings_Contains.f twosT (((⟨#[32]⟩ : ByteArray) ++ t.extract 0 2) ++ (⟨#[32]⟩ : ByteArray)) = some false)) (x : Int) (hix : Lib.indexByte onesT.data.toList c.toNat.toUInt8 = x) (hx : 0 ≤ x) (m : Nat) (hm : op.length = m + 1) (n40 : ¬ c = 40) (n41 : ¬ c = 41) (h : Sc B b s i toks op 0 0 vt vo W) (hT : Tabs W) :
    Calls Tryd.prog 41 #[.pointer (some ⟨b, 0, none⟩)] W fun r w' => r = .returned (.tuple #[]) ∧ OneEnd B b s i toks op ⟨0, i + 1, 10, t.extract 0 1, op⟩ w' ∧ Below B W w' := by
  have c0 := h.c0
  have c1 := h.c1
  have c3 := h.c3
  have hlow := h.low
  have hlt := h.lt
  have hi0 : (0 : Int) ≤ (i : Int) := by omega
  have hi1 : (i : Int) ≤ (s.size : Int) := by omega
  have HT := Lib.hid hT
  clear hT
  obtain ⟨g, cp, rfl, hcap, hcell, hfz, hBg⟩ := h.lastOpen hm
  have c3 : W.cell? ⟨b, 3, none⟩ = some (.slice (some ⟨g, 0, none⟩) (m + 1) cp) := by
    rw [← hm]
    exact h.c3
  have hm0 : (0 : Int) ≤ (m : Int) := by omega
  have hm1 : (m : Int) < ((m + 1 : Nat) : Int) := by omega
  have H := Lib.hid h
  clear h
  have ht0 : 0 < t.size := by omega
  have hc' := hc ht0
  clear hc
  go_enter Tryd.func41, Tryd.ntmps41
  go_wp2_with fail
  go_quiet (fail)
  all_goals
    go_wp2_with (first
      | (go_at_call 52; (with_reducible refine (Tryd.strings_HasPrefix t _ _).mono ?_); rintro e0 w2 ⟨rfl, hw2⟩; obtain rfl := hw2.symm; rw [h3])
      | (go_at_call 56; (with_reducible refine (strings_Contains.calls _ _ _ _ (by exact Tabs.of_heap HT.out rfl) HC.out).mono ?_); rintro e0 w2 ⟨rfl, ⟨nc, rfl⟩⟩)
      | (go_at_call 57; (with_reducible refine (Tryd.strings_IndexByte _ c _).mono ?_); rintro e0 w2 ⟨rfl, hw2⟩; obtain rfl := hw2.symm; rw [hix]))
    have hlen : (toks.length + 1) * 40 ≤ 140737488355328 := by omega
    have hcall := fun (k : Nat) => token_calls (W.drewN k) 10 ((i : Int) + 1) (t.extract 0 1) (Sc.of_heap (W := W) (W1 := W.drewN k) rfl H.out) hlen
    have HW : Hid (IntKind.i64.wrap ((i : Int) + 1) = (i : Int) + 1) := IntWalk.i64_in _ (by omega)
    clear hlen
    go_region_with
      (((try rw [HW.out]); refine (hcall _).mono ?_; rintro e0 w5 ⟨rfl, v5, S5, hb5⟩))
    all_goals
      go_wp2
      go_end0
      exact ⟨rfl, Or.inl ⟨rfl, v5, _, S5⟩, Below.trans (by repeat (first | exact Below.refl _ _ | apply pw_below_drewN)) hb5⟩

set_option maxHeartbeats 8000000 in
set_option maxRecDepth 100000 in
theorem mark_one_short {B b : Nat} {s t : ByteArray} {c : Int} {toks : List Tok} {op : List Int} {vt vo : Value} (W : World) (i : Nat) (hi : i < s.size) (hs : s.size ≤ 1073741824) (ht : toks.length ≤ i) (hol : op.length ≤ i) (hext : s.extract i s.size = t) (hts : t.size + i = s.size) (hc : ∀ h : 0 < t.size, ((t[0]'h).toNat : Int) = c) (h3 : Lib.hasPrefix t.data.toList (⟨#[47, 47, 61]⟩ : ByteArray).data.toList = false) (h2 : ¬ 1 < t.size) (x : Int) (hix : Lib.indexByte onesT.data.toList c.toNat.toUInt8 = x) (hx : 0 ≤ x) (hop : op = []) (h : Sc B b s i toks op 0 0 vt vo W) (hT : Tabs W) :
    Calls Tryd.prog 41 #[.pointer (some ⟨b, 0, none⟩)] W fun r w' => r = .returned (.tuple #[]) ∧ OneEnd B b s i toks op ⟨0, i + 1, 10, t.extract 0 1, op⟩ w' ∧ Below B W w' := by
  have c0 := h.c0
  have c1 := h.c1
  have c3 := h.c3
  have hlow := h.low
  have hlt := h.lt
  have hi0 : (0 : Int) ≤ (i : Int) := by omega
  have hi1 : (i : Int) ≤ (s.size : Int) := by omega
  have HT := Lib.hid hT
  clear hT
  obtain ⟨A, cp, rfl⟩ := own_slice h.opn
  subst hop
  have H := Lib.hid h
  clear h
  have ht0 : 0 < t.size := by omega
  have hc' := hc ht0
  clear hc
  go_enter Tryd.func41, Tryd.ntmps41
  go_wp2_with fail
  go_quiet (fail)
  all_goals
    go_wp2_with (first
      | (go_at_call 52; (with_reducible refine (Tryd.strings_HasPrefix t _ _).mono ?_); rintro e0 w2 ⟨rfl, hw2⟩; obtain rfl := hw2.symm; rw [h3])
      | (go_at_call 57; (with_reducible refine (Tryd.strings_IndexByte _ c _).mono ?_); rintro e0 w2 ⟨rfl, hw2⟩; obtain rfl := hw2.symm; rw [hix]))
    have hlen : (toks.length + 1) * 40 ≤ 140737488355328 := by omega
    have hcall := fun (k : Nat) => token_calls (W.drewN k) 10 ((i : Int) + 1) (t.extract 0 1) (Sc.of_heap (W := W) (W1 := W.drewN k) rfl H.out) hlen
    have HW : Hid (IntKind.i64.wrap ((i : Int) + 1) = (i : Int) + 1) := IntWalk.i64_in _ (by omega)
    clear hlen
    go_region_with
      (((try rw [HW.out]); refine (hcall _).mono ?_; rintro e0 w5 ⟨rfl, v5, S5, hb5⟩))
    all_goals
      go_wp2
      go_end0
      exact ⟨rfl, Or.inl ⟨rfl, v5, _, S5⟩, Below.trans (by repeat (first | exact Below.refl _ _ | apply pw_below_drewN)) hb5⟩

set_option maxHeartbeats 8000000 in
set_option maxRecDepth 100000 in
theorem mark_one_in_short {B b : Nat} {s t : ByteArray} {c : Int} {toks : List Tok} {op : List Int} {vt vo : Value} (W : World) (i : Nat) (hi : i < s.size) (hs : s.size ≤ 1073741824) (ht : toks.length ≤ i) (hol : op.length ≤ i) (hext : s.extract i s.size = t) (hts : t.size + i = s.size) (hc : ∀ h : 0 < t.size, ((t[0]'h).toNat : Int) = c) (h3 : Lib.hasPrefix t.data.toList (⟨#[47, 47, 61]⟩ : ByteArray).data.toList = false) (h2 : ¬ 1 < t.size) (x : Int) (hix : Lib.indexByte onesT.data.toList c.toNat.toUInt8 = x) (hx : 0 ≤ x) (m : Nat) (hm : op.length = m + 1) (n40 : ¬ c = 40) (n41 : ¬ c = 41) (h : Sc B b s i toks op 0 0 vt vo W) (hT : Tabs W) :
    Calls Tryd.prog 41 #[.pointer (some ⟨b, 0, none⟩)] W fun r w' => r = .returned (.tuple #[]) ∧ OneEnd B b s i toks op ⟨0, i + 1, 10, t.extract 0 1, op⟩ w' ∧ Below B W w' := by
  have c0 := h.c0
  have c1 := h.c1
  have c3 := h.c3
  have hlow := h.low
  have hlt := h.lt
  have hi0 : (0 : Int) ≤ (i : Int) := by omega
  have hi1 : (i : Int) ≤ (s.size : Int) := by omega
  have HT := Lib.hid hT
  clear hT
  obtain ⟨g, cp, rfl, hcap, hcell, hfz, hBg⟩ := h.lastOpen hm
  have c3 : W.cell? ⟨b, 3, none⟩ = some (.slice (some ⟨g, 0, none⟩) (m + 1) cp) := by
    rw [← hm]
    exact h.c3
  have hm0 : (0 : Int) ≤ (m : Int) := by omega
  have hm1 : (m : Int) < ((m + 1 : Nat) : Int) := by omega
  have H := Lib.hid h
  clear h
  have ht0 : 0 < t.size := by omega
  have hc' := hc ht0
  clear hc
  go_enter Tryd.func41, Tryd.ntmps41
  go_wp2_with fail
  go_quiet (fail)
  all_goals
    go_wp2_with (first
      | (go_at_call 52; (with_reducible refine (Tryd.strings_HasPrefix t _ _).mono ?_); rintro e0 w2 ⟨rfl, hw2⟩; obtain rfl := hw2.symm; rw [h3])
      | (go_at_call 57; (with_reducible refine (Tryd.strings_IndexByte _ c _).mono ?_); rintro e0 w2 ⟨rfl, hw2⟩; obtain rfl := hw2.symm; rw [hix]))
    have hlen : (toks.length + 1) * 40 ≤ 140737488355328 := by omega
    have hcall := fun (k : Nat) => token_calls (W.drewN k) 10 ((i : Int) + 1) (t.extract 0 1) (Sc.of_heap (W := W) (W1 := W.drewN k) rfl H.out) hlen
    have HW : Hid (IntKind.i64.wrap ((i : Int) + 1) = (i : Int) + 1) := IntWalk.i64_in _ (by omega)
    clear hlen
    go_region_with
      (((try rw [HW.out]); refine (hcall _).mono ?_; rintro e0 w5 ⟨rfl, v5, S5, hb5⟩))
    all_goals
      go_wp2
      go_end0
      exact ⟨rfl, Or.inl ⟨rfl, v5, _, S5⟩, Below.trans (by repeat (first | exact Below.refl _ _ | apply pw_below_drewN)) hb5⟩

set_option maxHeartbeats 8000000 in
set_option maxRecDepth 100000 in
theorem mark_opens_long {B b : Nat} {s t : ByteArray} {c : Int} {toks : List Tok} {op : List Int} {vt vo : Value} (W : World) (i : Nat) (hi : i < s.size) (hs : s.size ≤ 1073741824) (ht : toks.length ≤ i) (hol : op.length ≤ i) (hext : s.extract i s.size = t) (hts : t.size + i = s.size) (hc : ∀ h : 0 < t.size, ((t[0]'h).toNat : Int) = c) (h3 : Lib.hasPrefix t.data.toList (⟨#[47, 47, 61]⟩ : ByteArray).data.toList = false) (h2 : 1 < t.size) (HC : Hid (strings_Contains.f twosT (((⟨#[32]⟩ : ByteArray) ++ t.extract 0 2) ++ (⟨#[32]⟩ : ByteArray)) = some false)) (x : Int) (hix : Lib.indexByte onesT.data.toList c.toNat.toUInt8 = x) (hx : 0 ≤ x) (m : Nat) (hm : op.length = m + 1) (hy : 0 ≤ op.getD m 0 ∧ op.getD m 0 ≤ i) (hcc : c = 40) (h : Sc B b s i toks op 0 0 vt vo W) (hT : Tabs W) :
    Calls Tryd.prog 41 #[.pointer (some ⟨b, 0, none⟩)] W fun r w' => r = .returned (.tuple #[]) ∧ OneEnd B b s i toks op ⟨0, i + 1, 10, t.extract 0 1, op.set m (op.getD m 0 + 1)⟩ w' ∧ Below B W w' := by
  have c0 := h.c0
  have c1 := h.c1
  have c3 := h.c3
  have hlow := h.low
  have hlt := h.lt
  have hi0 : (0 : Int) ≤ (i : Int) := by omega
  have hi1 : (i : Int) ≤ (s.size : Int) := by omega
  have HT := Lib.hid hT
  clear hT
  subst hcc
  obtain ⟨g, cp, rfl, hcap, hcell, hfz, hBg⟩ := h.lastOpen hm
  have c3 : W.cell? ⟨b, 3, none⟩ = some (.slice (some ⟨g, 0, none⟩) (m + 1) cp) := by
    rw [← hm]
    exact h.c3
  have hm0 : (0 : Int) ≤ (m : Int) := by omega
  have hm1 : (m : Int) < ((m + 1 : Nat) : Int) := by omega
  have hbg : ¬ b = g := by
    have := h.neO
    simpa [Value.ownBlock] using this
  have hgb : ¬ g = b := fun e => hbg e.symm
  have hyb := hy
  obtain ⟨y, hye⟩ : ∃ y, op.getD m 0 = y := ⟨_, rfl⟩
  rw [hye] at hcell hyb ⊢
  obtain ⟨yb0, yb1⟩ := hyb
  clear hy hye
  have H := Lib.hid h
  clear h
  have ht0 : 0 < t.size := by omega
  have hc' := hc ht0
  clear hc
  go_enter Tryd.func41, Tryd.ntmps41
  go_wp2_with fail
  go_quiet (fail)
  all_goals
    go_wp2_with (first
      | (go_at_call 52; (with_reducible refine (Tryd.strings_HasPrefix t _ _).mono ?_); rintro e0 w2 ⟨rfl, hw2⟩; obtain rfl := hw2.symm; rw [h3])
      | (go_at_call 56; (with_reducible refine (strings_Contains.calls _ _ _ _ (by exact Tabs.of_heap HT.out rfl) HC.out).mono ?_); rintro e0 w2 ⟨rfl, ⟨nc, rfl⟩⟩)
      | (go_at_call 57; (with_reducible refine (Tryd.strings_IndexByte _ 40 _).mono ?_); rintro e0 w2 ⟨rfl, hw2⟩; obtain rfl := hw2.symm; rw [hix]))
    have hlen : (toks.length + 1) * 40 ≤ 140737488355328 := by omega
    have hcall := fun (k : Nat) => token_calls (((W.drewN k).setCell ⟨g, m, none⟩ (.int .i64 (y + 1))).drew) 10 ((i : Int) + 1) (t.extract 0 1) (Sc.of_heap (W := (W.setCell ⟨g, m, none⟩ (.int .i64 (y + 1)))) (W1 := ((W.drewN k).setCell ⟨g, m, none⟩ (.int .i64 (y + 1))).drew) rfl (H.out.setOpen m (y + 1))) hlen
    have HW : Hid (IntKind.i64.wrap ((i : Int) + 1) = (i : Int) + 1) := IntWalk.i64_in _ (by omega)
    clear hlen
    go_region_with
      (((try rw [HW.out]); refine (hcall _).mono ?_; rintro e0 w5 ⟨rfl, v5, S5, hb5⟩))
    all_goals
      go_wp2
      go_end0
      exact ⟨rfl, Or.inl ⟨rfl, v5, _, S5⟩, Below.trans (Below.drew (Below.setCell (by repeat (first | exact Below.refl _ _ | apply pw_below_drewN)) (p := ⟨g, m, none⟩) hBg _)) hb5⟩

set_option maxHeartbeats 8000000 in
set_option maxRecDepth 100000 in
theorem mark_closes_long {B b : Nat} {s t : ByteArray} {c : Int} {toks : List Tok} {op : List Int} {vt vo : Value} (W : World) (i : Nat) (hi : i < s.size) (hs : s.size ≤ 1073741824) (ht : toks.length ≤ i) (hol : op.length ≤ i) (hext : s.extract i s.size = t) (hts : t.size + i = s.size) (hc : ∀ h : 0 < t.size, ((t[0]'h).toNat : Int) = c) (h3 : Lib.hasPrefix t.data.toList (⟨#[47, 47, 61]⟩ : ByteArray).data.toList = false) (h2 : 1 < t.size) (HC : Hid (strings_Contains.f twosT (((⟨#[32]⟩ : ByteArray) ++ t.extract 0 2) ++ (⟨#[32]⟩ : ByteArray)) = some false)) (x : Int) (hix : Lib.indexByte onesT.data.toList c.toNat.toUInt8 = x) (hx : 0 ≤ x) (m : Nat) (hm : op.length = m + 1) (hy : 0 ≤ op.getD m 0 ∧ op.getD m 0 ≤ i) (hcc : c = 41) (hyn : ¬ op.getD m 0 = 0) (h : Sc B b s i toks op 0 0 vt vo W) (hT : Tabs W) :
    Calls Tryd.prog 41 #[.pointer (some ⟨b, 0, none⟩)] W fun r w' => r = .returned (.tuple #[]) ∧ OneEnd B b s i toks op ⟨0, i + 1, 10, t.extract 0 1, op.set m (op.getD m 0 - 1)⟩ w' ∧ Below B W w' := by
  have c0 := h.c0
  have c1 := h.c1
  have c3 := h.c3
  have hlow := h.low
  have hlt := h.lt
  have hi0 : (0 : Int) ≤ (i : Int) := by omega
  have hi1 : (i : Int) ≤ (s.size : Int) := by omega
  have HT := Lib.hid hT
  clear hT
  subst hcc
  obtain ⟨g, cp, rfl, hcap, hcell, hfz, hBg⟩ := h.lastOpen hm
  have c3 : W.cell? ⟨b, 3, none⟩ = some (.slice (some ⟨g, 0, none⟩) (m + 1) cp) := by
    rw [← hm]
    exact h.c3
  have hm0 : (0 : Int) ≤ (m : Int) := by omega
  have hm1 : (m : Int) < ((m + 1 : Nat) : Int) := by omega
  have hbg : ¬ b = g := by
    have := h.neO
    simpa [Value.ownBlock] using this
  have hgb : ¬ g = b := fun e => hbg e.symm
  have hyb := hy
  obtain ⟨y, hye⟩ : ∃ y, op.getD m 0 = y := ⟨_, rfl⟩
  rw [hye] at hcell hyb ⊢
  have hy0 : ¬ y = 0 := by rw [← hye]; exact hyn
  obtain ⟨yb0, yb1⟩ := hyb
  clear hy hye hyn
  have H := Lib.hid h
  clear h
  have ht0 : 0 < t.size := by omega
  have hc' := hc ht0
  clear hc
  go_enter Tryd.func41, Tryd.ntmps41
  go_wp2_with fail
  go_quiet (fail)
  all_goals
    go_wp2_with (first
      | (go_at_call 52; (with_reducible refine (Tryd.strings_HasPrefix t _ _).mono ?_); rintro e0 w2 ⟨rfl, hw2⟩; obtain rfl := hw2.symm; rw [h3])
      | (go_at_call 56; (with_reducible refine (strings_Contains.calls _ _ _ _ (by exact Tabs.of_heap HT.out rfl) HC.out).mono ?_); rintro e0 w2 ⟨rfl, ⟨nc, rfl⟩⟩)
      | (go_at_call 57; (with_reducible refine (Tryd.strings_IndexByte _ 41 _).mono ?_); rintro e0 w2 ⟨rfl, hw2⟩; obtain rfl := hw2.symm; rw [hix]))
    have hlen : (toks.length + 1) * 40 ≤ 140737488355328 := by omega
    have hcall := fun (k : Nat) => token_calls (((W.drewN k).setCell ⟨g, m, none⟩ (.int .i64 (y - 1))).drew) 10 ((i : Int) + 1) (t.extract 0 1) (Sc.of_heap (W := (W.setCell ⟨g, m, none⟩ (.int .i64 (y - 1)))) (W1 := ((W.drewN k).setCell ⟨g, m, none⟩ (.int .i64 (y - 1))).drew) rfl (H.out.setOpen m (y - 1))) hlen
    have HW : Hid (IntKind.i64.wrap ((i : Int) + 1) = (i : Int) + 1) := IntWalk.i64_in _ (by omega)
    clear hlen
    go_region_with
      (((try rw [HW.out]); refine (hcall _).mono ?_; rintro e0 w5 ⟨rfl, v5, S5, hb5⟩))
    all_goals
      go_wp2
      go_end0
      exact ⟨rfl, Or.inl ⟨rfl, v5, _, S5⟩, Below.trans (Below.drew (Below.setCell (by repeat (first | exact Below.refl _ _ | apply pw_below_drewN)) (p := ⟨g, m, none⟩) hBg _)) hb5⟩

set_option maxHeartbeats 8000000 in
set_option maxRecDepth 100000 in
theorem mark_back_long {B b : Nat} {s t : ByteArray} {c : Int} {toks : List Tok} {op : List Int} {vt vo : Value} (W : World) (i : Nat) (hi : i < s.size) (hs : s.size ≤ 1073741824) (ht : toks.length ≤ i) (hol : op.length ≤ i) (hext : s.extract i s.size = t) (hts : t.size + i = s.size) (hc : ∀ h : 0 < t.size, ((t[0]'h).toNat : Int) = c) (h3 : Lib.hasPrefix t.data.toList (⟨#[47, 47, 61]⟩ : ByteArray).data.toList = false) (h2 : 1 < t.size) (HC : Hid (strings_Contains.f twosT (((⟨#[32]⟩ : ByteArray) ++ t.extract 0 2) ++ (⟨#[32]⟩ : ByteArray)) = some false)) (x : Int) (hix : Lib.indexByte onesT.data.toList c.toNat.toUInt8 = x) (hx : 0 ≤ x) (m : Nat) (hm : op.length = m + 1) (hcc : c = 41) (hy0 : op.getD m 0 = 0) (h : Sc B b s i toks op 0 0 vt vo W) (hT : Tabs W) :
    Calls Tryd.prog 41 #[.pointer (some ⟨b, 0, none⟩)] W fun r w' => r = .returned (.tuple #[]) ∧ OneEnd B b s i toks op (pieceR 9 8 op.dropLast op (pieceZ s s.size (i + 1) [])) w' ∧ Below B W w' := by
  have c0 := h.c0
  have c1 := h.c1
  have c3 := h.c3
  have hlow := h.low
  have hlt := h.lt
  have hi0 : (0 : Int) ≤ (i : Int) := by omega
  have hi1 : (i : Int) ≤ (s.size : Int) := by omega
  have HT := Lib.hid hT
  clear hT
  subst hcc
  obtain ⟨g, cp, rfl, hcap, hcell, hfz, hBg⟩ := h.lastOpen hm
  have c3 : W.cell? ⟨b, 3, none⟩ = some (.slice (some ⟨g, 0, none⟩) (m + 1) cp) := by
    rw [← hm]
    exact h.c3
  have hm0 : (0 : Int) ≤ (m : Int) := by omega
  have hm1 : (m : Int) < ((m + 1 : Nat) : Int) := by omega
  rw [hy0] at hcell
  have hop : op ≠ [] := by
    intro e
    rw [e] at hm
    simp at hm
  have hpc := fun (k : Nat) => piece_next (W.drewN k) i hi hs hop ht hol (Sc.of_heap (W := W) (W1 := W.drewN k) rfl h) (Tabs.of_heap (w := W) (w' := W.drewN k) HT.out rfl)
  have H := Lib.hid h
  clear h
  have ht0 : 0 < t.size := by omega
  have hc' := hc ht0
  clear hc
  go_enter Tryd.func41, Tryd.ntmps41
  go_wp2_with fail
  go_quiet (fail)
  all_goals
    go_wp2_with (first
      | (go_at_call 52; (with_reducible refine (Tryd.strings_HasPrefix t _ _).mono ?_); rintro e0 w2 ⟨rfl, hw2⟩; obtain rfl := hw2.symm; rw [h3])
      | (go_at_call 56; (with_reducible refine (strings_Contains.calls _ _ _ _ (by exact Tabs.of_heap HT.out rfl) HC.out).mono ?_); rintro e0 w2 ⟨rfl, ⟨nc, rfl⟩⟩)
      | (go_at_call 57; (with_reducible refine (Tryd.strings_IndexByte _ 41 _).mono ?_); rintro e0 w2 ⟨rfl, hw2⟩; obtain rfl := hw2.symm; rw [hix])
      | (go_at_call 32; (with_reducible refine (hpc _).mono ?_); rintro e0 w5 ⟨rfl, S5, hb5⟩))
    refine bodyPost_ret (results_none rfl _ _ _) rfl ?_
    exact ⟨rfl, PieceEnd.one S5, Below.trans (by repeat (first | exact Below.refl _ _ | apply pw_below_drewN)) hb5⟩

set_option maxHeartbeats 8000000 in
set_option maxRecDepth 100000 in
theorem mark_opens_short {B b : Nat} {s t : ByteArray} {c : Int} {toks : List Tok} {op : List Int} {vt vo : Value} (W : World) (i : Nat) (hi : i < s.size) (hs : s.size ≤ 1073741824) (ht : toks.length ≤ i) (hol : op.length ≤ i) (hext : s.extract i s.size = t) (hts : t.size + i = s.size) (hc : ∀ h : 0 < t.size, ((t[0]'h).toNat : Int) = c) (h3 : Lib.hasPrefix t.data.toList (⟨#[47, 47, 61]⟩ : ByteArray).data.toList = false) (h2 : ¬ 1 < t.size) (x : Int) (hix : Lib.indexByte onesT.data.toList c.toNat.toUInt8 = x) (hx : 0 ≤ x) (m : Nat) (hm : op.length = m + 1) (hy : 0 ≤ op.getD m 0 ∧ op.getD m 0 ≤ i) (hcc : c = 40) (h : Sc B b s i toks op 0 0 vt vo W) (hT : Tabs W) :
    Calls Tryd.prog 41 #[.pointer (some ⟨b, 0, none⟩)] W fun r w' => r = .returned (.tuple #[]) ∧ OneEnd B b s i toks op ⟨0, i + 1, 10, t.extract 0 1, op.set m (op.getD m 0 + 1)⟩ w' ∧ Below B W w' := by
  have c0 := h.c0
  have c1 := h.c1
  have c3 := h.c3
  have hlow := h.low
  have hlt := h.lt
  have hi0 : (0 : Int) ≤ (i : Int) := by omega
  have hi1 : (i : Int) ≤ (s.size : Int) := by omega
  have HT := Lib.hid hT
  clear hT
  subst hcc
  obtain ⟨g, cp, rfl, hcap, hcell, hfz, hBg⟩ := h.lastOpen hm
  have c3 : W.cell? ⟨b, 3, none⟩ = some (.slice (some ⟨g, 0, none⟩) (m + 1) cp) := by
    rw [← hm]
    exact h.c3
  have hm0 : (0 : Int) ≤ (m : Int) := by omega
  have hm1 : (m : Int) < ((m + 1 : Nat) : Int) := by omega
  have hbg : ¬ b = g := by
    have := h.neO
    simpa [Value.ownBlock] using this
  have hgb : ¬ g = b := fun e => hbg e.symm
  have hyb := hy
  obtain ⟨y, hye⟩ : ∃ y, op.getD m 0 = y := ⟨_, rfl⟩
  rw [hye] at hcell hyb ⊢
  obtain ⟨yb0, yb1⟩ := hyb
  clear hy hye
  have H := Lib.hid h
  clear h
  have ht0 : 0 < t.size := by omega
  have hc' := hc ht0
  clear hc
  go_enter Tryd.func41, Tryd.ntmps41
  go_wp2_with fail
  go_quiet (fail)
  all_goals
    go_wp2_with (first
      | (go_at_call 52; (with_reducible refine (Tryd.strings_HasPrefix t _ _).mono ?_); rintro e0 w2 ⟨rfl, hw2⟩; obtain rfl := hw2.symm; rw [h3])
      | (go_at_call 57; (with_reducible refine (Tryd.strings_IndexByte _ 40 _).mono ?_); rintro e0 w2 ⟨rfl, hw2⟩; obtain rfl := hw2.symm; rw [hix]))
    have hlen : (toks.length + 1) * 40 ≤ 140737488355328 := by omega
    have hcall := fun (k : Nat) => token_calls (((W.drewN k).setCell ⟨g, m, none⟩ (.int .i64 (y + 1))).drew) 10 ((i : Int) + 1) (t.extract 0 1) (Sc.of_heap (W := (W.setCell ⟨g, m, none⟩ (.int .i64 (y + 1)))) (W1 := ((W.drewN k).setCell ⟨g, m, none⟩ (.int .i64 (y + 1))).drew) rfl (H.out.setOpen m (y + 1))) hlen
    have HW : Hid (IntKind.i64.wrap ((i : Int) + 1) = (i : Int) + 1) := IntWalk.i64_in _ (by omega)
    clear hlen
    go_region_with
      (((try rw [HW.out]); refine (hcall _).mono ?_; rintro e0 w5 ⟨rfl, v5, S5, hb5⟩))
    all_goals
      go_wp2
      go_end0
      exact ⟨rfl, Or.inl ⟨rfl, v5, _, S5⟩, Below.trans (Below.drew (Below.setCell (by repeat (first | exact Below.refl _ _ | apply pw_below_drewN)) (p := ⟨g, m, none⟩) hBg _)) hb5⟩

set_option maxHeartbeats 8000000 in
set_option maxRecDepth 100000 in
theorem mark_closes_short {B b : Nat} {s t : ByteArray} {c : Int} {toks : List Tok} {op : List Int} {vt vo : Value} (W : World) (i : Nat) (hi : i < s.size) (hs : s.size ≤ 1073741824) (ht : toks.length ≤ i) (hol : op.length ≤ i) (hext : s.extract i s.size = t) (hts : t.size + i = s.size) (hc : ∀ h : 0 < t.size, ((t[0]'h).toNat : Int) = c) (h3 : Lib.hasPrefix t.data.toList (⟨#[47, 47, 61]⟩ : ByteArray).data.toList = false) (h2 : ¬ 1 < t.size) (x : Int) (hix : Lib.indexByte onesT.data.toList c.toNat.toUInt8 = x) (hx : 0 ≤ x) (m : Nat) (hm : op.length = m + 1) (hy : 0 ≤ op.getD m 0 ∧ op.getD m 0 ≤ i) (hcc : c = 41) (hyn : ¬ op.getD m 0 = 0) (h : Sc B b s i toks op 0 0 vt vo W) (hT : Tabs W) :
    Calls Tryd.prog 41 #[.pointer (some ⟨b, 0, none⟩)] W fun r w' => r = .returned (.tuple #[]) ∧ OneEnd B b s i toks op ⟨0, i + 1, 10, t.extract 0 1, op.set m (op.getD m 0 - 1)⟩ w' ∧ Below B W w' := by
  have c0 := h.c0
  have c1 := h.c1
  have c3 := h.c3
  have hlow := h.low
  have hlt := h.lt
  have hi0 : (0 : Int) ≤ (i : Int) := by omega
  have hi1 : (i : Int) ≤ (s.size : Int) := by omega
  have HT := Lib.hid hT
  clear hT
  subst hcc
  obtain ⟨g, cp, rfl, hcap, hcell, hfz, hBg⟩ := h.lastOpen hm
  have c3 : W.cell? ⟨b, 3, none⟩ = some (.slice (some ⟨g, 0, none⟩) (m + 1) cp) := by
    rw [← hm]
    exact h.c3
  have hm0 : (0 : Int) ≤ (m : Int) := by omega
  have hm1 : (m : Int) < ((m + 1 : Nat) : Int) := by omega
  have hbg : ¬ b = g := by
    have := h.neO
    simpa [Value.ownBlock] using this
  have hgb : ¬ g = b := fun e => hbg e.symm
  have hyb := hy
  obtain ⟨y, hye⟩ : ∃ y, op.getD m 0 = y := ⟨_, rfl⟩
  rw [hye] at hcell hyb ⊢
  have hy0 : ¬ y = 0 := by rw [← hye]; exact hyn
  obtain ⟨yb0, yb1⟩ := hyb
  clear hy hye hyn
  have H := Lib.hid h
  clear h
  have ht0 : 0 < t.size := by omega
  have hc' := hc ht0
  clear hc
  go_enter Tryd.func41, Tryd.ntmps41
  go_wp2_with fail
  go_quiet (fail)
  all_goals
    go_wp2_with (first
      | (go_at_call 52; (with_reducible refine (Tryd.strings_HasPrefix t _ _).mono ?_); rintro e0 w2 ⟨rfl, hw2⟩; obtain rfl := hw2.symm; rw [h3])
      | (go_at_call 57; (with_reducible refine (Tryd.strings_IndexByte _ 41 _).mono ?_); rintro e0 w2 ⟨rfl, hw2⟩; obtain rfl := hw2.symm; rw [hix]))
    have hlen : (toks.length + 1) * 40 ≤ 140737488355328 := by omega
    have hcall := fun (k : Nat) => token_calls (((W.drewN k).setCell ⟨g, m, none⟩ (.int .i64 (y - 1))).drew) 10 ((i : Int) + 1) (t.extract 0 1) (Sc.of_heap (W := (W.setCell ⟨g, m, none⟩ (.int .i64 (y - 1)))) (W1 := ((W.drewN k).setCell ⟨g, m, none⟩ (.int .i64 (y - 1))).drew) rfl (H.out.setOpen m (y - 1))) hlen
    have HW : Hid (IntKind.i64.wrap ((i : Int) + 1) = (i : Int) + 1) := IntWalk.i64_in _ (by omega)
    clear hlen
    go_region_with
      (((try rw [HW.out]); refine (hcall _).mono ?_; rintro e0 w5 ⟨rfl, v5, S5, hb5⟩))
    all_goals
      go_wp2
      go_end0
      exact ⟨rfl, Or.inl ⟨rfl, v5, _, S5⟩, Below.trans (Below.drew (Below.setCell (by repeat (first | exact Below.refl _ _ | apply pw_below_drewN)) (p := ⟨g, m, none⟩) hBg _)) hb5⟩

set_option maxHeartbeats 8000000 in
set_option maxRecDepth 100000 in
theorem mark_back_short {B b : Nat} {s t : ByteArray} {c : Int} {toks : List Tok} {op : List Int} {vt vo : Value} (W : World) (i : Nat) (hi : i < s.size) (hs : s.size ≤ 1073741824) (ht : toks.length ≤ i) (hol : op.length ≤ i) (hext : s.extract i s.size = t) (hts : t.size + i = s.size) (hc : ∀ h : 0 < t.size, ((t[0]'h).toNat : Int) = c) (h3 : Lib.hasPrefix t.data.toList (⟨#[47, 47, 61]⟩ : ByteArray).data.toList = false) (h2 : ¬ 1 < t.size) (x : Int) (hix : Lib.indexByte onesT.data.toList c.toNat.toUInt8 = x) (hx : 0 ≤ x) (m : Nat) (hm : op.length = m + 1) (hcc : c = 41) (hy0 : op.getD m 0 = 0) (h : Sc B b s i toks op 0 0 vt vo W) (hT : Tabs W) :
    Calls Tryd.prog 41 #[.pointer (some ⟨b, 0, none⟩)] W fun r w' => r = .returned (.tuple #[]) ∧ OneEnd B b s i toks op (pieceR 9 8 op.dropLast op (pieceZ s s.size (i + 1) [])) w' ∧ Below B W w' := by
  have c0 := h.c0
  have c1 := h.c1
  have c3 := h.c3
  have hlow := h.low
  have hlt := h.lt
  have hi0 : (0 : Int) ≤ (i : Int) := by omega
  have hi1 : (i : Int) ≤ (s.size : Int) := by omega
  have HT := Lib.hid hT
  clear hT
  subst hcc
  obtain ⟨g, cp, rfl, hcap, hcell, hfz, hBg⟩ := h.lastOpen hm
  have c3 : W.cell? ⟨b, 3, none⟩ = some (.slice (some ⟨g, 0, none⟩) (m + 1) cp) := by
    rw [← hm]
    exact h.c3
  have hm0 : (0 : Int) ≤ (m : Int) := by omega
  have hm1 : (m : Int) < ((m + 1 : Nat) : Int) := by omega
  rw [hy0] at hcell
  have hop : op ≠ [] := by
    intro e
    rw [e] at hm
    simp at hm
  have hpc := fun (k : Nat) => piece_next (W.drewN k) i hi hs hop ht hol (Sc.of_heap (W := W) (W1 := W.drewN k) rfl h) (Tabs.of_heap (w := W) (w' := W.drewN k) HT.out rfl)
  have H := Lib.hid h
  clear h
  have ht0 : 0 < t.size := by omega
  have hc' := hc ht0
  clear hc
  go_enter Tryd.func41, Tryd.ntmps41
  go_wp2_with fail
  go_quiet (fail)
  all_goals
    go_wp2_with (first
      | (go_at_call 52; (with_reducible refine (Tryd.strings_HasPrefix t _ _).mono ?_); rintro e0 w2 ⟨rfl, hw2⟩; obtain rfl := hw2.symm; rw [h3])
      | (go_at_call 57; (with_reducible refine (Tryd.strings_IndexByte _ 41 _).mono ?_); rintro e0 w2 ⟨rfl, hw2⟩; obtain rfl := hw2.symm; rw [hix])
      | (go_at_call 32; (with_reducible refine (hpc _).mono ?_); rintro e0 w5 ⟨rfl, S5, hb5⟩))
    refine bodyPost_ret (results_none rfl _ _ _) rfl ?_
    exact ⟨rfl, PieceEnd.one S5, Below.trans (by repeat (first | exact Below.refl _ _ | apply pw_below_drewN)) hb5⟩

end Go.Proofs.YthlmhnlfcnpocaaDoor.U

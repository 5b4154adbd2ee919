/- The contract of the scanner's mark, whole. -/
import Derived.Test.YtccabnimiacioaaDoorEMark
namespace Go.Proofs.YtccabnimiacioaaDoor.U
open Go.RowKit Go.Proofs.YtccabnimiacioaaDoorW.PrintWords
set_option linter.unusedSimpArgs false

theorem rest_list (s : ByteArray) (i : Nat) : (s.extract i s.size).data.toList = s.data.toList.drop i := by
  rw [Lib.extract_data, List.take_of_length_le (by rw [List.length_drop, ← Lib.size_eq]; omega)]
theorem rest_bt (s : ByteArray) (i j : Nat) (h : i + j < s.size) : bt (s.extract i s.size) (j : Int) = bt s ((i + j : Nat) : Int) := by
  have hl : j < (s.extract i s.size).size := by rw [ByteArray.size_extract]; omega
  rw [← getD_bt s (i + j) h, ← getD_bt _ j hl, rest_list]
  simp [List.getD, List.getElem?_drop]

theorem mark_calls {B b : Nat} {s : ByteArray} {toks : List Tok} {op : List Int} {vt vo : Value} (W : World) (i : Nat) (hi : i < s.size) (hs : s.size ≤ 1073741824) (ht : toks.length ≤ i) (hol : op.length ≤ i) (hop : ∀ y ∈ op, 0 ≤ y ∧ y ≤ (i : Int)) (h : Sc B b s i toks op 0 0 vt vo W) (hT : Tabs W) :
    Calls Tryd.prog 28 #[.pointer (some ⟨b, 0, none⟩)] W fun r w' => r = .returned (.tuple #[]) ∧ OneEnd B b s i toks op (markR s i op) w' ∧ Below B W w' := by
  have hts : (s.extract i s.size).size + i = s.size := by rw [ByteArray.size_extract]; omega
  have hb0 : bt (s.extract i s.size) 0 = bt s (i : Int) := rest_bt s i 0 (by omega)
  have hc : ∀ g : 0 < (s.extract i s.size).size, (((s.extract i s.size)[0]'g).toNat : Int) = bt s (i : Int) := by
    intro g
    rw [← hb0]
    exact bt_at _ 0 g
  have hlast : ∀ m : Nat, op.length = m + 1 → 0 ≤ op.getD m 0 ∧ op.getD m 0 ≤ (i : Int) := by
    intro m hm
    have hl : m < op.length := by omega
    rw [List.getD_eq_getElem?_getD, List.getElem?_eq_getElem hl]
    exact hop _ (List.getElem_mem hl)
  have hne : op ≠ [] → ∃ m, op.length = m + 1 := fun e => ⟨op.length - 1, by have := List.length_pos_iff.2 e; omega⟩
  unfold markR markSz
  rw [hb0]
  obtain ⟨t, hext⟩ : ∃ t, s.extract i s.size = t := ⟨_, rfl⟩
  obtain ⟨c, hcc⟩ : ∃ c, bt s (i : Int) = c := ⟨_, rfl⟩
  rw [hext] at hts hc ⊢
  rw [hcc] at hc ⊢
  clear hb0
  by_cases m3 : mk3 t = true
  · have hz : 3 ≤ t.size := by
      have := hasPrefix_le' m3
      rw [← Lib.size_eq] at this
      exact this
    rw [if_pos m3, if_neg (by decide), if_pos (Or.inr (by decide))]
    by_cases e : op = []
    · exact mark_three W i hi hs ht hol hext hts hc m3 hz e h hT
    · obtain ⟨m, hm⟩ := hne e
      exact mark_three_in W i hi hs ht hol hext hts hc m3 hz m hm h hT
  · rw [if_neg m3]
    have h3 : mk3 t = false := by simpa using m3
    by_cases m2 : 1 < t.size ∧ mk2 t = true
    · have HC := contains_f t
      rw [m2.2] at HC
      rw [if_pos m2, if_neg (by decide), if_pos (Or.inr (by decide))]
      by_cases e : op = []
      · exact mark_two W i hi hs ht hol hext hts hc h3 m2.1 HC e h hT
      · obtain ⟨m, hm⟩ := hne e
        exact mark_two_in W i hi hs ht hol hext hts hc h3 m2.1 HC m hm h hT
    · rw [if_neg m2]
      have hlong : 1 < t.size → Hid (strings_Contains.f twosT (((⟨#[32]⟩ : ByteArray) ++ t.extract 0 2) ++ (⟨#[32]⟩ : ByteArray)) = some false) := by
        intro g
        have HC := contains_f t
        have : mk2 t = false := by
          cases hm : mk2 t
          · rfl
          · exact absurd ⟨g, hm⟩ m2
        rw [this] at HC
        exact HC
      by_cases m1 : mk1 c = true
      · have hx : 0 ≤ Lib.indexByte onesT.data.toList c.toNat.toUInt8 := of_decide_eq_true m1
        rw [if_pos m1, if_neg (by decide)]
        by_cases e : op = []
        · rw [if_pos (Or.inl e)]
          by_cases g : 1 < t.size
          · exact mark_one_long W i hi hs ht hol hext hts hc h3 g (hlong g) _ rfl hx e h hT
          · exact mark_one_short W i hi hs ht hol hext hts hc h3 g _ rfl hx e h hT
        · obtain ⟨m, hm⟩ := hne e
          have hm1 : op.length - 1 = m := by omega
          rw [if_neg (by simp [e]), hm1]
          by_cases c0 : c = 40
          · rw [if_pos c0]
            by_cases g : 1 < t.size
            · exact mark_opens_long W i hi hs ht hol hext hts hc h3 g (hlong g) _ rfl hx m hm (hlast m hm) c0 h hT
            · exact mark_opens_short W i hi hs ht hol hext hts hc h3 g _ rfl hx m hm (hlast m hm) c0 h hT
          · rw [if_neg c0]
            by_cases c1 : c = 41
            · rw [if_pos c1]
              by_cases y0 : op.getD m 0 = 0
              · rw [if_pos y0]
                by_cases g : 1 < t.size
                · exact mark_back_long W i hi hs ht hol hext hts hc h3 g (hlong g) _ rfl hx m hm c1 y0 h hT
                · exact mark_back_short W i hi hs ht hol hext hts hc h3 g _ rfl hx m hm c1 y0 h hT
              · rw [if_neg y0]
                by_cases g : 1 < t.size
                · exact mark_closes_long W i hi hs ht hol hext hts hc h3 g (hlong g) _ rfl hx m hm (hlast m hm) c1 y0 h hT
                · exact mark_closes_short W i hi hs ht hol hext hts hc h3 g _ rfl hx m hm (hlast m hm) c1 y0 h hT
            · rw [if_neg c1]
              by_cases g : 1 < t.size
              · exact mark_one_in_long W i hi hs ht hol hext hts hc h3 g (hlong g) _ rfl hx m hm c0 c1 h hT
              · exact mark_one_in_short W i hi hs ht hol hext hts hc h3 g _ rfl hx m hm c0 c1 h hT
      · have hx : ¬ 0 ≤ Lib.indexByte onesT.data.toList c.toNat.toUInt8 := fun g => m1 (decide_eq_true g)
        rw [if_neg m1, if_pos rfl]
        by_cases g : 1 < t.size
        · exact mark_none_long W i hi hs ht hol hext hts hc h3 g (hlong g) _ rfl hx h hT
        · exact mark_none_short W i hi hs ht hol hext hts hc h3 g _ rfl hx h hT

end Go.Proofs.YtccabnimiacioaaDoor.U

/- Plain law: the texts of a split, with the part between, are the text; none has the part in it. -/
import Derived.Test.YtfkianfddjccgaaDoorUL3x10
import Derived.Test.YtfkianfddjccgaaDoorUq
import Derived.Lib.IndexMore
namespace Go.Proofs.YtfkianfddjccgaaDoor.U
open Go.RowKit Go.Proofs.YtfkianfddjccgaaDoorW.PrintWords
set_option linter.unusedSimpArgs false
set_option linter.unusedVariables false

/-- texts with the part ahead of each -/
def tailJ (p : ByteArray) (l : List ByteArray) : List UInt8 := l.flatMap fun x => p.data.toList ++ x.data.toList
/-- the part stands nowhere in a text -/
def Free (p x : ByteArray) : Prop := p.size = 0 ∨ ∀ k, k + p.size ≤ x.size → (x.extract k (k + p.size)).data.toList ≠ p.data.toList

theorem occ_of (s p : List UInt8) (k : Nat) (h : (s.drop k).take p.length = p) : Lib.occAt s p k = true := by
  unfold Lib.occAt
  rw [List.isPrefixOf_iff_prefix, List.prefix_iff_eq_take]
  exact h.symm
theorem of_occ (s p : List UInt8) (k : Nat) (h : Lib.occAt s p k = true) : (s.drop k).take p.length = p := by
  unfold Lib.occAt at h
  rw [List.isPrefixOf_iff_prefix, List.prefix_iff_eq_take] at h
  exact h.symm
theorem ext_take (x : ByteArray) (k n : Nat) : (x.extract k (k + n)).data.toList = (x.data.toList.drop k).take n := by
  rw [Lib.extract_data, show k + n - k = n by omega]

theorem free_none (p s : ByteArray) (hp : 1 ≤ p.size) (h : Lib.indexB s p = -1) : Free p s := by
  right
  intro k hk e
  rw [ext_take, Lib.size_eq p] at e
  have ho := occ_of _ _ _ e
  have h' : Lib.index s.data.toList p.data.toList = -1 := h
  rcases Lib.index_spec s.data.toList p.data.toList with ⟨_, g⟩ | ⟨i, g, _⟩
  · have := g k (by rw [← Lib.size_eq]; omega)
    rw [this] at ho
    cases ho
  · omega
theorem free_head (p s : ByteArray) (hp : 1 ≤ p.size) (i : Nat) (h : Lib.indexB s p = i) : Free p (s.extract 0 i) ∧ (s.data.toList.drop i).take p.data.toList.length = p.data.toList := by
  have h' : Lib.index s.data.toList p.data.toList = i := h
  rcases Lib.index_spec s.data.toList p.data.toList with ⟨g, _⟩ | ⟨i', g, hl, ho, hn⟩
  · omega
  obtain rfl : i = i' := by omega
  refine ⟨Or.inr ?_, of_occ _ _ _ ho⟩
  intro k hk e
  rw [ByteArray.size_extract] at hk
  have hki : k < i := by omega
  rw [ext_take, Lib.extract_from_zero, List.drop_take, List.take_take, Nat.min_eq_left (by omega), Lib.size_eq p] at e
  have := hn k hki
  rw [occ_of _ _ _ e] at this
  cases this

theorem split_good (p : ByteArray) (hp : 1 ≤ p.size) : ∀ (k : Nat) (s : ByteArray), Lib.countB s p = k → ∃ x t, Lib.splitB p 0 k s = x :: t ∧ x.data.toList ++ tailJ p t = s.data.toList ∧ ∀ y ∈ x :: t, Free p y
  | 0, s, h => by
    refine ⟨s, [], rfl, by simp [tailJ], ?_⟩
    intro y hy
    rw [List.mem_singleton.1 hy]
    rcases Lib.indexB_cases s p with g | ⟨i, g, _⟩
    · exact free_none p s hp g
    · have := Lib.countB_hit s p i hp g
      omega
  | k + 1, s, h => by
    rcases Lib.indexB_cases s p with g | ⟨i, g, hi⟩
    · have := Lib.countB_miss s p g
      omega
    · have hc := Lib.countB_hit s p i hp g
      obtain ⟨x, t, h1, h2, h3⟩ := split_good p hp k (s.extract (i + p.size) s.size) (by omega)
      obtain ⟨f1, f2⟩ := free_head p s hp i g
      refine ⟨s.extract 0 i, x :: t, ?_, ?_, ?_⟩
      · rw [Lib.splitB_hit p 0 k s i g, h1, Nat.add_zero]
      · show _ ++ (p.data.toList ++ x.data.toList ++ tailJ p t) = _
        have hd : (s.extract (i + p.size) s.size).data.toList = s.data.toList.drop (i + p.size) := by
          rw [Lib.extract_data, List.take_of_length_le (by rw [List.length_drop, ← Lib.size_eq]; omega)]
        rw [List.append_assoc p.data.toList, h2, hd, Lib.extract_from_zero, Lib.size_eq p, ← List.drop_drop]
        have := List.take_append_drop p.data.toList.length (s.data.toList.drop i)
        rw [f2] at this
        rw [this, List.take_append_drop]
      · intro y hy
        rcases List.mem_cons.1 hy with rfl | hy
        · exact f1
        · exact h3 y hy

theorem pieces_flat (s p : ByteArray) (hp : p.size = 0) : ∀ d, tailJ p (piecesUpTo s d) = s.data.toList.take (Utf.plc d s.data.toList)
  | 0 => by simp [piecesUpTo, tailJ, Utf.plc]
  | d + 1 => by
    have hn : p.data.toList = [] := List.length_eq_zero_iff.1 (by rw [← Lib.size_eq]; exact hp)
    have ih := pieces_flat s p hp d
    have hm := Utf.plc_mono d (d + 1) s.data.toList (by omega)
    rw [piecesUpTo_succ]
    unfold tailJ at ih ⊢
    rw [List.flatMap_append, ih]
    simp only [List.flatMap_cons, List.flatMap_nil, List.append_nil, hn, List.nil_append]
    unfold pieceAt
    obtain ⟨m, hm'⟩ : ∃ m, Utf.plc (d + 1) s.data.toList = Utf.plc d s.data.toList + m := ⟨_, (Nat.add_sub_cancel' hm).symm⟩
    rw [hm', ext_take, List.take_add]
theorem pieces_good (s p : ByteArray) (h0 : 0 < s.size) (hp : p.size = 0) : ∃ x t, piecesB s = x :: t ∧ x.data.toList ++ tailJ p t = s.data.toList ∧ ∀ y ∈ x :: t, Free p y := by
  have hn : p.data.toList = [] := List.length_eq_zero_iff.1 (by rw [← Lib.size_eq]; exact hp)
  have hf := pieces_flat s p hp (Utf.pcs s.data.toList).length
  rw [Utf.plc_end _ _ (Nat.le_refl _), List.take_length] at hf
  have hne : s.data.toList ≠ [] := by
    intro e
    rw [Lib.size_eq, e] at h0
    exact absurd h0 (by simp)
  unfold piecesB
  cases hl : piecesUpTo s (Utf.pcs s.data.toList).length with
  | nil =>
    rw [hl] at hf
    exact absurd hf.symm hne
  | cons x t =>
    rw [hl] at hf
    refine ⟨x, t, rfl, ?_, fun y _ => Or.inl hp⟩
    rw [← hf]
    show _ = p.data.toList ++ x.data.toList ++ tailJ p t
    rw [hn, List.nil_append]

/-- from some fuel on -/
def Ev (f : Nat → Option Bool) : Prop := ∃ K, ∀ k, K ≤ k → f k = some true
theorem Ev.step {f g : Nat → Option Bool} (h : Ev f) (e : ∀ k, g (k + 1) = f k) : Ev g := by
  obtain ⟨K, hK⟩ := h
  refine ⟨K + 1, fun k hk => ?_⟩
  obtain ⟨m, rfl⟩ : ∃ m, k = m + 1 := ⟨k - 1, by omega⟩
  rw [e]
  exact hK m (by omega)
theorem Ev.now {g : Nat → Option Bool} (e : ∀ k, g (k + 1) = some true) : Ev g := ⟨1, fun k hk => by
  obtain ⟨m, rfl⟩ : ∃ m, k = m + 1 := ⟨k - 1, by omega⟩
  exact e m⟩

theorem inner (s p : ByteArray) (l : List ByteArray) (x : ByteArray) (i : Nat) (z : ByteArray) (hi : i < l.length) (hz : rdOf ByteArray.empty l (i : Int) = z) (hF : Free p z) (hzs : z.size ≤ 1048576) (hps : p.size ≤ 1048576)
    (h : Ev fun k => hallmarklaw02_UtfSplits.l0 k s p l x (wrap64 ((i : Int) + 1))) : ∀ (n q : Nat), z.size + 1 ≤ q + n → q ≤ z.size + 1 → Ev fun k => hallmarklaw02_UtfSplits.l1 k s p l x (i : Int) (q : Int)
  | n, q, hq, hql => by
    have c0 : (0 : Int) ≤ (i : Int) := by omega
    have c1 : (i : Int) < (l.length : Int) := by omega
    have d0 : (0 : Int) ≤ (q : Int) := by omega
    have hw : wrap64 ((q : Int) + (p.size : Int)) = ((q + p.size : Nat) : Int) := by unfold wrap64; omega
    have hw1 : wrap64 ((q : Int) + 1) = ((q + 1 : Nat) : Int) := by unfold wrap64; omega
    have hno : Ev fun k => hallmarklaw02_UtfSplits.j3 k s p l x (i : Int) (q : Int) false := h.step fun k => by
      rw [hallmarklaw02_UtfSplits.j3, if_neg (by decide)]
    by_cases g : q + p.size ≤ z.size
    · have g' : ((q + p.size : Nat) : Int) ≤ (z.size : Int) := by omega
      by_cases hp : p.size = 0
      · have hl : (p.toList != ([] : List UInt8)) = false := by
          rw [Lib.toList_data, List.length_eq_zero_iff.1 (show p.data.toList.length = 0 by rw [← Lib.size_eq]; exact hp)]
          rfl
        refine hno.step fun k => ?_
        rw [hallmarklaw02_UtfSplits.l1, if_pos c0, if_pos c1, hw, hz, if_pos g', hl]
      · have hl : (p.toList != ([] : List UInt8)) = true := by
          rw [Lib.toList_data, bne_iff_ne]
          intro e
          apply hp
          rw [Lib.size_eq, e]
          rfl
        have hne : ¬ (z.extract q (q + p.size)).toList = p.toList := by
          rw [Lib.toList_data, Lib.toList_data]
          rcases hF with hF | hF
          · exact absurd hF hp
          · exact hF q g
        have ih : Ev fun k => hallmarklaw02_UtfSplits.l1 k s p l x (i : Int) ((q + 1 : Nat) : Int) := by
          cases n with
          | zero => omega
          | succ n => exact inner s p l x i z hi hz hF hzs hps h n (q + 1) (by omega) (by omega)
        have hj : Ev fun k => hallmarklaw02_UtfSplits.j3 k s p l x (i : Int) (q : Int) true := by
          refine ih.step fun k => ?_
          rw [hallmarklaw02_UtfSplits.j3, if_pos rfl, if_pos c0, if_pos c1, if_pos d0, hw, if_pos (by omega), hz, if_pos g', Int.toNat_natCast, Int.toNat_natCast, if_neg hne, hw1]
        refine hj.step fun k => ?_
        rw [hallmarklaw02_UtfSplits.l1, if_pos c0, if_pos c1, hw, hz, if_pos g', hl]
    · refine hno.step fun k => ?_
      rw [hallmarklaw02_UtfSplits.l1, if_pos c0, if_pos c1, hw, hz, if_neg (by omega)]

theorem one_more (s p : ByteArray) (l : List ByteArray) (x : ByteArray) (i : Nat) (z : ByteArray) (hi : i < l.length) (hz : rdOf ByteArray.empty l (i : Int) = z) (hF : Free p z) (hzs : z.size ≤ 1048576) (hps : p.size ≤ 1048576) (hxs : x.size ≤ 2097152)
    (h : Ev fun k => hallmarklaw02_UtfSplits.l0 k s p l (x ++ z) (wrap64 ((i : Int) + 1))) : Ev fun k => hallmarklaw02_UtfSplits.j1 k s p l x (i : Int) :=
  (inner s p l (x ++ z) i z hi hz hF hzs hps h (z.size + 1) 0 (by omega) (by omega)).step fun k => by
    rw [hallmarklaw02_UtfSplits.j1, if_pos (by omega), if_pos (by omega), hz, if_pos (by omega)]
    rfl

theorem outer (s p : ByteArray) (l : List ByteArray) (hl : l.length ≤ 1048577) (hs : s.size ≤ 1048576) (hps : p.size ≤ 1048576) (hlen : p.size = 0 → l.length = (Utf.pcs s.data.toList).length) (hF : ∀ y ∈ l, Free p y) :
    ∀ (n i : Nat) (x : ByteArray), i + n = l.length → 1 ≤ i → x.data.toList ++ tailJ p (l.drop i) = s.data.toList → Ev fun k => hallmarklaw02_UtfSplits.l0 k s p l x (i : Int)
  | 0, i, x, hi, h1, hx => by
    rw [List.drop_eq_nil_of_le (by omega)] at hx
    have hx' : x.toList = s.toList := by
      rw [Lib.toList_data, Lib.toList_data, ← hx]
      simp [tailJ]
    refine Ev.now fun k => ?_
    rw [hallmarklaw02_UtfSplits.l0, if_neg (by omega), if_pos (by omega), if_pos hx']
    by_cases hp : p.size = 0
    · have e : p.toList = [] := by
        rw [Lib.toList_data]
        exact List.length_eq_zero_iff.1 (by rw [← Lib.size_eq]; exact hp)
      rw [if_pos e]
      unfold utf_Len.f
      rw [if_pos (by omega), Option.bind_some, hlen hp, beq_self_eq_true]
    · have e : ¬ p.toList = [] := by
        rw [Lib.toList_data]
        intro e
        apply hp
        rw [Lib.size_eq, e]
        rfl
      rw [if_neg e]
  | n + 1, i, x, hi, h1, hx => by
    have hlt : i < l.length := by omega
    have hd : l.drop i = l[i] :: l.drop (i + 1) := List.drop_eq_getElem_cons hlt
    have hz : rdOf ByteArray.empty l (i : Int) = l[i] := by
      unfold rdOf
      rw [Int.toNat_natCast, List.getD_eq_getElem?_getD, List.getElem?_eq_getElem hlt]
      rfl
    rw [hd] at hx
    have hx2 : (x ++ p ++ l[i]).data.toList ++ tailJ p (l.drop (i + 1)) = s.data.toList := by
      rw [← hx]
      show _ = x.data.toList ++ (p.data.toList ++ l[i].data.toList ++ tailJ p (l.drop (i + 1)))
      simp [ByteArray.data_append, List.append_assoc]
    have hsz : x.size + p.size + l[i].size ≤ s.size := by
      have := congrArg List.length hx2
      rw [List.length_append, ← Lib.size_eq, ← Lib.size_eq, ByteArray.size_append, ByteArray.size_append] at this
      omega
    have hw : wrap64 ((i : Int) + 1) = ((i + 1 : Nat) : Int) := by unfold wrap64; omega
    have ih := outer s p l hl hs hps hlen hF n (i + 1) (x ++ p ++ l[i]) (by omega) (by omega) hx2
    rw [← hw] at ih
    have hj := one_more s p l (x ++ p) i l[i] hlt hz (hF _ (List.getElem_mem hlt)) (by omega) hps (by rw [ByteArray.size_append]; omega) ih
    refine hj.step fun k => ?_
    rw [hallmarklaw02_UtfSplits.l0, if_pos (by omega), if_pos (by omega), if_pos (by omega)]

theorem pure_UtfSplits (a0 a1 : ByteArray) (h0 : a0.size ≤ 1048576) (h1 : a1.size ≤ 1048576) : ∃ k, hallmarklaw02_UtfSplits.f k a0 a1 = some true := by
  have hsp : utf_Split.f a0 a1 = some (splitZ a0 a1) := if_pos (by omega)
  by_cases hz : a0.size = 0
  · refine ⟨8, ?_⟩
    unfold hallmarklaw02_UtfSplits.f
    rw [fixed_at 8 (Nat.le_refl _), Option.bind_some, if_pos rfl, hsp, Option.bind_some]
    have he : a0.toList = [] := by
      rw [Lib.toList_data]
      exact List.length_eq_zero_iff.1 (by rw [← Lib.size_eq]; exact hz)
    rw [if_pos he]
    unfold splitZ
    rw [if_pos hz]
    rfl
  · have hne : ¬ a0.toList = [] := by
      rw [Lib.toList_data]
      intro e
      apply hz
      rw [Lib.size_eq, e]
      rfl
    have hgood : ∃ x t, splitZ a0 a1 = x :: t ∧ x.data.toList ++ tailJ a1 t = a0.data.toList ∧ ∀ y ∈ x :: t, Free a1 y := by
      unfold splitZ
      rw [if_neg hz]
      by_cases hp : a1.size = 0
      · rw [if_pos hp]
        exact pieces_good a0 a1 (by omega) hp
      · rw [if_neg hp]
        exact split_good a1 (by omega) _ a0 rfl
    have hlen : a1.size = 0 → (splitZ a0 a1).length = (Utf.pcs a0.data.toList).length := by
      intro hp
      unfold splitZ
      rw [if_neg hz, if_pos hp]
      exact piecesUpTo_length a0 _
    have hlb : (splitZ a0 a1).length ≤ 1048577 := by
      by_cases hp : a1.size = 0
      · have := Utf.pcs_length a0.data.toList
        rw [← Lib.size_eq] at this
        rw [hlen hp]
        omega
      · have hc := Lib.countB_le a1 (by omega) a0.size a0 (Nat.le_refl _)
        have hl := Lib.splitB_length_le a1 0 (Lib.countB a0 a1) a0
        unfold splitZ
        rw [if_neg hz, if_neg hp]
        omega
    obtain ⟨x, t, e, hj, hF⟩ := hgood
    rw [e] at hlen hlb
    have hsz : x.size ≤ a0.size := by
      have := congrArg List.length hj
      rw [List.length_append, ← Lib.size_eq, ← Lib.size_eq] at this
      omega
    have hw : wrap64 (((0 : Nat) : Int) + 1) = ((1 : Nat) : Int) := by unfold wrap64; decide
    have ho := outer a0 a1 (x :: t) hlb h0 h1 hlen hF t.length 1 ((⟨#[]⟩ : ByteArray) ++ x) (by rw [List.length_cons]; omega) (Nat.le_refl _) (by
      rw [List.drop_succ_cons, List.drop_zero, ByteArray.data_append]
      simpa using hj)
    rw [← hw] at ho
    have hj1 := one_more a0 a1 (x :: t) ⟨#[]⟩ 0 x (by simp) rfl (hF _ List.mem_cons_self) (by omega) h1 (by decide) ho
    have hl0 : Ev fun k => hallmarklaw02_UtfSplits.l0 k a0 a1 (x :: t) (⟨#[]⟩ : ByteArray) 0 := hj1.step fun k => by
      rw [hallmarklaw02_UtfSplits.l0, if_pos (by rw [List.length_cons]; omega), if_neg (by decide)]
      rfl
    obtain ⟨K, hK⟩ := hl0
    refine ⟨K + 8, ?_⟩
    unfold hallmarklaw02_UtfSplits.f
    rw [fixed_at _ (by omega), Option.bind_some, if_pos rfl, hsp, Option.bind_some, if_neg hne, e]
    exact hK _ (by omega)

end Go.Proofs.YtfkianfddjccgaaDoor.U

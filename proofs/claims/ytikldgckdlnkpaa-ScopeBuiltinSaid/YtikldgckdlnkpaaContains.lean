/- A text of words with one blank around each contains " s " exactly where s is one of the words; s is not empty and bears no blank. Plain Lean; no program. -/
import Derived.Lib.IndexMore
namespace Go.Proofs.Ytikldgckdlnkpaa
open Go

theorem contains_cons (b : UInt8) (l sub : List UInt8) : Lib.contains (b :: l) sub = (sub.isPrefixOf (b :: l) || Lib.contains l sub) := by
  unfold Lib.contains
  have h := Lib.index_ge l sub
  conv => lhs; unfold Lib.index
  cases hp : sub.isPrefixOf (b :: l) with
  | true => simp
  | false =>
    simp only [Bool.false_eq_true, if_false, Bool.false_or]
    by_cases hi : Lib.index l sub = -1
    · rw [hi]; decide
    · have : (Lib.index l sub == -1) = false := by rw [beq_eq_false_iff_ne]; exact hi
      rw [this]
      simp only [Bool.false_eq_true, if_false]
      have h0 : 0 ≤ Lib.index l sub := by omega
      rw [decide_eq_true h0, decide_eq_true (by omega)]

theorem contains_nil {sub : List UInt8} (h : sub ≠ []) : Lib.contains [] sub = false := by
  unfold Lib.contains Lib.index
  cases sub with
  | nil => exact absurd rfl h
  | cons a t => simp

/-- no instance begins inside a word -/
theorem contains_skip (s : List UInt8) : ∀ (w : List UInt8) (rest : List UInt8), (32 : UInt8) ∉ w → Lib.contains (w ++ rest) (32 :: s) = Lib.contains rest (32 :: s)
  | [], _, _ => rfl
  | a :: w, rest, h => by
    have ha : (32 : UInt8) ≠ a := fun e => h (by rw [e]; exact List.mem_cons_self)
    rw [List.cons_append, contains_cons, contains_skip s w rest (fun e => h (List.mem_cons_of_mem _ e))]
    have : ((32 : UInt8) == a) = false := by rw [beq_eq_false_iff_ne]; exact ha
    simp only [List.isPrefixOf, this, Bool.false_and, Bool.false_or]

theorem prefix_word : ∀ (s w : List UInt8) (rest : List UInt8), (32 : UInt8) ∉ s → (32 : UInt8) ∉ w → (s ++ [32]).isPrefixOf (w ++ 32 :: rest) = decide (s = w)
  | [], [], _, _, _ => by simp [List.isPrefixOf]
  | [], b :: w, rest, _, hw => by
    have hb : (32 : UInt8) ≠ b := fun e => hw (by rw [e]; exact List.mem_cons_self)
    have : ((32 : UInt8) == b) = false := by rw [beq_eq_false_iff_ne]; exact hb
    simp [List.isPrefixOf, this]
  | a :: s, [], rest, hs, _ => by
    have ha : a ≠ (32 : UInt8) := fun e => hs (by rw [e]; exact List.mem_cons_self)
    have : (a == (32 : UInt8)) = false := by rw [beq_eq_false_iff_ne]; exact ha
    simp [List.isPrefixOf, this]
  | a :: s, b :: w, rest, hs, hw => by
    have ih := prefix_word s w rest (fun e => hs (List.mem_cons_of_mem _ e)) (fun e => hw (List.mem_cons_of_mem _ e))
    simp only [List.cons_append, List.isPrefixOf, ih]
    by_cases h : a = b
    · subst h; simp
    · have : (a == b) = false := by rw [beq_eq_false_iff_ne]; exact h
      simp [this, h]

/-- the words, each with a blank behind it -/
def lined (ws : List (List UInt8)) : List UInt8 := ws.flatMap (· ++ [32])

theorem contains_words (s : List UInt8) (h0 : s ≠ []) (hs : (32 : UInt8) ∉ s) : ∀ ws : List (List UInt8), (∀ w ∈ ws, (32 : UInt8) ∉ w) →
    Lib.contains (32 :: lined ws) (32 :: (s ++ [32])) = decide (s ∈ ws)
  | [], _ => by
    unfold lined
    rw [List.flatMap_nil, contains_cons, contains_nil (by simp)]
    cases s with
    | nil => exact absurd rfl h0
    | cons a t => simp [List.isPrefixOf]
  | w :: ws, hw => by
    have ih := contains_words s h0 hs ws (fun x hx => hw x (List.mem_cons_of_mem _ hx))
    have hw0 := hw w List.mem_cons_self
    have e : lined (w :: ws) = w ++ 32 :: lined ws := by simp [lined]
    rw [e, contains_cons, contains_skip _ w _ hw0, ih]
    have p := prefix_word s w (lined ws) hs hw0
    simp only [List.isPrefixOf, p, beq_self_eq_true, Bool.true_and]
    by_cases h : s = w
    · subst h; simp
    · simp [h]

/-- with a blank in it, and no two blanks side by side to be had: never -/
theorem contains_none_of_empty (ws : List (List UInt8)) (hw : ∀ w ∈ ws, (32 : UInt8) ∉ w ∧ w ≠ []) : Lib.contains (32 :: lined ws) [32, 32] = false := by
  induction ws with
  | nil => decide
  | cons w ws ih =>
    have ih := ih (fun x hx => hw x (List.mem_cons_of_mem _ hx))
    obtain ⟨hw0, hn⟩ := hw w List.mem_cons_self
    have e : lined (w :: ws) = w ++ 32 :: lined ws := by simp [lined]
    rw [e, contains_cons, contains_skip _ w _ hw0, ih]
    cases w with
    | nil => exact absurd rfl hn
    | cons a t =>
      have ha : (32 : UInt8) ≠ a := fun e => hw0 (by rw [e]; exact List.mem_cons_self)
      have : ((32 : UInt8) == a) = false := by rw [beq_eq_false_iff_ne]; exact ha
      simp [List.isPrefixOf, this]

/-- a switch over texts, as the printer writes it -/
def chain : List (List UInt8) → List UInt8 → Option Bool
  | [], _ => some false
  | w :: ws, l => if l = w then some true else chain ws l
theorem chain_eq (l : List UInt8) : ∀ ws, chain ws l = some (decide (l ∈ ws))
  | [] => by simp [chain]
  | w :: ws => by
    unfold chain
    by_cases h : l = w
    · rw [if_pos h]; simp [h]
    · rw [if_neg h, chain_eq l ws]; simp [h]

end Go.Proofs.Ytikldgckdlnkpaa

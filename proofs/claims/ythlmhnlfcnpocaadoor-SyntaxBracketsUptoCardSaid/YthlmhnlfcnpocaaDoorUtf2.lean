/- The pieces of a part of a text that is cut between pieces: plain Lean over the model's own decoding of UTF-8; no program. -/
import Derived.Test.YthlmhnlfcnpocaaDoorUtf
namespace Go.Proofs.YthlmhnlfcnpocaaDoor.Utf
open Go Go.Lib
set_option linter.unusedSimpArgs false

theorem decodeN_1 (n b0 b1 b2 b3 : Nat) (h : b0 < 128) : decodeN n b0 b1 b2 b3 = (b0, 1) := by
  unfold decodeN
  rw [if_pos h]
theorem decodeN_2 (n b0 b1 b2 b3 : Nat) (h0 : b0 / 32 = 6) (h1 : 1 < n) (h2 : b1 / 64 = 2) (h3 : 128 ≤ b0 % 32 * 64 + b1 % 64) : decodeN n b0 b1 b2 b3 = (b0 % 32 * 64 + b1 % 64, 2) := by
  unfold decodeN
  rw [if_neg (by omega), if_pos ⟨h0, h1, h2⟩, if_pos h3]
theorem decodeN_3 (n b0 b1 b2 b3 : Nat) (h0 : b0 / 16 = 14) (h1 : 2 < n) (h2 : b1 / 64 = 2) (h3 : b2 / 64 = 2) (h4 : 2048 ≤ b0 % 16 * 4096 + b1 % 64 * 64 + b2 % 64)
    (h5 : b0 % 16 * 4096 + b1 % 64 * 64 + b2 % 64 < 55296 ∨ 57344 ≤ b0 % 16 * 4096 + b1 % 64 * 64 + b2 % 64) : decodeN n b0 b1 b2 b3 = (b0 % 16 * 4096 + b1 % 64 * 64 + b2 % 64, 3) := by
  unfold decodeN
  rw [if_neg (by omega), if_neg (by omega), if_pos ⟨h0, ⟨by omega, h2⟩, h1, h3⟩, if_pos ⟨h4, by omega⟩]
theorem decodeN_4 (n b0 b1 b2 b3 : Nat) (h0 : b0 / 8 = 30) (h1 : 3 < n) (h2 : b1 / 64 = 2) (h3 : b2 / 64 = 2) (h4 : b3 / 64 = 2) (h5 : 65536 ≤ b0 % 8 * 262144 + b1 % 64 * 4096 + b2 % 64 * 64 + b3 % 64)
    (h6 : b0 % 8 * 262144 + b1 % 64 * 4096 + b2 % 64 * 64 + b3 % 64 ≤ 1114111) : decodeN n b0 b1 b2 b3 = (b0 % 8 * 262144 + b1 % 64 * 4096 + b2 % 64 * 64 + b3 % 64, 4) := by
  unfold decodeN
  rw [if_neg (by omega), if_neg (by omega), if_neg (by omega), if_pos (by omega), if_pos (by omega)]

/-- what is read of the first bytes hangs on no later ones -/
theorem decodeN_less (n N b0 b1 b2 b3 c1 c2 c3 : Nat) (hn : n ≤ N) (e1 : 1 < n → c1 = b1) (e2 : 2 < n → c2 = b2) (e3 : 3 < n → c3 = b3) (hw : (decodeN N b0 b1 b2 b3).2 ≤ n) :
    decodeN n b0 c1 c2 c3 = decodeN N b0 b1 b2 b3 := by
  rcases decodeN_shape N b0 b1 b2 b3 with ⟨a0, e⟩ | ⟨a0, a1, a2, a3, e⟩ | ⟨a0, a1, a2, a3, a4, a5, e⟩ | ⟨a0, a1, a2, a3, a4, a5, a6, e⟩ | e
  · rw [e, decodeN_1 _ _ _ _ _ a0]
  · rw [e] at hw ⊢
    simp only at hw
    obtain rfl := e1 (by omega)
    exact decodeN_2 _ _ _ _ _ a0 (by omega) a2 a3
  · rw [e] at hw ⊢
    simp only at hw
    obtain rfl := e1 (by omega)
    obtain rfl := e2 (by omega)
    exact decodeN_3 _ _ _ _ _ a0 (by omega) a2 a3 a4 a5
  · rw [e] at hw ⊢
    simp only at hw
    obtain rfl := e1 (by omega)
    obtain rfl := e2 (by omega)
    obtain rfl := e3 (by omega)
    exact decodeN_4 _ _ _ _ _ a0 (by omega) a2 a3 a4 a5 a6
  · rw [e]
    rcases decodeN_shape n b0 c1 c2 c3 with ⟨a0, g⟩ | ⟨a0, a1, a2, a3, g⟩ | ⟨a0, a1, a2, a3, a4, a5, g⟩ | ⟨a0, a1, a2, a3, a4, a5, a6, g⟩ | g
    · rw [decodeN_1 _ _ _ _ _ a0] at e ⊢
      exact e
    · obtain rfl := e1 (by omega)
      rw [decodeN_2 N _ _ _ _ a0 (by omega) a2 a3] at e
      simp at e
    · obtain rfl := e1 (by omega)
      obtain rfl := e2 (by omega)
      rw [decodeN_3 N _ _ _ _ a0 (by omega) a2 a3 a4 a5] at e
      simp at e
    · obtain rfl := e1 (by omega)
      obtain rfl := e2 (by omega)
      obtain rfl := e3 (by omega)
      rw [decodeN_4 N _ _ _ _ a0 (by omega) a2 a3 a4 a5 a6] at e
      simp at e
    · exact g

theorem getD_take (l : List UInt8) (m k : Nat) (h : k < m) : (l.take m).getD k 0 = l.getD k 0 := by
  simp [List.getD, List.getElem?_take, h]
theorem decodeL_take (l : List UInt8) (m : Nat) (hl : l ≠ []) (h : (decodeL l).2 ≤ m) : decodeL (l.take m) = decodeL l := by
  have h1 := width_pos l hl
  have h2 := decodeL_le l hl
  rw [decodeL_N l] at h h1 h2 ⊢
  rw [decodeL_N]
  have h0 : (l.take m).getD 0 0 = l.getD 0 0 := getD_take l m 0 (by omega)
  rw [h0, List.length_take]
  refine decodeN_less _ _ _ _ _ _ _ _ _ (by omega) (fun g => ?_) (fun g => ?_) (fun g => ?_) (by omega)
  · rw [getD_take l m 1 (by omega)]
  · rw [getD_take l m 2 (by omega)]
  · rw [getD_take l m 3 (by omega)]

end Go.Proofs.YthlmhnlfcnpocaaDoor.Utf

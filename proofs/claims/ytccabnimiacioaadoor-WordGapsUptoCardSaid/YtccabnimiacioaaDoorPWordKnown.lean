/- Plain law: the examples of word's chapter. -/
import Derived.Test.YtccabnimiacioaaDoorUL3x1
namespace Go.Proofs.YtccabnimiacioaaDoor.U
open Go.RowKit Go.Proofs.YtccabnimiacioaaDoorW.PrintWords

theorem known_20 : hallmarklaw16_WordKnown.f 20 = some true := by kernel_rfl
theorem known_ok : ∀ n, hallmarklaw16_WordKnown.f (n + 20) = some true
  | 0 => known_20
  | n + 1 => hallmarklaw16_WordKnown.mono (n + 20) true (known_ok n)
theorem known_at (k : Nat) (h : 20 ≤ k) : hallmarklaw16_WordKnown.f k = some true := by
  obtain ⟨n, rfl⟩ : ∃ n, k = n + 20 := ⟨k - 20, by omega⟩
  exact known_ok n
theorem pure_WordKnown : ∃ k, hallmarklaw16_WordKnown.f k = some true := ⟨20, known_20⟩

end Go.Proofs.YtccabnimiacioaaDoor.U

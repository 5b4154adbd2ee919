/- The calls whose answers the document fixes answer so: by evaluation. -/
import Derived.Test.YtfkianfddjccgaaDoorUL3x0
namespace Go.Proofs.YtfkianfddjccgaaDoor.U
open Go.RowKit Go.Proofs.YtfkianfddjccgaaDoorW.PrintWords

theorem fixed_8 : hallmarklaw02_fixed.f 8 = some true := by kernel_rfl
theorem fixed_ok : ∀ n, hallmarklaw02_fixed.f (n + 8) = some true
  | 0 => fixed_8
  | n + 1 => hallmarklaw02_fixed.mono (n + 8) true (fixed_ok n)
theorem fixed_at (k : Nat) (h : 8 ≤ k) : hallmarklaw02_fixed.f k = some true := by
  obtain ⟨n, rfl⟩ : ∃ n, k = n + 8 := ⟨k - 8, by omega⟩
  exact fixed_ok n

end Go.Proofs.YtfkianfddjccgaaDoor.U

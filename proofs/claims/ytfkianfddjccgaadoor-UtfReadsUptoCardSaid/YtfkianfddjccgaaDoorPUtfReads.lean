/- Plain law: every text, from every place on, as a literal. -/
import Derived.Test.YtfkianfddjccgaaDoorUL3x1
import Derived.Test.YtfkianfddjccgaaDoorRefUnq
namespace Go.Proofs.YtfkianfddjccgaaDoor.U
open Go.RowKit Go.Proofs.YtfkianfddjccgaaDoorW.PrintWords

theorem pure_UtfReads (a0 : ByteArray) (a1 : Int) (h0 : a0.size ≤ 1048576) (_ : (Lit.int .i64 a1).wf = true) : ∃ k, hallmarklaw02_UtfReads.f k a0 a1 = some true := by
  refine ⟨2 * a0.size + 300, ?_⟩
  have e1 : utf_Unquote.f a0 a1 = some (unqAt a0 a1) := if_pos (by omega)
  have e2 := refUnq_eq a0 h0 a1 (2 * a0.size + 300) (Nat.le_refl _)
  unfold hallmarklaw02_UtfReads.f
  rw [fixed_at _ (by omega)]
  simp only [Option.bind_some, if_true]
  unfold hallmarklaw02_reads.f
  rw [e1, e2]
  simp

end Go.Proofs.YtfkianfddjccgaaDoor.U

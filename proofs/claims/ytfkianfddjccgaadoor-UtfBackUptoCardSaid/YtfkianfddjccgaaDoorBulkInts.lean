/- The bound on an input's bulk bounds the length of a list of numbers in it. -/
import Derived.Test.YtfkianfddjccgaaDoorBulk
import Derived.Test.YtfkianfddjccgaaDoorWSized
import Derived.ChangeSlices
namespace Go.Proofs.YtfkianfddjccgaaDoor.bulks
open Go.ChangeShapes Go.WideShapes

theorem bulk_ints {H : Type} {enc : TypeId × Value → H} {P : Program} {W : World} {base : Nat} {spare : Nat → Bool} {held : Bool} {t e : TypeId} {k : IntKind} {a : Option Addr} {len cap : Nat} {d : DataW H} {ps : List MemPlace} {ds : List (DataW H)}
    (hb : Rows.uptoBulkAll ds ≤ 1048576) (hd : d ∈ ds) (hu : P.underlying t = some (.slice e)) (he : P.underlying e = some (.int k)) (hc : P.cellsOf e = 1)
    (h : DataW.Trod enc P W base spare held t (.slice a len cap) d ps) : len ≤ 1048576 := by
  obtain ⟨fuel, hf⟩ := h
  rcases open_ints hu he hc hf with ⟨hcs, _⟩ | ⟨x, l, c, zs, hcs, _, hl, _, hz, hx, _, _⟩
  · simp [Value.cells] at hcs
    obtain ⟨rfl, rfl, rfl⟩ := hcs
    simp
  · simp [Value.cells] at hcs
    obtain ⟨rfl, rfl, rfl⟩ := hcs
    obtain ⟨hx, _⟩ := Prod.mk.inj hx
    subst hx
    have z := Nat.le_trans (part_le hd) hb
    have z2 := slice_le (lits (H := H) k (zs.take len)) (lits (H := H) k (zs.drop len))
    have hl2 : len ≤ zs.length := by
      rw [hz]
      split
      · exact hl
      · exact Nat.le_refl _
    have h1 : (lits (H := H) k (zs.take len)).length + (lits (H := H) k (zs.drop len)).length = zs.length := by
      simp [lits]
      omega
    omega

end Go.Proofs.YtfkianfddjccgaaDoor.bulks

/- The contract of strings.Contains in the printer's form: it answers whether the second text stands in the first; the first is shorter than 4294967281 bytes, or the second is one byte. -/
import Derived.Test.YthlmhnlfcnpocaaDoorTabs
import Derived.Test.YthlmhnlfcnpocaaDoorShelf
import Derived.Test.YthlmhnlfcnpocaaDoorKept
import Derived.Lib.IndexBytes
namespace Go.Proofs.YthlmhnlfcnpocaaDoor.U
open Go.RowKit Go.Proofs.YthlmhnlfcnpocaaDoorW.PrintWords

def strings_Contains.f (a0 a1 : ByteArray) : Option Bool :=
  if a1.size = 1 ∨ a0.size < 4294967281 then some (Lib.contains a0.data.toList a1.data.toList) else none

theorem strings_Contains.calls (a0 a1 : ByteArray) (r : Bool) (w : World) (hT : Tabs w) (h : strings_Contains.f a0 a1 = some r) :
    Calls Tryd.prog 56 #[.string a0, .string a1] w fun e w' => e = .returned (.bool r) ∧ Drawn0 w w' := by
  unfold strings_Contains.f at h
  split at h
  · rename_i hc
    obtain rfl := Option.some.inj h
    rcases hc with hc | hc
    · obtain ⟨c, rfl⟩ : ∃ c, a1 = ⟨#[c]⟩ := by
        obtain ⟨⟨l⟩⟩ := a1
        cases l with
        | nil => exact absurd hc (by decide)
        | cons c t =>
          cases t with
          | nil => exact ⟨c, rfl⟩
          | cons d t => exact absurd hc (by simp [ByteArray.size])
      refine (Tryd.strings_Contains_one a0 c w).mono fun e w' ⟨he, hw⟩ => ⟨?_, by rw [hw]; exact Drawn0.refl w⟩
      rw [he]
      show Ending.returned (.bool (decide (0 ≤ Lib.indexByte a0.data.toList c))) = .returned (.bool (decide (0 ≤ Lib.index a0.data.toList [c])))
      rw [Lib.index_one]
    · obtain ⟨m, hm⟩ := hT.maxlen
      exact (Tryd.strings_Contains a0 a1 m w hc hm).mono fun e w' ⟨he, hw⟩ => ⟨he, by rw [hw]; exact Drawn0.refl w⟩
  · cases h

end Go.Proofs.YthlmhnlfcnpocaaDoor.U

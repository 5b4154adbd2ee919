/- A byte of a string, read off its list. -/
import Derived.Test.YthlmhnlfcnpocaaDoorU0
import Derived.Lib.ConvBytes
namespace Go.Proofs.YthlmhnlfcnpocaaDoor.U
open Go.RowKit Go.Proofs.YthlmhnlfcnpocaaDoorW.PrintWords

theorem getD_bt (s : ByteArray) (j : Nat) (hj : j < s.size) : ((s.data.toList.getD j 0).toNat : Int) = bt s (j : Int) := by
  unfold bt
  rw [dif_pos (show (j : Int).toNat < s.size from hj)]
  have h2 : j < s.data.toList.length := by rw [Array.length_toList]; exact hj
  have : s.data.toList.getD j 0 = s[j]'hj := by
    rw [List.getD_eq_getElem?_getD, List.getElem?_eq_getElem h2]
    rfl
  rw [this]
  rfl

end Go.Proofs.YthlmhnlfcnpocaaDoor.U

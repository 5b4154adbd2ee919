/- utf8.DecodeRuneInString at a place of a text; what an escape may be. -/
import Derived.Test.YthlmhnlfcnpocaaDoorEEscape
import Derived.Test.YthlmhnlfcnpocaaDoorTabs
import Derived.Test.YthlmhnlfcnpocaaDoorUtf
import Derived.Test.YthlmhnlfcnpocaaDoorShelf
import Derived.Shelf.Unicode.DecodeSlow
namespace Go.Proofs.YthlmhnlfcnpocaaDoor.U
open Go.RowKit Go.Proofs.YthlmhnlfcnpocaaDoorW.PrintWords

theorem decodeGo_at (s : ByteArray) (pos : Nat) (h : pos < s.size) : Lib.decodeGo (s.extract pos s.size) = Utf8.decode s pos := by
  have hx : (s.extract pos s.size).data.toList = s.data.toList.drop pos := by
    rw [Lib.extract_data, List.take_of_length_le (by rw [List.length_drop, ← Lib.size_eq]; omega)]
  have hsz : (s.extract pos s.size).size ≠ 0 := by rw [Lib.size_eq, hx, List.length_drop, ← Lib.size_eq]; omega
  unfold Lib.decodeGo
  rw [if_neg hsz, ← Lib.decodeL_drop s pos, ← hx]
  rfl

theorem dec_calls (s : ByteArray) (pos : Nat) (h : pos < s.size) (w : World) (hT : Tabs w) :
    Calls Tryd.prog 50 #[.string (s.extract pos s.size)] w fun e w' => e = .returned (.tuple #[.int .i32 (Utf8.decode s pos).1, .int .i64 (Utf8.decode s pos).2]) ∧ Below w.heap.size w w' := by
  have := Tryd.utf8_DecodeRuneInString (s.extract pos s.size) w hT.u8
  rw [decodeGo_at s pos h] at this
  exact this

theorem escV_range (n m c0 sh : Int) (z : Nat) (hn0 : -1 ≤ n) (hn1 : n < 65536) (hn2 : 0 ≤ n → 6 ≤ z) (hm1 : m < 65536) (hm2 : 0 ≤ m → 12 ≤ z) (hs : sh ≤ 92) :
    (escV n m c0 sh z).2.2 = 0 → 0 ≤ (escV n m c0 sh z).1 ∧ (escV n m c0 sh z).1 ≤ 1114111 ∧ 2 ≤ (escV n m c0 sh z).2.1 ∧ (escV n m c0 sh z).2.1 ≤ z := by
  unfold escV
  repeat' split
  all_goals intro h
  all_goals simp at h ⊢
  all_goals omega
theorem escT_range (t : ByteArray) : (escT t).2.2 = 0 → 0 ≤ (escT t).1 ∧ (escT t).1 ≤ 1114111 ∧ 2 ≤ (escT t).2.1 ∧ (escT t).2.1 ≤ t.size := by
  have h1 := numberedZ_range t
  have h2 := numberedZ_range (t.extract 6 t.size)
  have h3 := shortZ_range (bt t 1)
  rw [ByteArray.size_extract] at h2
  exact escV_range _ _ _ _ _ h1.1 h1.2.1 h1.2.2 h2.2.1 (fun h => by have := h2.2.2 h; omega) h3.2

end Go.Proofs.YthlmhnlfcnpocaaDoor.U

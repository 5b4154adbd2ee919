/- A row of the call's own beside an iterator over a string. -/
import Derived.Test.YtfkianfddjccgaaDoorWWords
import Derived.Lib.OthersKept
namespace Go.Proofs.YtfkianfddjccgaaDoor
open Go Go.RowKit Go.Proofs.YtfkianfddjccgaaDoorW.PrintWords

theorem own_ne_iter {w : World} {base : Nat} {e : TypeId} {size n : Nat} {v : Value} {xs : List Value} (h : w.ownsRow base e size v n xs) {k : Nat} {s : ByteArray} {p : Nat} (hk : w.heap[k]? = some (.stringIter s p)) : some k ≠ v.ownBlock := by
  intro e0
  obtain ⟨cells, hc⟩ := own_typed h k e0.symm
  rw [hk] at hc
  cases hc

theorem own_iterAt {w : World} {base : Nat} {e : TypeId} {size n : Nat} {v : Value} {xs : List Value} (h : w.ownsRow base e size v n xs) {k : Nat} {s : ByteArray} {p : Nat} (hk : w.heap[k]? = some (.stringIter s p)) (p' : Nat) : (w.iterAt k s p').ownsRow base e size v n xs :=
  own_move h fun j hj => Lib.iterAt_other w k j s p' fun e0 => own_ne_iter h hk (by rw [← e0]; exact hj.symm)

theorem iter_alloc {w : World} {k : Nat} {s : ByteArray} {p : Nat} (hk : w.heap[k]? = some (.stringIter s p)) (o : Obj) : (w.alloc o).heap[k]? = some (.stringIter s p) :=
  (Below.heap_alloc w o k (Array.getElem?_eq_some_iff.1 hk).1).trans hk

theorem iter_grown {w w1 : World} {k : Nat} {s : ByteArray} {p : Nat} (hk : w.heap[k]? = some (.stringIter s p)) {row : Option Nat} (hg : w.grownBy w1 row) (hne : some k ≠ row) : w1.heap[k]? = some (.stringIter s p) :=
  (hg.block k (Array.getElem?_eq_some_iff.1 hk).1 hne).trans hk

end Go.Proofs.YtfkianfddjccgaaDoor

/- What a world must hold for the library's calls: the tables of unicode/utf8 as laid, some number in internal/bytealg.MaxLen. -/
import Derived.Below
import Derived.Test.YthlmhnlfcnpocaaDoorProg
import Derived.Shelf.Unicode.DecodeSlow
namespace Go.Proofs.YthlmhnlfcnpocaaDoor
open Go.RowKit

structure Tabs (w : World) : Prop where
  maxlen : ∃ m, w.cell? ⟨3, 0, none⟩ = some (.int .i64 m)
  u8 : Lib.Utf8Tabs 1 2 w

theorem tabs_cell {w w' : World} (hb : Below w.heap.size w w') {a : Addr} {v : Value} (h : w.cell? a = some v) : w'.cell? a = some v := (hb.cell (World.block_lt_of_cell? w a h)).trans h

theorem Tabs.below {w w' : World} (h : Tabs w) (hb : Below w.heap.size w w') : Tabs w' where
  maxlen := h.maxlen.imp fun _ hm => tabs_cell hb hm
  u8 := ⟨fun c hc => tabs_cell hb (h.u8.1 c hc), fun i hi => ⟨tabs_cell hb (h.u8.2 i hi).1, tabs_cell hb (h.u8.2 i hi).2⟩⟩

theorem Tabs.of_heap {w w' : World} (h : Tabs w) (e : w'.heap = w.heap) : Tabs w' where
  maxlen := h.maxlen.imp fun _ hm => (World.cell?_of_block (by rw [e])).trans hm
  u8 := ⟨fun c hc => (World.cell?_of_block (by rw [e])).trans (h.u8.1 c hc), fun i hi => ⟨(World.cell?_of_block (by rw [e])).trans (h.u8.2 i hi).1, (World.cell?_of_block (by rw [e])).trans (h.u8.2 i hi).2⟩⟩

end Go.Proofs.YthlmhnlfcnpocaaDoor

/- The tables of unicode/utf8 in a world: they stand as long as nothing below is written. Of no program. -/
import Derived.Test.YtjbhflicehnocaaDoorWWords
import Derived.Test.YtjbhflicehnocaaDoorWLast
import Derived.Test.YtjbhflicehnocaaDoorWMore
import Derived.Shelf.Unicode.DecodeSlow
namespace Go.Proofs.YtjbhflicehnocaaDoor.Mine
open Go.RowKit Go.Proofs.YtjbhflicehnocaaDoorW.PrintWords Go.Proofs.YtjbhflicehnocaaDoorW.PrintLast Go.Proofs.YtjbhflicehnocaaDoorW.PrintMore

theorem tabs_below {g3 g4 : Nat} {w w1 : World} (h : Lib.Utf8Tabs g3 g4 w) (hb : Below w.heap.size w w1) : Lib.Utf8Tabs g3 g4 w1 :=
  ⟨fun c hc => pw_cell_below hb (h.1 c hc), fun i hi => ⟨pw_cell_below hb (h.2 i hi).1, pw_cell_below hb (h.2 i hi).2⟩⟩
end Go.Proofs.YtjbhflicehnocaaDoor.Mine

/- What the proof of the law ParseCochain stands on, part 9: words, each Go function's Lean function, and that the Go code comes to its answers; no condition. (Packed by wip/myprint/pack.py out of what the kit's printer wrote, its words among it, partly by our patches of it, and out of texts of this session.) -/
import Derived.Shelf.Strings.Builder1
import Derived.Shelf.Strings.Builder2
import Derived.Shelf.Strings.OnBuilder
import Derived.Shelf.Strings.Search1
import Derived.Test.YtacipknfhoadoaaDoorProg
namespace Go.Proofs.YtacipknfhoadoaaDoor.P
open Go Go.Proofs Go.Proofs.YtacipknfhoadoaaDoor Go.RowKit
open Go.Shelf
end Go.Proofs.YtacipknfhoadoaaDoor.P

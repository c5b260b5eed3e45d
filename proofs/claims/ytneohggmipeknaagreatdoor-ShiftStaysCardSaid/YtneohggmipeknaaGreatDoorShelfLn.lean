/- Go's own sort stands in this program as the kit knows it: printed by the kit's tool for layings. -/
import Derived.Shelf.SlSortCmp.WholeK
import Derived.Shelf.Lay
import Derived.Shelf.LaySoft
import Derived.KernelRfl
import Derived.Test.YtneohggmipeknaaGreatDoorProg
namespace Go.Proofs
open Go.Shelf
shelf_tried
end Go.Proofs

/- slices.SortFunc at pairs of numbers, laid at this program. -/
import Derived.Shelf.SlSortCmp.NoneTotal
import Derived.Shelf.Lay
import Derived.Ground.SlsfProg
import Derived.Ground.NamesProg
import Derived.Test.YtfpljpdjohmbaaaRows
namespace Go.Proofs
open Go.Shelf
shelf_lay_g SlLaysF0.n6 Slsf 6 at Try 67 as Ytfpljpdjohmbaaa.RankLay.sortPairs

end Go.Proofs

/- Ranks and places against one another: the bit of a rank has that rank; a set bit is the bit of its rank. Plain Lean, no program. -/
import Derived.Test.YtahmpmlbonpabaaDoorCount
import Derived.Test.YtahmpmlbonpabaaDoorSelect
namespace Go.Proofs.YtahmpmlbonpabaaDoor.Ones
open Go.Proofs.YtahmpmlbonpabaaDoor

end Go.Proofs.YtahmpmlbonpabaaDoor.Ones

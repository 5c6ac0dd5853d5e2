/- DecimalOrders: nothing is left but the lengths. -/
import Derived.Test.YtplokhniibdniaaDoorStatDecimalOrders
namespace Go.Proofs.YtplokhniibdniaaDoor.Pure
open Go.RowKit Go.Proofs.YtplokhniibdniaaDoor.PDecimalOrders
theorem DecimalOrders : quarrylaw11_DecimalOrders.Pure := by
  intro a b c d e f g h i h1 _ h2 _ h3 _
  unfold quarrylaw11_DecimalOrders.f
  rw [if_pos ⟨h1, h2, h3⟩]
end Go.Proofs.YtplokhniibdniaaDoor.Pure

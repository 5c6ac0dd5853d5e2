/- Lengths of texts put together, as the walk spells them. -/
import Derived.Laws.Strings
namespace Go.Proofs.YtplokhniibdniaaDoor
theorem one_sz (c : UInt8) : (⟨#[c]⟩ : ByteArray).size = 1 := rfl
theorem app_sz (a b : ByteArray) : (a ++ b).size = a.size + b.size := ByteArray.size_append
end Go.Proofs.YtplokhniibdniaaDoor

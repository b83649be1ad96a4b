/- Room for what ranges.Union tells: nothing of it is needed here. No condition. -/
import Derived.Test.YtfknoaokoncneabHandOf
namespace Go.Proofs.Ytfknoaokoncneab.HandUnion
end Go.Proofs.Ytfknoaokoncneab.HandUnion

/- Contracts: Part, channel, ChannelOf, MakePixel. -/
import Derived.Test.YtepjjlaipindnaaDoorBase
namespace Go.Proofs.YtepjjlaipindnaaDoor
open Go.RowKit

end Go.Proofs.YtepjjlaipindnaaDoor

/- Contracts: Part, channel, ChannelOf, MakePixel. -/
import Derived.Test.YtlnailpefdlnnaaBase
namespace Go.Proofs.Ytlnailpefdlnnaa
open Go.RowKit

end Go.Proofs.Ytlnailpefdlnnaa

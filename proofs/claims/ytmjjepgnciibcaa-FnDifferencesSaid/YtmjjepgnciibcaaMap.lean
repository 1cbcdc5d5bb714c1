/- Contracts: mapImage, and the program's functions that use it. -/
import Derived.Test.YtmjjepgnciibcaaIm3
import Derived.Test.YtmjjepgnciibcaaAcc
import Derived.Deep.RegionLaw
import Derived.Deep.QuietTactic
import Derived.BigQuiet
namespace Go.Proofs.Ytmjjepgnciibcaa
open Go.RowKit
set_option linter.unusedVariables false
end Go.Proofs.Ytmjjepgnciibcaa

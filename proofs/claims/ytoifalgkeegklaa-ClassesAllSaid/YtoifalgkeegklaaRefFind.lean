/- Find of the reference of package walk, walked. -/
import Derived.Test.YtoifalgkeegklaaAll
namespace Go.Proofs.Ytoifalgkeegklaa
open Go.RowKit
end Go.Proofs.Ytoifalgkeegklaa

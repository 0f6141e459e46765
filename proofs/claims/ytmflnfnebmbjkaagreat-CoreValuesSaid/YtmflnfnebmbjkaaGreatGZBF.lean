/- REFERENCE 40: Owed, Blocks, Core, Raised, Lowest. REFERENCE 40: VCG, Threshold, Raised. REFERENCE 40: Payments. -/
import Derived.Test.YtmflnfnebmbjkaaGreatGZBE
namespace Go.Proofs.YtmflnfnebmbjkaaGreat
open Go.RowKit
namespace Sx
section
end
section
end
section

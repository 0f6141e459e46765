/- WIRE: the closures that read. WIRE: value, and the reader's methods. -/
import Derived.Test.YtgokpcnabgacnaaGreatDoorGZAO
namespace Go.Proofs.YtgokpcnabgacnaaGreatDoor
open Go.RowKit
namespace Sx
section
end
section

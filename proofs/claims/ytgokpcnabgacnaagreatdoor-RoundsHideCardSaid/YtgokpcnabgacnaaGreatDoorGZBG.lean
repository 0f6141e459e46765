/- ROUNDS: the reference's Submit. ENVELOPES: the reference's Seal, Decode. -/
import Derived.Test.YtgokpcnabgacnaaGreatDoorGZBF
import Derived.Test.YtgokpcnabgacnaaGreatDoorGZBD
namespace Go.Proofs.YtgokpcnabgacnaaGreatDoor
open Go.RowKit
namespace Sx
end Sx
end Go.Proofs.YtgokpcnabgacnaaGreatDoor

/- ROUNDS: agrees. -/
import Derived.Test.YtgokpcnabgacnaaGreatDoorGZBK
namespace Go.Proofs.YtgokpcnabgacnaaGreatDoor
open Go.RowKit
namespace Sx

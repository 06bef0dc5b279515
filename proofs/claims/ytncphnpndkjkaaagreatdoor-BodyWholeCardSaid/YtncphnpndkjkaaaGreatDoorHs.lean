/-
  Own work: a part of the proof that the last text closes.
-/
import Derived.Test.YtncphnpndkjkaaaGreatDoorHr
import Derived.Test.YtncphnpndkjkaaaGreatDoorFk
namespace Go.Proofs.YtncphnpndkjkaaaGreatDoor
open Go.E
set_option linter.all false
set_option maxRecDepth 100000
set_option maxHeartbeats 16000000

end Go.Proofs.YtncphnpndkjkaaaGreatDoor

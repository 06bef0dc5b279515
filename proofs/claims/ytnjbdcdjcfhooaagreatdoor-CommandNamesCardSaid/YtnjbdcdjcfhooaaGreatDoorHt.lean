/-
  Own work: walks and laws of the functions that the statement reaches; the statement itself stands in the last text.
-/
import Derived.Test.YtnjbdcdjcfhooaaGreatDoorHs
namespace Go.Proofs.YtnjbdcdjcfhooaaGreatDoor
open Go.E Go.ChangeShapes Go.WideShapes Go.ChangeAt Go.RowKit
set_option linter.all false
set_option maxRecDepth 20000
set_option maxHeartbeats 8000000
end Go.Proofs.YtnjbdcdjcfhooaaGreatDoor
namespace Go.Proofs.YtnjbdcdjcfhooaaGreatDoor
open Go.E Go.ChangeShapes Go.WideShapes Go.ChangeAt Go.RowKit
set_option linter.all false
set_option maxRecDepth 20000
set_option maxHeartbeats 8000000
end Go.Proofs.YtnjbdcdjcfhooaaGreatDoor
namespace Go.Proofs.YtnjbdcdjcfhooaaGreatDoor
open Go.E Go.ChangeShapes Go.WideShapes Go.ChangeAt Go.RowKit
set_option linter.all false
set_option maxRecDepth 100000
set_option maxHeartbeats 8000000
end Go.Proofs.YtnjbdcdjcfhooaaGreatDoor

/- Lemmas. -/
import Derived.Test.YtpkneogjdfolaaaGreatDoorBunCA
set_option maxHeartbeats 20000000
set_option maxRecDepth 100000
set_option linter.unusedSimpArgs false
set_option linter.unusedVariables false
namespace Go.Proofs.YtpkneogjdfolaaaGreatDoor
end Go.Proofs.YtpkneogjdfolaaaGreatDoor

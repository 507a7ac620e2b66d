/- W6: small facts on heaps and numbers. -/
import Derived.Test.YtiakfdpmapmifaaW5
namespace Go.V
end Go.V

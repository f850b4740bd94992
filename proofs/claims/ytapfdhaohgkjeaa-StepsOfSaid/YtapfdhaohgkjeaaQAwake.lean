/- The examples of the chapter, reckoned. -/
import Derived.Test.YtapfdhaohgkjeaaXPx9
namespace Go.Proofs.Ytapfdhaohgkjeaa.Q
open Go.RowKit Go.Proofs.YtapfdhaohgkjeaaW.PrintWords Go.Proofs.Ytapfdhaohgkjeaa.XP
theorem awake_true : bitemporallaw04_awake.f 60 = some true := by decide +kernel
end Go.Proofs.Ytapfdhaohgkjeaa.Q

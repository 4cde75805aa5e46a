/- A copy of numbers, as the reference makes it. No statement is made here. -/
import Derived.Test.YtpndpligcphonaaCtR2
namespace Go.AG
open Go.Proofs Go.Proofs.Ytpndpligcphonaa
set_option linter.unusedSimpArgs false
set_option linter.unusedVariables false
set_option maxRecDepth 4000
end Go.AG

/- SignAgain: a sign that is copied twice is the last one; a number's and its negative's amount are one; for every input; no condition. -/
import Derived.Test.YtmjfenbbgfohlaaSgnB
namespace Go.Proofs.Ytmjfenbbgfohlaa.Pure
theorem SignAgain : Go.Proofs.Ytmjfenbbgfohlaa.PA.trunnionlaw10_SignAgain.Pure := Go.Proofs.Ytmjfenbbgfohlaa.Th.SignAgainP
end Go.Proofs.Ytmjfenbbgfohlaa.Pure

/- SignTurns: the signs of any two floats, and what is made of them, are the document's, for every input; no condition. -/
import Derived.Test.YtmjfenbbgfohlaaSgn
namespace Go.Proofs.Ytmjfenbbgfohlaa.Pure
theorem SignTurns : Go.Proofs.Ytmjfenbbgfohlaa.PA.trunnionlaw10_SignTurns.Pure := Go.Proofs.Ytmjfenbbgfohlaa.Th.SignTurnsP
end Go.Proofs.Ytmjfenbbgfohlaa.Pure

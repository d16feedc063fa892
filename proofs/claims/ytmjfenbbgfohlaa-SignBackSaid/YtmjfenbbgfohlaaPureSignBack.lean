/- SignBack: of any two words of either width the other sign twice is what it was, no other bit is touched, a copied sign is that, for every input; no condition. -/
import Derived.Test.YtmjfenbbgfohlaaSgn
namespace Go.Proofs.Ytmjfenbbgfohlaa.Pure
theorem SignBack : Go.Proofs.Ytmjfenbbgfohlaa.PA.trunnionlaw10_SignBack.Pure := Go.Proofs.Ytmjfenbbgfohlaa.Th.SignBackP
end Go.Proofs.Ytmjfenbbgfohlaa.Pure

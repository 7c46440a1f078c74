/-
  The walks of the layer nat: Sub.
-/
import Derived.Test.YtcabmibcgedhhaaDoorNat5
namespace Go.Proofs.YtcabmibcgedhhaaDoor
open Go.RowKit Go.Cd

end Go.Proofs.YtcabmibcgedhhaaDoor

/- Walks: extreme, Greatest, Least. -/
import Derived.Test.YthcmjhellpjllaaGreatA3b
import Derived.Test.YthcmjhellpjllaaGreatA4
import Derived.Test.YthcmjhellpjllaaGreatP2
import Derived.Test.YthcmjhellpjllaaGreatA5
import Derived.Deep.RegionHeld3
namespace Go.Proofs.YthcmjhellpjllaaGreat
open Go Go.RowKit Go.Shelf


end Go.Proofs.YthcmjhellpjllaaGreat

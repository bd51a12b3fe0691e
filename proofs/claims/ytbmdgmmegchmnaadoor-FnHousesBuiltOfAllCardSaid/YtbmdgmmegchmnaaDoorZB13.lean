/- Texts that the row of this claim leans on: words, contracts and laws, joined by a program of this session. No further condition. -/
import Derived.SizedLaws
import Derived.ChangeSlices
namespace Go.Proofs.YtbmdgmmegchmnaaDoorW.PrintWords
open Go.ChangeShapes Go.WideShapes
end Go.Proofs.YtbmdgmmegchmnaaDoorW.PrintWords

/- Kinds of the law's own parameter types: written by a program of this repo over the kit's. -/
import Derived.Test.YtibaidddhmdafaaDoorPAM0
namespace Go.Proofs.YtibaidddhmdafaaDoor.PA
open Go Go.RowKit Go.Proofs.YtibaidddhmdafaaDoorW.PrintWords Go.Proofs.YtibaidddhmdafaaDoorW.PrintLast Go.Proofs.YtibaidddhmdafaaDoorW.PrintMore

end Go.Proofs.YtibaidddhmdafaaDoor.PA

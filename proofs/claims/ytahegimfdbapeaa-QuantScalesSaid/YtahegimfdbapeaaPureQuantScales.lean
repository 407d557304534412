/- any number, scaled by the program, brought within bounds, or brought to a byte, is the one that the document defines. Conditions: none. -/
import Derived.Test.YtahegimfdbapeaaQuantMath
namespace Go.Proofs.Ytahegimfdbapeaa.Pure
open Go.Proofs.Ytahegimfdbapeaa.PA
theorem QuantScales : pintlelaw20_QuantScales.Pure := Quant.QuantScales
end Go.Proofs.Ytahegimfdbapeaa.Pure

/- of two numbers within the bounds that the statement names, the lesser one is not scaled to more by the program. Conditions: none. -/
import Derived.Test.YtahegimfdbapeaaQuantMath
namespace Go.Proofs.Ytahegimfdbapeaa.Pure
open Go.Proofs.Ytahegimfdbapeaa.PA
theorem QuantOrder : pintlelaw20_QuantOrder.Pure := Quant.QuantOrder
end Go.Proofs.Ytahegimfdbapeaa.Pure

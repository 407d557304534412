/- the sum of any bytes that the program tells is the one that the document defines. Conditions: none. -/
import Derived.Test.YtkcompeflpnfhaaPAx6
import Derived.Test.YtkcompeflpnfhaaCrcPure
namespace Go.Proofs.Ytkcompeflpnfhaa.Pure
open Go.Proofs.Ytkcompeflpnfhaa.PA
theorem CrcSums : pintlelaw08_CrcSums.Pure := Crc.CrcSums
end Go.Proofs.Ytkcompeflpnfhaa.Pure

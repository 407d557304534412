/- the sum of more bytes behind any sum, told by the program, is the one that the document defines. Conditions: none. -/
import Derived.Test.YtkcompeflpnfhaaPAx6
import Derived.Test.YtkcompeflpnfhaaCrcPure
namespace Go.Proofs.Ytkcompeflpnfhaa.Pure
open Go.Proofs.Ytkcompeflpnfhaa.PA
theorem CrcMore : pintlelaw08_CrcMore.Pure := Crc.CrcMore
end Go.Proofs.Ytkcompeflpnfhaa.Pure

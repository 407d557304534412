/- the program's sum of two parts, one behind the other, is its sum of both together. Conditions: none. -/
import Derived.Test.YtkcompeflpnfhaaPAx6
import Derived.Test.YtkcompeflpnfhaaCrcPure
namespace Go.Proofs.Ytkcompeflpnfhaa.Pure
open Go.Proofs.Ytkcompeflpnfhaa.PA
theorem CrcParts : pintlelaw08_CrcParts.Pure := Crc.CrcParts
end Go.Proofs.Ytkcompeflpnfhaa.Pure

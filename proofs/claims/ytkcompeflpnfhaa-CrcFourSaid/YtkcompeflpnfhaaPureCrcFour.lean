/- texts that differ in up to four bytes in a row have unlike sums, told by the program. Conditions: none. -/
import Derived.Test.YtkcompeflpnfhaaCrcFourMath
namespace Go.Proofs.Ytkcompeflpnfhaa.Pure
open Go.Proofs.Ytkcompeflpnfhaa.PA
theorem CrcFour : pintlelaw08_CrcFour.Pure := Crc.CrcFour
end Go.Proofs.Ytkcompeflpnfhaa.Pure

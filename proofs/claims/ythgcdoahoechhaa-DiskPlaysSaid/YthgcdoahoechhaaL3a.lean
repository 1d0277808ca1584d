/- Layer 3's statements: the runs of the chapter (known). -/
import Derived.Test.YthgcdoahoechhaaME
import Derived.Lib.SlBytesConst
set_option linter.unusedVariables false
set_option linter.unusedSimpArgs false
namespace Go.Proofs.Ythgcdoahoechhaa
open Go.RowKit
set_option maxRecDepth 100000
def k1 : MD := ⟨100, 0, false, [⟨[97], [], 0⟩]⟩
def k2 : MD := ⟨100, 0, false, [⟨[97], [120, 121], 0⟩]⟩
def k3 : MD := ⟨100, 0, false, [⟨[97], [120], 1⟩]⟩
end Go.Proofs.Ythgcdoahoechhaa

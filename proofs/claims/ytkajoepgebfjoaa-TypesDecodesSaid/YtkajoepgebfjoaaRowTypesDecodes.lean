/- The row of TypesDecodes, out of the print's own. -/
import Derived.Test.YtkajoepgebfjoaaLawTypesDecodes
namespace Go.Proofs.Ytkajoepgebfjoaa
theorem typesDecodes.row : Rows.TypesDecodesSaid := typesDecodes.proved
end Go.Proofs.Ytkajoepgebfjoaa

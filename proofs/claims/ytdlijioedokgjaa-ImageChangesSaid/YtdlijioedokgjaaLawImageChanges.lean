/- Proved: the statement ImageChangesSaid: for every input the law ImageChanges returns true, and each argument reads afterwards as before. Conditions: none. -/
import Derived.Test.YtdlijioedokgjaaSImageChanges
import Derived.Test.YtdlijioedokgjaaPureImageChanges
namespace Go.Proofs.Ytdlijioedokgjaa
theorem imageChanges_holds : Rows.ImageChangesSaid := imageChanges.row Pure.ImageChanges
#print axioms imageChanges_holds
end Go.Proofs.Ytdlijioedokgjaa

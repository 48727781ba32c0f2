/- Proved: the statement ImageTablesSaid: for every input the law ImageTables returns true, and each argument reads afterwards as before. Conditions: none. -/
import Derived.Test.YtdlijioedokgjaaSImageTables
import Derived.Test.YtdlijioedokgjaaPureImageTables
namespace Go.Proofs.Ytdlijioedokgjaa
theorem imageTables_holds : Rows.ImageTablesSaid := imageTables.row Pure.ImageTables
#print axioms imageTables_holds
end Go.Proofs.Ytdlijioedokgjaa

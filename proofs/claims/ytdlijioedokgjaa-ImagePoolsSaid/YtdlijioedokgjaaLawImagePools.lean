/- Proved: the statement ImagePoolsSaid: for every input the law ImagePools returns true, and each argument reads afterwards as before. Conditions: none. -/
import Derived.Test.YtdlijioedokgjaaSImagePools
import Derived.Test.YtdlijioedokgjaaPureImagePools
namespace Go.Proofs.Ytdlijioedokgjaa
theorem imagePools_holds : Rows.ImagePoolsSaid := imagePools.row Pure.ImagePools
#print axioms imagePools_holds
end Go.Proofs.Ytdlijioedokgjaa

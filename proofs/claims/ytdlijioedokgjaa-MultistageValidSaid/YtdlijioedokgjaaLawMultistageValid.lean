/- Proved: the statement MultistageValidSaid: for every input the law MultistageValid returns true, and each argument reads afterwards as before. Conditions: none. -/
import Derived.Test.YtdlijioedokgjaaSMultistageValid
import Derived.Test.YtdlijioedokgjaaPureMultistageValid
namespace Go.Proofs.Ytdlijioedokgjaa
theorem multistageValid_holds : Rows.MultistageValidSaid := multistageValid.row Pure.MultistageValid
#print axioms multistageValid_holds
end Go.Proofs.Ytdlijioedokgjaa

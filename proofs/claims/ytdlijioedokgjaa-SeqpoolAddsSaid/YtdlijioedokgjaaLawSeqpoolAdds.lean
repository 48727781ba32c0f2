/- Proved: the statement SeqpoolAddsSaid: for every input the law SeqpoolAdds returns true, and each argument reads afterwards as before. Conditions: none. -/
import Derived.Test.YtdlijioedokgjaaSSeqpoolAdds
import Derived.Test.YtdlijioedokgjaaPureSeqpoolAdds
namespace Go.Proofs.Ytdlijioedokgjaa
theorem seqpoolAdds_holds : Rows.SeqpoolAddsSaid := seqpoolAdds.row Pure.SeqpoolAdds
#print axioms seqpoolAdds_holds
end Go.Proofs.Ytdlijioedokgjaa

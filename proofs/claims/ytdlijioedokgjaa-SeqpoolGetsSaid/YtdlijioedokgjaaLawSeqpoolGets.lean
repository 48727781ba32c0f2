/- Proved: the statement SeqpoolGetsSaid: for every input the law SeqpoolGets returns true, and each argument reads afterwards as before. Conditions: none. -/
import Derived.Test.YtdlijioedokgjaaSSeqpoolGets
import Derived.Test.YtdlijioedokgjaaPureSeqpoolGets
namespace Go.Proofs.Ytdlijioedokgjaa
theorem seqpoolGets_holds : Rows.SeqpoolGetsSaid := seqpoolGets.row Pure.SeqpoolGets
#print axioms seqpoolGets_holds
end Go.Proofs.Ytdlijioedokgjaa

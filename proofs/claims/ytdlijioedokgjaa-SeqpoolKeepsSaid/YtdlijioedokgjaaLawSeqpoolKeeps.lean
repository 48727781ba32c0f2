/- Proved: the statement SeqpoolKeepsSaid: for every input the law SeqpoolKeeps returns true, and each argument reads afterwards as before. Conditions: none. -/
import Derived.Test.YtdlijioedokgjaaSSeqpoolKeeps
import Derived.Test.YtdlijioedokgjaaPureSeqpoolKeeps
namespace Go.Proofs.Ytdlijioedokgjaa
theorem seqpoolKeeps_holds : Rows.SeqpoolKeepsSaid := seqpoolKeeps.row Pure.SeqpoolKeeps
#print axioms seqpoolKeeps_holds
end Go.Proofs.Ytdlijioedokgjaa

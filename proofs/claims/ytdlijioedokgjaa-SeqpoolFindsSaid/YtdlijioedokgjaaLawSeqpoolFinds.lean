/- Proved: the statement SeqpoolFindsSaid: for every input the law SeqpoolFinds returns true, and each argument reads afterwards as before. Conditions: none. -/
import Derived.Test.YtdlijioedokgjaaSSeqpoolFinds
import Derived.Test.YtdlijioedokgjaaPureSeqpoolFinds
namespace Go.Proofs.Ytdlijioedokgjaa
theorem seqpoolFinds_holds : Rows.SeqpoolFindsSaid := seqpoolFinds.row Pure.SeqpoolFinds
#print axioms seqpoolFinds_holds
end Go.Proofs.Ytdlijioedokgjaa

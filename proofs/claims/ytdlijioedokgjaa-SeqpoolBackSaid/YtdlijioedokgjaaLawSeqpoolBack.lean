/- Proved: the statement SeqpoolBackSaid: for every input the law SeqpoolBack returns true, and each argument reads afterwards as before. Conditions: none. -/
import Derived.Test.YtdlijioedokgjaaSSeqpoolBack
import Derived.Test.YtdlijioedokgjaaPureSeqpoolBack
namespace Go.Proofs.Ytdlijioedokgjaa
theorem seqpoolBack_holds : Rows.SeqpoolBackSaid := seqpoolBack.row Pure.SeqpoolBack
#print axioms seqpoolBack_holds
end Go.Proofs.Ytdlijioedokgjaa

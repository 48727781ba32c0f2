/- Proved: the statement SeqpoolSavesSaid: for every input the law SeqpoolSaves returns true, and each argument reads afterwards as before. Conditions: none. -/
import Derived.Test.YtdlijioedokgjaaSSeqpoolSaves
import Derived.Test.YtdlijioedokgjaaPureSeqpoolSaves
namespace Go.Proofs.Ytdlijioedokgjaa
theorem seqpoolSaves_holds : Rows.SeqpoolSavesSaid := seqpoolSaves.row Pure.SeqpoolSaves
#print axioms seqpoolSaves_holds
end Go.Proofs.Ytdlijioedokgjaa

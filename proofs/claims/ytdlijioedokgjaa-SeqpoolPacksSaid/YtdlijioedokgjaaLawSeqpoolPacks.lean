/- Proved: the statement SeqpoolPacksSaid: for every input the law SeqpoolPacks returns true, and each argument reads afterwards as before. Conditions: none. -/
import Derived.Test.YtdlijioedokgjaaSSeqpoolPacks
import Derived.Test.YtdlijioedokgjaaPureSeqpoolPacks
namespace Go.Proofs.Ytdlijioedokgjaa
theorem seqpoolPacks_holds : Rows.SeqpoolPacksSaid := seqpoolPacks.row Pure.SeqpoolPacks
#print axioms seqpoolPacks_holds
end Go.Proofs.Ytdlijioedokgjaa

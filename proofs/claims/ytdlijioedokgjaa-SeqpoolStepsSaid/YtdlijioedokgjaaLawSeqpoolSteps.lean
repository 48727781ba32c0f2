/- Proved: the statement SeqpoolStepsSaid: for every input the law SeqpoolSteps returns true, and each argument reads afterwards as before. Conditions: none. -/
import Derived.Test.YtdlijioedokgjaaSSeqpoolSteps
import Derived.Test.YtdlijioedokgjaaPureSeqpoolSteps
namespace Go.Proofs.Ytdlijioedokgjaa
theorem seqpoolSteps_holds : Rows.SeqpoolStepsSaid := seqpoolSteps.row Pure.SeqpoolSteps
#print axioms seqpoolSteps_holds
end Go.Proofs.Ytdlijioedokgjaa

/- Proved: Pack adds sequences one after the other, and the arguments are as they were. Conditions: none. -/
import Derived.Test.YtdlijioedokgjaaSSeqpoolSteps
namespace Go.Proofs.Ytdlijioedokgjaa.Pure
open Go.RowKit Go.Proofs.Ytdlijioedokgjaa.Q
theorem SeqpoolSteps : SeqpoolSteps.Pure := fun _ _ _ _ => rfl
end Go.Proofs.Ytdlijioedokgjaa.Pure

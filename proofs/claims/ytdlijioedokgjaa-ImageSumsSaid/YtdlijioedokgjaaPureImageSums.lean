/- Proved: image.Sum answers as the reference's Sum for every string of at most 5000 bytes, and the chapter's examples hold. Conditions: none. -/
import Derived.Test.YtdlijioedokgjaaQF3
import Derived.Test.YtdlijioedokgjaaMSum
namespace Go.Proofs.Ytdlijioedokgjaa.Pure
open Go.RowKit Go.Proofs.Ytdlijioedokgjaa.Q Go.Proofs.YtdlijioedokgjaaW.PrintWords Go.Proofs.YtdlijioedokgjaaW.PrintLast
set_option linter.unusedVariables false

theorem ImageSums : unicodetextlaw15_ImageSums.Pure := by
  intro s hs
  refine EvR.exists_ ?_
  unfold unicodetextlaw15_ImageSums.f
  by_cases h : (s.size : Int) > 5000
  · exact EvR.pos h (EvR.bind alive15 (EvR.const _))
  · refine EvR.neg h (EvR.bind (image_Sum_ev s (by omega)) (EvR.bind (ref_Sum_ev s (by omega)) (EvR.pos rfl (EvR.bind alive15 (EvR.const _)))))

end Go.Proofs.Ytdlijioedokgjaa.Pure

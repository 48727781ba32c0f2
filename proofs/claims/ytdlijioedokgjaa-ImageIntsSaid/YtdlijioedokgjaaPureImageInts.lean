/- Proved: image.Ints answers as the reference's Ints for every list of at most 60 numbers. Conditions: none. -/
import Derived.Test.YtdlijioedokgjaaQF4
import Derived.Test.YtdlijioedokgjaaMSum
namespace Go.Proofs.Ytdlijioedokgjaa.Pure
open Go.RowKit Go.Proofs.Ytdlijioedokgjaa.Q Go.Proofs.YtdlijioedokgjaaW.PrintWords Go.Proofs.YtdlijioedokgjaaW.PrintLast
set_option linter.unusedVariables false

theorem ImageInts : unicodetextlaw15_ImageInts.Pure := by
  intro l hm h8 hw
  have hok := okInts_of_wf hw
  refine EvR.exists_ ?_
  unfold unicodetextlaw15_ImageInts.f
  by_cases h : (l.length : Int) > 60
  · exact EvR.pos h (EvR.bind alive15 (EvR.const _))
  · refine EvR.neg h (EvR.bind (Ints_ev hok (by omega)) (EvR.bind (ref_Ints_ev hok (by omega)) (EvR.pos rfl (EvR.bind alive15 (EvR.const _)))))

end Go.Proofs.Ytdlijioedokgjaa.Pure

/- Proved: image.Seal and image.Open answer as specified, for strings of at most 2000 bytes. Conditions: none. -/
import Derived.Test.YtdlijioedokgjaaQF17
import Derived.Test.YtdlijioedokgjaaMSeal
namespace Go.Proofs.Ytdlijioedokgjaa.Pure
open Go.RowKit Go.Proofs.Ytdlijioedokgjaa.Q Go.Proofs.YtdlijioedokgjaaW.PrintWords Go.Proofs.YtdlijioedokgjaaW.PrintLast
set_option linter.unusedVariables false

theorem ImageSeals : unicodetextlaw15_ImageSeals.Pure := by
  intro b s hb hs
  refine EvR.exists_ ?_
  unfold unicodetextlaw15_ImageSeals.f
  have al : EvR (fun k => (unicodetextlaw15_alive.f k).bind fun t => some t) true := EvR.bind alive15 (EvR.const _)
  have long : EvR (fun k => unicodetextlaw15_ImageSeals.j0 k b s true) true := by
    refine EvR.succ ?_
    simp only [unicodetextlaw15_ImageSeals.j0]
    exact EvR.pos trivial al
  by_cases h : (b.size : Int) > 2000
  · exact EvR.pos h long
  refine EvR.neg h ?_
  by_cases h2 : (s.size : Int) > 2000
  · rw [decide_eq_true h2]; exact long
  rw [decide_eq_false h2]
  refine EvR.succ ?_
  simp only [unicodetextlaw15_ImageSeals.j0]
  refine EvR.neg (by simp) (EvR.bind (image_Seal_ev b (by omega)) (EvR.bind (image_Open_ev _ (by rw [sealB_size]; omega)) (EvR.bind (image_Open_ev s (by omega)) (EvR.bind (ref_Open_ev s (by omega)) (EvR.bind (ref_Seal_ev b (by omega)) ?_)))))
  rw [openS_sealB]
  exact EvR.pos rfl (EvR.pos rfl (EvR.pos rfl (EvR.pos rfl (EvR.pos rfl al))))

end Go.Proofs.Ytdlijioedokgjaa.Pure

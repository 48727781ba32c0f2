/- Proved: image.ReadPool answers as specified, for bodies of at most 500 bytes, sealed or not; the arguments are as they were. Conditions: none. -/
import Derived.Test.YtdlijioedokgjaaQF19
import Derived.Test.YtdlijioedokgjaaMPools
namespace Go.Proofs.Ytdlijioedokgjaa.Pure
open Go.RowKit Go.Proofs.Ytdlijioedokgjaa.Q Go.Proofs.YtdlijioedokgjaaW.PrintWords Go.Proofs.YtdlijioedokgjaaW.PrintLast
set_option linter.unusedVariables false

theorem ImageReadPools : unicodetextlaw15_ImageReadPools.Pure := by
  intro a0 a1 h0
  refine EvR.exists_ ?_
  unfold unicodetextlaw15_ImageReadPools.f
  have al : EvR (fun k => (unicodetextlaw15_alive.f k).bind fun t => some t) true := EvR.bind alive15 (EvR.const _)
  by_cases h : (a0.size : Int) > 500
  · exact EvR.pos h al
  refine EvR.neg h ?_
  have hj : ∀ s : ByteArray, s.size ≤ 1000 → EvR (fun k => unicodetextlaw15_ImageReadPools.j0 k s) true := by
    intro s hs
    refine EvR.succ ?_
    simp only [unicodetextlaw15_ImageReadPools.j0]
    have h1 : image_ReadPool.f s = some (readPoolP s) := by unfold image_ReadPool.f; rw [if_pos (by omega)]
    have h2 : ref15_ReadPool.f s = some (readPoolP s) := by unfold ref15_ReadPool.f; rw [if_pos (by omega)]
    obtain ⟨l1, l2, l3⟩ := readPoolP_len s
    refine EvR.bindc h1 (EvR.bindc h2 ?_)
    exact EvR.bind (SamePools_refl _ _ _ (by omega) (by omega) (by omega)) (EvR.pos rfl (EvR.pos rfl al))
  cases a1 with
  | true => exact EvR.pos rfl (EvR.bind (ref_Seal_ev a0 (by omega)) (hj _ (by rw [sealB_size]; omega)))
  | false => exact EvR.neg (by simp) (hj _ (by omega))
end Go.Proofs.Ytdlijioedokgjaa.Pure

/- Proved: image.ReadTable answers as specified, for bodies of at most 3000 bytes, sealed or not. Conditions: none. -/
import Derived.Test.YtdlijioedokgjaaQF22
import Derived.Test.YtdlijioedokgjaaMReadTable
namespace Go.Proofs.Ytdlijioedokgjaa.Pure
open Go.RowKit Go.Proofs.Ytdlijioedokgjaa.Q Go.Proofs.YtdlijioedokgjaaW.PrintWords Go.Proofs.YtdlijioedokgjaaW.PrintLast
set_option linter.unusedVariables false

theorem ImageReadTables : unicodetextlaw15_ImageReadTables.Pure := by
  intro a0 a1 h0
  refine EvR.exists_ ?_
  unfold unicodetextlaw15_ImageReadTables.f
  have al : EvR (fun k => (unicodetextlaw15_alive.f k).bind fun t => some t) true := EvR.bind alive15 (EvR.const _)
  by_cases h : (a0.size : Int) > 3000
  · exact EvR.pos h al
  refine EvR.neg h ?_
  have hj : ∀ s : ByteArray, s.size ≤ 10000 → EvR (fun k => unicodetextlaw15_ImageReadTables.j0 k s) true := by
    intro s hs
    refine EvR.succ ?_
    simp only [unicodetextlaw15_ImageReadTables.j0]
    have h1 : image_ReadTable.f s = some (readTableP s) := by unfold image_ReadTable.f; rw [if_pos (by omega)]
    obtain ⟨g1, g2, g3⟩ := readTableP_small s (by omega)
    refine EvR.bindc h1 (EvR.bind (refReadTable_ev s (by omega)) (EvR.bind (SameTables_refl g1 g2 g3) ?_))
    exact EvR.pos rfl (EvR.pos rfl al)
  cases a1 with
  | true => exact EvR.pos rfl (EvR.bind (ref_Seal_ev a0 (by omega)) (hj _ (by rw [sealB_size]; omega)))
  | false => exact EvR.neg (by simp) (hj _ (by omega))
end Go.Proofs.Ytdlijioedokgjaa.Pure

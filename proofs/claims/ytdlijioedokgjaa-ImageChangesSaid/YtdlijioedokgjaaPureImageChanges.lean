/- Proved: a change of one byte of a sealed string is found, and the arguments are as they were. Conditions: none. -/
import Derived.Test.YtdlijioedokgjaaSImageChanges
namespace Go.Proofs.Ytdlijioedokgjaa.Pure
open Go.RowKit Go.Proofs.Ytdlijioedokgjaa.Q Go.Proofs.YtdlijioedokgjaaW.PrintWords Go.Proofs.YtdlijioedokgjaaW.PrintLast
theorem ImageChanges : ImageChanges.Pure := by
  intro a0 a1 a2 h0 h1 h2
  unfold unicodetextlaw15_ImageChanges.f
  simp only [Lit.wf, Bool.and_eq_true, decide_eq_true_eq] at h1 h2
  refine if_pos ⟨⟨h1.1, Int.lt_of_le_of_lt h1.2 (by decide)⟩, ⟨h2.1, Int.lt_of_le_of_lt h2.2 (by decide)⟩, by omega⟩
end Go.Proofs.Ytdlijioedokgjaa.Pure

/- ref14.Valid, plainly. -/
import Derived.Test.YtdlijioedokgjaaMPool
namespace Go.Proofs.Ytdlijioedokgjaa.Q
open Go.RowKit Go.Proofs.YtdlijioedokgjaaW.PrintWords Go.Proofs.YtdlijioedokgjaaW.PrintLast Go.Proofs.YtdlijioedokgjaaW.PrintMore
set_option linter.unusedVariables false
set_option linter.unusedSimpArgs false

theorem RefValid_l0_ev (l0 l1 l2 : List Int) (hl : l1.length = l2.length) (h0 : (l0.length : Int) ≤ 9223372036854775807) (h1 : (l1.length : Int) ≤ 9223372036854775807) : ∀ (d : Nat) (i : Int), 0 ≤ i → i + d = l1.length →
    EvR (fun k => unicodetextref14_Valid.l0 k i l0 l1 l2) (vAll l0 l1 l2 d i) := by
  intro d
  induction d with
  | zero =>
    intro i hi he
    refine EvR.succ ?_
    simp only [unicodetextref14_Valid.l0]
    exact EvR.neg (by omega) (EvR.const _)
  | succ d ih =>
    intro i hi he
    refine EvR.succ ?_
    simp only [unicodetextref14_Valid.l0, vAll]
    refine EvR.pos (by omega) (EvR.pos hi ?_)
    by_cases a1 : rd l1 i < 0
    · exact EvR.pos a1 ((EvR.const _).cast (by simp [vOk]; omega))
    · refine EvR.neg a1 (EvR.pos (by omega) ?_)
      by_cases a2 : rd l2 i < 0
      · exact EvR.pos a2 ((EvR.const _).cast (by simp [vOk]; omega))
      · refine EvR.neg a2 ?_
        by_cases a3 : rd l2 i > (l0.length : Int)
        · exact EvR.pos a3 ((EvR.const _).cast (by simp [vOk]; omega))
        · refine EvR.neg a3 ?_
          rw [w64 (x := (l0.length : Int) - rd l2 i) (by omega) (by omega)]
          by_cases a4 : rd l1 i > (l0.length : Int) - rd l2 i
          · exact EvR.pos a4 ((EvR.const _).cast (by simp [vOk]; omega))
          · refine EvR.neg a4 ?_
            rw [w64 (x := i + 1) (by omega) (by omega)]
            refine (ih (i + 1) (by omega) (by omega)).cast ?_
            have : vOk l0.length (rd l1 i) (rd l2 i) = true := by simp [vOk]; omega
            rw [this, Bool.true_and]
theorem RefValid_ev (l0 l1 l2 : List Int) (h0 : (l0.length : Int) ≤ 9223372036854775807) (h1 : (l1.length : Int) ≤ 9223372036854775807) : EvR (fun k => unicodetextref14_Valid.f k l0 l1 l2) (validB l0 l1 l2) := by
  simp only [unicodetextref14_Valid.f, validB]
  by_cases hl : l1.length = l2.length
  · refine EvR.pos (by omega) ((RefValid_l0_ev l0 l1 l2 hl h0 h1 l1.length 0 (by omega) (by omega)).cast ?_)
    simp [hl]
  · exact EvR.neg (by omega) ((EvR.const _).cast (by simp [hl]))
end Go.Proofs.Ytdlijioedokgjaa.Q

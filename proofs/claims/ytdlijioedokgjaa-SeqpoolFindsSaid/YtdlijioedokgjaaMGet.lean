/- ref14.Get, plainly. -/
import Derived.Test.YtdlijioedokgjaaMSeq
import Derived.Test.YtdlijioedokgjaaQF58
import Derived.Test.YtdlijioedokgjaaHPool
namespace Go.Proofs.Ytdlijioedokgjaa.Q
open Go.RowKit Go.Proofs.YtdlijioedokgjaaW.PrintWords Go.Proofs.YtdlijioedokgjaaW.PrintLast Go.Proofs.YtdlijioedokgjaaW.PrintMore
set_option linter.unusedVariables false

theorem RefGet_ev (l0 l1 l2 : List Int) (a1 : Int) (h0 : l0.length ≤ 200) (h1 : l1.length ≤ 40) (h2 : l2.length ≤ 40) : EvR (fun k => unicodetextref14_Get.f k l0 l1 l2 a1) (getP l0 l1 l2 a1) := by
  unfold unicodetextref14_Get.f
  refine EvR.bind (RefValid_ev l0 l1 l2 (by omega) (by omega)) ?_
  by_cases hv : validB l0 l1 l2 = true
  · refine EvR.pos hv ?_
    by_cases n0 : a1 < 0
    · exact EvR.pos n0 ((EvR.const _).cast (by unfold getP; rw [if_neg (by omega)]))
    · refine EvR.neg n0 ?_
      by_cases n1 : a1 ≥ (l1.length : Int)
      · exact EvR.pos n1 ((EvR.const _).cast (by unfold getP; rw [if_neg (by omega)]))
      · refine EvR.neg n1 (EvR.bindc rfl ?_)
        obtain ⟨hl, hall⟩ := validB_spec hv
        obtain ⟨q0, q1, q2, q3⟩ := hall a1 (by omega) (by omega)
        rw [w64 (x := rd l1 a1 + rd l2 a1) (by omega) (by omega)]
        refine EvR.pos (by omega) (EvR.pos (by omega) (EvR.pos (by omega) (EvR.pos q0 (EvR.pos (by omega) (EvR.pos q3 (EvR.pos ?_ ((EvR.const _).cast ?_)))))))
        · simp; omega
        · unfold getP
          rw [if_pos ⟨hv, by omega, by omega⟩]
          simp [cut, List.take_drop, Int.toNat_add q0 q1]
  · exact EvR.neg hv ((EvR.const _).cast (by unfold getP; rw [if_neg (by simp [hv])]))
end Go.Proofs.Ytdlijioedokgjaa.Q

/- Proved: seqpool.Get answers as specified, and the pool is as it was. Conditions: none. -/
import Derived.Test.YtdlijioedokgjaaSSeqpoolGets
import Derived.Test.YtdlijioedokgjaaMRef14
namespace Go.Proofs.Ytdlijioedokgjaa.Pure
open Go.RowKit Go.Proofs.Ytdlijioedokgjaa.Q Go.Proofs.YtdlijioedokgjaaW.PrintWords Go.Proofs.YtdlijioedokgjaaW.PrintLast
set_option linter.unusedVariables false

theorem RefGet_ev (l0 l1 l2 : List Int) (a1 : Int) (h0 : l0.length ≤ 200) (h1 : l1.length ≤ 40) (h2 : l2.length ≤ 40) : EvR (fun k => unicodetextref14_Get.f k l0 l1 l2 a1) (getP l0 l1 l2 a1) := by
  unfold unicodetextref14_Get.f
  refine EvR.bind (RefValid_ev l0 l1 l2 (by omega) (by omega)) ?_
  by_cases hv : validB l0 l1 l2 = true
  · refine EvR.pos hv ?_
    by_cases n0 : a1 < 0
    · exact EvR.pos n0 ((EvR.const _).cast (by unfold getP; rw [if_neg (by omega)]))
    · refine EvR.neg n0 ?_
      by_cases n1 : a1 ≥ (l1.length : Int)
      · exact EvR.pos n1 ((EvR.const _).cast (by unfold getP; rw [if_neg (by omega)]))
      · refine EvR.neg n1 (EvR.bindc rfl ?_)
        obtain ⟨hl, hall⟩ := validB_spec hv
        obtain ⟨q0, q1, q2, q3⟩ := hall a1 (by omega) (by omega)
        rw [w64 (x := rd l1 a1 + rd l2 a1) (by omega) (by omega)]
        refine EvR.pos (by omega) (EvR.pos (by omega) (EvR.pos (by omega) (EvR.pos q0 (EvR.pos (by omega) (EvR.pos q3 (EvR.pos ?_ ((EvR.const _).cast ?_)))))))
        · simp; omega
        · unfold getP
          rw [if_pos ⟨hv, by omega, by omega⟩]
          simp [cut, List.take_drop, Int.toNat_add q0 q1]
  · exact EvR.neg hv ((EvR.const _).cast (by unfold getP; rw [if_neg (by simp [hv])]))
theorem SeqpoolGets : SeqpoolGets.Pure := by
  intro l0 l1 l2 a1 o0 o1 o2 hw
  refine EvR.exists_ ?_
  unfold unicodetextlaw14_SeqpoolGets.f
  have al : EvR (fun _ => law14_alive.f.bind fun t => some t) true := EvR.const _
  by_cases hs : (l0.length : Int) ≤ 200 ∧ (l1.length : Int) ≤ 40 ∧ (l2.length : Int) ≤ 40
  · obtain ⟨h0, h1, h2⟩ := hs
    have hS : unicodetextref14_Small.f l0 l1 l2 = some true := by unfold unicodetextref14_Small.f; rw [if_pos h0, if_pos h1]; simp [h2]
    refine EvR.bindc hS (EvR.pos rfl ?_)
    have hG : seqpool_Get.f l0 l1 l2 a1 = some (getP l0 l1 l2 a1) := by unfold seqpool_Get.f; rw [if_pos (by omega)]
    refine EvR.bindc hG (EvR.bind (RefGet_ev l0 l1 l2 a1 (by omega) (by omega) (by omega)) ?_)
    have hlen : ((getP l0 l1 l2 a1).1.length : Int) ≤ 9223372036854775806 := by
      unfold getP
      split
      · simp [cut]; omega
      · simp
    refine EvR.bind (RefEqual_self _ hlen) (EvR.pos rfl (EvR.pos (by simp) ?_))
    refine EvR.bind (Valid_ev l0 l1 l2 (by omega) (by omega)) (EvR.bind (RefValid_ev l0 l1 l2 (by omega) (by omega)) (EvR.pos (by simp) al))
  · have hS : unicodetextref14_Small.f l0 l1 l2 = some false := by
      unfold unicodetextref14_Small.f
      split
      · split
        · simp; omega
        · rfl
      · rfl
    exact EvR.bindc hS (EvR.neg (by simp) al)
end Go.Proofs.Ytdlijioedokgjaa.Pure

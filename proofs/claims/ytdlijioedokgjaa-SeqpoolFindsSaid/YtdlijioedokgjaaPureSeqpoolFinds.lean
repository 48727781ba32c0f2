/- Proved: seqpool.Find answers as specified, and the arguments are as they were. Conditions: none. -/
import Derived.Test.YtdlijioedokgjaaSSeqpoolFinds
import Derived.Test.YtdlijioedokgjaaMGet
namespace Go.Proofs.Ytdlijioedokgjaa.Pure
open Go.RowKit Go.Proofs.Ytdlijioedokgjaa.Q Go.Proofs.YtdlijioedokgjaaW.PrintWords Go.Proofs.YtdlijioedokgjaaW.PrintLast
set_option linter.unusedVariables false

theorem RefFind_l0 (l0 l1 l2 seq : List Int) (h0 : l0.length ≤ 200) (h1 : l1.length ≤ 40) (h2 : l2.length ≤ 40) (hs : seq.length ≤ 200) : ∀ (d : Nat) (i : Int), 0 ≤ i → i + d = l1.length →
    EvR (fun k => unicodetextref14_Find.l0 k seq i l0 l1 l2) (if validB l0 l1 l2 = true then findF l0 l1 l2 seq d i else (0, false)) := by
  intro d
  induction d with
  | zero =>
    intro i hi he
    refine EvR.succ ?_
    simp only [unicodetextref14_Find.l0]
    exact EvR.neg (by omega) ((EvR.const _).cast (by simp [findF]))
  | succ d ih =>
    intro i hi he
    refine EvR.succ ?_
    simp only [unicodetextref14_Find.l0]
    refine EvR.pos (by omega) (EvR.bind (RefGet_ev l0 l1 l2 i h0 h1 h2) ?_)
    have ihh := ih (i + 1) (by omega) (by omega)
    rw [w64 (x := i + 1) (by omega) (by omega)]
    by_cases hv : validB l0 l1 l2 = true
    · rw [if_pos hv] at ihh ⊢
      have hg : getP l0 l1 l2 i = (cut l0 (rd l1 i) (rd l2 i), true) := by unfold getP; rw [if_pos ⟨hv, hi, by omega⟩]
      rw [hg]
      refine EvR.pos rfl (EvR.bind (RefEqual_ev _ seq (by simp [cut]; omega) (by omega)) ?_)
      simp only [findF]
      by_cases hc : cut l0 (rd l1 i) (rd l2 i) = seq
      · exact EvR.pos (by simp [hc]) ((EvR.const _).cast (by rw [if_pos hc]))
      · exact EvR.neg (by simp [hc]) (ihh.cast (by rw [if_neg hc]))
    · rw [if_neg hv] at ihh ⊢
      have hg : getP l0 l1 l2 i = ([], false) := by unfold getP; rw [if_neg (fun h => hv h.1)]
      rw [hg]
      exact EvR.neg (by simp) ihh
theorem SeqpoolFinds : SeqpoolFinds.Pure := by
  intro l0 l1 l2 seq o0 o1 o2 os
  refine EvR.exists_ ?_
  unfold unicodetextlaw14_SeqpoolFinds.f
  have al : EvR (fun _ => law14_alive.f.bind fun t => some t) true := EvR.const _
  have jt : EvR (fun k => unicodetextlaw14_SeqpoolFinds.j0 k seq true l0 l1 l2) true := by
    refine EvR.succ ?_
    simp only [unicodetextlaw14_SeqpoolFinds.j0]
    exact EvR.pos (by simp) al
  by_cases hs : (l0.length : Int) ≤ 200 ∧ (l1.length : Int) ≤ 40 ∧ (l2.length : Int) ≤ 40
  · obtain ⟨h0, h1, h2⟩ := hs
    have hS : unicodetextref14_Small.f l0 l1 l2 = some true := by unfold unicodetextref14_Small.f; rw [if_pos h0, if_pos h1]; simp [h2]
    refine EvR.bindc hS (EvR.pos rfl ?_)
    by_cases hq : (seq.length : Int) > 200
    · rw [decide_eq_true hq]; exact jt
    · rw [decide_eq_false hq]
      refine EvR.succ ?_
      simp only [unicodetextlaw14_SeqpoolFinds.j0]
      have hF : seqpool_Find.f l0 l1 l2 seq = some (findP l0 l1 l2 seq) := by unfold seqpool_Find.f; rw [if_pos (by omega)]
      have hR := RefFind_l0 l0 l1 l2 seq (by omega) (by omega) (by omega) (by omega) l1.length 0 (by omega) (by omega)
      refine EvR.neg (by simp) (EvR.bindc hF ?_)
      refine EvR.bind (x := findP l0 l1 l2 seq) hR ?_
      exact EvR.pos (by simp) (EvR.pos (by simp) al)
  · have hS : unicodetextref14_Small.f l0 l1 l2 = some false := by
      unfold unicodetextref14_Small.f
      split
      · split
        · simp; omega
        · rfl
      · rfl
    exact EvR.bindc hS (EvR.neg (by simp) jt)
end Go.Proofs.Ytdlijioedokgjaa.Pure

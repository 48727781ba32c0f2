/- Proved: seqpool.Add answers as specified, and the arguments are as they were. Conditions: none. -/
import Derived.Test.YtdlijioedokgjaaSSeqpoolAdds
import Derived.Test.YtdlijioedokgjaaMRefAdd
namespace Go.Proofs.Ytdlijioedokgjaa.Pure
open Go.RowKit Go.Proofs.Ytdlijioedokgjaa.Q Go.Proofs.YtdlijioedokgjaaW.PrintWords Go.Proofs.YtdlijioedokgjaaW.PrintLast
set_option linter.unusedVariables false

theorem Same_self (C S L : List Int) (h0 : (C.length : Int) ≤ 9223372036854775806) (h1 : (S.length : Int) ≤ 9223372036854775806) (h2 : (L.length : Int) ≤ 9223372036854775806) : EvR (fun k => unicodetextref14_Same.f k C S L C S L) true := by
  unfold unicodetextref14_Same.f
  exact EvR.bind (RefEqual_self C h0) (EvR.pos rfl (EvR.bind (RefEqual_self S h1) (EvR.pos rfl (EvR.bind (RefEqual_self L h2) (EvR.const _)))))
theorem SeqpoolAdds : SeqpoolAdds.Pure := by
  intro l0 l1 l2 seq o0 o1 o2 os
  refine EvR.exists_ ?_
  unfold unicodetextlaw14_SeqpoolAdds.f
  have al : EvR (fun _ => law14_alive.f.bind fun t => some t) true := EvR.const _
  have jt : EvR (fun k => unicodetextlaw14_SeqpoolAdds.j0 k seq true l0 l1 l2) true := by
    refine EvR.succ ?_
    simp only [unicodetextlaw14_SeqpoolAdds.j0]
    exact EvR.pos (by simp) al
  by_cases hs : (l0.length : Int) ≤ 200 ∧ (l1.length : Int) ≤ 40 ∧ (l2.length : Int) ≤ 40
  · obtain ⟨h0, h1, h2⟩ := hs
    have hS : unicodetextref14_Small.f l0 l1 l2 = some true := by unfold unicodetextref14_Small.f; rw [if_pos h0, if_pos h1]; simp [h2]
    refine EvR.bindc hS (EvR.pos rfl ?_)
    by_cases hq : (seq.length : Int) > 20
    · rw [decide_eq_true hq]; exact jt
    · rw [decide_eq_false hq]
      have hR := RefAdd_ev l0 l1 l2 seq (by omega) (by omega) (by omega) (by omega)
      have hA : seqpool_Add.f l0 l1 l2 seq = some ((AddPure (validB l0 l1 l2) l0 l1 l2 seq).1, (AddPure (validB l0 l1 l2) l0 l1 l2 seq).2.1, (AddPure (validB l0 l1 l2) l0 l1 l2 seq).2.2, ((AddPure (validB l0 l1 l2) l0 l1 l2 seq).2.1.length : Int) - 1) := by
        unfold seqpool_Add.f; rw [if_pos (by omega)]
      have k0 : (AddPure (validB l0 l1 l2) l0 l1 l2 seq).1.length ≤ 1000 := by
        simp only [AddPure]
        have := placeP_le (if validB l0 l1 l2 = true then l0 else []) seq
        have : (if validB l0 l1 l2 = true then l0 else []).length ≤ l0.length := by split <;> simp
        omega
      have k1 : (AddPure (validB l0 l1 l2) l0 l1 l2 seq).2.1.length ≤ 1000 := by
        simp only [AddPure, List.length_append, List.length_singleton]
        have : (if validB l0 l1 l2 = true then l1 else []).length ≤ l1.length := by split <;> simp
        omega
      have k2 : (AddPure (validB l0 l1 l2) l0 l1 l2 seq).2.2.length ≤ 1000 := by
        simp only [AddPure, List.length_append, List.length_singleton]
        have : (if validB l0 l1 l2 = true then l2 else []).length ≤ l2.length := by split <;> simp
        omega
      refine EvR.succ ?_
      simp only [unicodetextlaw14_SeqpoolAdds.j0]
      refine EvR.neg (by simp) (EvR.bindc hA (EvR.bind hR ?_))
      exact EvR.bind (Same_self _ _ _ (by dsimp only; omega) (by dsimp only; omega) (by dsimp only; omega)) (EvR.pos rfl (EvR.pos (by simp) al))
  · have hS : unicodetextref14_Small.f l0 l1 l2 = some false := by
      unfold unicodetextref14_Small.f
      split
      · split
        · simp; omega
        · rfl
      · rfl
    exact EvR.bindc hS (EvR.neg (by simp) jt)
end Go.Proofs.Ytdlijioedokgjaa.Pure

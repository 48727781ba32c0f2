/- Proved: a list of at most 60 numbers is read from its bytes, whatever follows, and a part of its bytes is too short. Conditions: none. -/
import Derived.Test.YtdlijioedokgjaaQF5
import Derived.Test.YtdlijioedokgjaaMSum
namespace Go.Proofs.Ytdlijioedokgjaa.Pure
open Go.RowKit Go.Proofs.Ytdlijioedokgjaa.Q Go.Proofs.YtdlijioedokgjaaW.PrintWords Go.Proofs.YtdlijioedokgjaaW.PrintLast
set_option linter.unusedVariables false

theorem ImageRounds : unicodetextlaw15_ImageRounds.Pure := by
  intro l rest cut hm h8 hw hr hc
  have hok := okInts_of_wf hw
  refine EvR.exists_ ?_
  unfold unicodetextlaw15_ImageRounds.f
  have al : EvR (fun k => (unicodetextlaw15_alive.f k).bind fun t => some t) true := EvR.bind alive15 (EvR.const _)
  have long : EvR (fun k => unicodetextlaw15_ImageRounds.j0 k l rest cut true) true := by
    refine EvR.succ ?_
    simp only [unicodetextlaw15_ImageRounds.j0]
    exact EvR.pos trivial al
  by_cases h : (l.length : Int) > 60
  · exact EvR.pos h long
  refine EvR.neg h ?_
  by_cases h2 : (rest.size : Int) > 100
  · rw [decide_eq_true h2]; exact long
  rw [decide_eq_false h2]
  have hlen := intsB_length_le l
  have hb := intsB_bytes hok (by omega)

  have hsz : (strOfNums (intsB l)).size = (intsB l).length := sN_size _
  have hpos : 0 < (intsB l).length := by unfold intsB; rw [List.length_append]; have := numB_length_pos l.length; omega
  refine EvR.succ ?_
  simp only [unicodetextlaw15_ImageRounds.j0]
  refine EvR.neg (by simp) (EvR.bind (Ints_ev hok (by omega)) (EvR.pos (by rw [hsz]; omega) ?_))
  have e1 := ReadInts_eq (strOfNums (intsB l) ++ rest) (by rw [ByteArray.size_append]; omega)
  rw [bytesOf_append, bytesOf_sN hb, rdListL_intsB hok (by omega)] at e1
  refine EvR.bindc e1 (EvR.bind (SameInts_refl l (by omega)) (EvR.pos rfl (EvR.pos ?_ (EvR.pos rfl ?_))))
  · show ((strOfNums (intsB l) ++ rest).size : Int) - (bytesOf rest).length = _
    rw [ByteArray.size_append, bytesOf_length]; omega
  have hc2 : 0 ≤ cut ∧ cut ≤ 65535 := by
    simp only [Lit.wf, Bool.and_eq_true, decide_eq_true_eq] at hc
    exact hc
  refine EvR.succ ?_
  simp only [unicodetextlaw15_ImageRounds.j1]
  have hz : (((strOfNums (intsB l)).size : Int) == 0) = false := beq_eq_false_iff_ne.mpr (by omega)
  rw [hz]
  have hcw : wrap64 cut = cut := by unfold wrap64; omega
  rw [hcw, Int.tmod_eq_emod_of_nonneg hc2.1]
  have hm0 := Int.emod_nonneg cut (show ((strOfNums (intsB l)).size : Int) ≠ 0 by omega)
  have hm1 := Int.emod_lt_of_pos cut (show (0 : Int) < ((strOfNums (intsB l)).size : Int) by omega)
  refine EvR.neg (by simp) (EvR.neg (by omega) (EvR.pos hm0 (EvR.pos (by omega) ?_)))
  generalize cut % ((strOfNums (intsB l)).size : Int) = c at *
  have hx : bytesOf ((strOfNums (intsB l)).extract 0 c.toNat) = (intsB l).take c.toNat := by rw [bytesOf_extract, bytesOf_sN hb]; rfl
  have hxs : ((strOfNums (intsB l)).extract 0 c.toNat).size ≤ 1099511627776 := by rw [← bytesOf_length, hx, List.length_take]; omega
  have e2 := ReadInts_eq _ hxs
  have hp := rdListL_part hok (by omega) (l := (intsB l).take c.toNat) (m := (intsB l).drop c.toNat) (List.take_append_drop _ _).symm (by
    intro hn
    have := congrArg List.length hn
    rw [List.length_drop] at this
    simp at this; omega)
  rw [hx] at e2
  rcases hp with hp | hp
  · rw [hp] at e2
    exact EvR.bindc e2 (EvR.pos rfl (EvR.pos rfl (EvR.pos rfl al)))
  · rw [hp] at e2
    exact EvR.bindc e2 (EvR.pos rfl (EvR.pos rfl (EvR.neg (by dsimp only; decide) (EvR.pos rfl al))))

end Go.Proofs.Ytdlijioedokgjaa.Pure

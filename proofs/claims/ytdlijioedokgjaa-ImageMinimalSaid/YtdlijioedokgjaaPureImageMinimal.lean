/- Proved: what image.ReadInts reads at the beginning of a string of at most 300 bytes is the bytes of the list, and no others. Conditions: none. -/
import Derived.Test.YtdlijioedokgjaaQF6
import Derived.Test.YtdlijioedokgjaaMSum
namespace Go.Proofs.Ytdlijioedokgjaa.Pure
open Go.RowKit Go.Proofs.Ytdlijioedokgjaa.Q Go.Proofs.YtdlijioedokgjaaW.PrintWords Go.Proofs.YtdlijioedokgjaaW.PrintLast
set_option linter.unusedVariables false

theorem ImageMinimal : unicodetextlaw15_ImageMinimal.Pure := by
  intro s hs
  refine EvR.exists_ ?_
  unfold unicodetextlaw15_ImageMinimal.f
  have al : EvR (fun k => (unicodetextlaw15_alive.f k).bind fun t => some t) true := EvR.bind alive15 (EvR.const _)
  by_cases h : (s.size : Int) > 300
  · exact EvR.pos h al
  refine EvR.neg h ?_
  have e1 := ReadInts_eq s (by omega)
  cases hr : rdListL (bytesOf s) with
  | error c =>
    rw [hr] at e1
    have hc : c ≠ 0 := by
      have := rdList_err s 0 c (by rw [rdList_L s 0 (by omega) (by omega)]; simp [hr, toPos])
      exact this
    exact EvR.bindc e1 (EvR.neg hc (EvR.pos rfl (EvR.pos rfl al)))
  | ok p =>
    obtain ⟨l, rest⟩ := p
    rw [hr] at e1
    obtain ⟨hok, hl⟩ := rdListL_canon (bytesOf_range s) hr
    have hlen : s.size = (intsB l).length + rest.length := by rw [← bytesOf_length, hl, List.length_append]
    have hge := numsB_length_ge l
    have hil : (intsB l).length = (numB l.length).length + (numsB l).length := by unfold intsB; rw [List.length_append]
    have hpos := numB_length_pos l.length
    have en : (s.size : Int) - rest.length = (intsB l).length := by omega
    refine EvR.bindc e1 (EvR.pos rfl (EvR.pos ?_ (EvR.pos ?_ (EvR.bind (Ints_ev hok ?_) (EvR.pos ?_ (EvR.pos ?_ al))))))
    · dsimp only; omega
    · dsimp only; omega
    · dsimp only; omega
    · dsimp only; omega
    · dsimp only
      rw [en, Int.toNat_natCast]
      congr 1
      apply bytesOf_inj
      rw [bytesOf_sN (intsB_bytes hok (by omega)), bytesOf_extract, hl, List.take_left, List.drop_zero]

end Go.Proofs.Ytdlijioedokgjaa.Pure

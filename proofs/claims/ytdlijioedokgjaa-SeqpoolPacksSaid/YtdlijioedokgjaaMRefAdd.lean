/- ref14.Add and ref14.Pack, plainly: the pool that seqpool's own answers. -/
import Derived.Test.YtdlijioedokgjaaMPlace
import Derived.Test.YtdlijioedokgjaaMRef14
import Derived.Test.YtdlijioedokgjaaQF42
namespace Go.Proofs.Ytdlijioedokgjaa.Q
open Go.RowKit Go.Proofs.YtdlijioedokgjaaW.PrintWords Go.Proofs.YtdlijioedokgjaaW.PrintLast Go.Proofs.YtdlijioedokgjaaW.PrintMore
set_option linter.unusedVariables false
set_option linter.unusedSimpArgs false

theorem RefAdd_j1 (C S L seq : List Int) (i : Int) (b0 : C.length ≤ 100000) (b1 : S.length ≤ 100000) (b2 : L.length ≤ 100000) (bs : seq.length ≤ 100000) (h0 : 0 ≤ i) (h1 : i ≤ C.length) :
    EvR (fun k => unicodetextref14_Add.j1 k seq i C S L) (C ++ seq.drop ((C.length : Int) - i).toNat, S ++ [i], L ++ [(seq.length : Int)], (S.length : Int)) := by
  refine EvR.succ ?_
  simp only [unicodetextref14_Add.j1]
  rw [w64 (x := (C.length : Int) - i) (by omega) (by omega)]
  refine EvR.pos (by simp; omega) (EvR.bindc rfl ?_)
  by_cases h : (C.length : Int) - i < (seq.length : Int)
  · refine EvR.pos h (EvR.pos (by omega) (EvR.pos (by omega) (EvR.pos (by simp; omega) (EvR.pos (by simp; omega) (EvR.bindc rfl (EvR.pos (by simp; omega) (EvR.pos (by simp; omega) (EvR.bindc rfl (EvR.pos (by simp; omega) ((EvR.const _).cast ?_)))))))))) 
    simp
  · refine EvR.neg h (EvR.pos (by simp; omega) (EvR.bindc rfl (EvR.pos (by simp; omega) (EvR.pos (by simp; omega) (EvR.bindc rfl (EvR.pos (by simp; omega) ((EvR.const _).cast ?_)))))))
    rw [List.drop_eq_nil_of_le (by omega)]
    simp
theorem RefAdd_l0 (C S L seq : List Int) (b0 : C.length ≤ 100000) (b1 : S.length ≤ 100000) (b2 : L.length ≤ 100000) (bs : seq.length ≤ 100000) : ∀ (d : Nat) (i : Int), 0 ≤ i → i + d = C.length →
    EvR (fun k => unicodetextref14_Add.l0 k seq i C S L) (C ++ seq.drop (C.length - atF C seq d i.toNat), S ++ [(atF C seq d i.toNat : Int)], L ++ [(seq.length : Int)], (S.length : Int)) := by
  intro d
  induction d with
  | zero =>
    intro i hi he
    refine EvR.succ ?_
    simp only [unicodetextref14_Add.l0]
    refine EvR.neg (by omega) ((RefAdd_j1 C S L seq i b0 b1 b2 bs hi (by omega)).cast ?_)
    simp only [atF]
    rw [Int.toNat_of_nonneg hi, show ((C.length : Int) - i).toNat = C.length - i.toNat by omega]
  | succ d ih =>
    intro i hi he
    refine EvR.succ ?_
    simp only [unicodetextref14_Add.l0]
    have hm : mn (seq.length : Int) ((C.length : Int) - i) = ((min seq.length (C.length - i.toNat) : Nat) : Int) := by unfold mn; split <;> omega
    rw [w64 (x := (C.length : Int) - i) (by omega) (by omega), hm, w64 (x := i + ((min seq.length (C.length - i.toNat) : Nat) : Int)) (by omega) (by omega)]
    refine EvR.pos (by omega) (EvR.pos hi (EvR.pos (by omega) (EvR.pos (by omega) (EvR.pos (by omega) (EvR.pos (by omega) ?_)))))
    refine EvR.bind (RefEqual_ev _ _ (by rw [List.length_drop, List.length_take]; omega) (by rw [List.length_take]; omega)) ?_
    have hc : decide ((C.take (i + ((min seq.length (C.length - i.toNat) : Nat) : Int)).toNat).drop i.toNat = seq.take ((min seq.length (C.length - i.toNat) : Nat) : Int).toNat) = agrees C seq i.toNat := by
      unfold agrees
      rw [List.drop_take, show (i + ((min seq.length (C.length - i.toNat) : Nat) : Int)).toNat - i.toNat = min seq.length (C.length - i.toNat) by omega, Int.toNat_natCast]
    rw [hc]
    by_cases ha : agrees C seq i.toNat = true
    · refine EvR.pos ha ((RefAdd_j1 C S L seq i b0 b1 b2 bs hi (by omega)).cast ?_)
      simp only [atF]
      rw [if_pos ha, Int.toNat_of_nonneg hi, show ((C.length : Int) - i).toNat = C.length - i.toNat by omega]
    · refine EvR.neg ha ?_
      rw [w64 (x := i + 1) (by omega) (by omega)]
      refine (ih (i + 1) (by omega) (by omega)).cast ?_
      simp only [atF]
      rw [if_neg ha, show (i + 1).toNat = i.toNat + 1 by omega]
theorem RefAdd_ev (C S L seq : List Int) (b0 : C.length ≤ 100000) (b1 : S.length ≤ 100000) (b2 : L.length ≤ 100000) (bs : seq.length ≤ 100000) :
    EvR (fun k => unicodetextref14_Add.f k C S L seq) ((AddPure (validB C S L) C S L seq).1, (AddPure (validB C S L) C S L seq).2.1, (AddPure (validB C S L) C S L seq).2.2, ((AddPure (validB C S L) C S L seq).2.1.length : Int) - 1) := by
  unfold unicodetextref14_Add.f
  refine EvR.bind (RefValid_ev C S L (by omega) (by omega)) ?_
  by_cases hv : validB C S L = true
  · refine EvR.pos hv ((RefAdd_l0 C S L seq b0 b1 b2 bs C.length 0 (by omega) (by omega)).cast ?_)
    simp only [AddPure, if_pos hv]
    rw [placeP_ref]
    simp [refAt]
  · refine EvR.neg hv ((RefAdd_l0 [] [] [] seq (by simp) (by simp) (by simp) bs 0 0 (by omega) (by simp)).cast ?_)
    simp only [AddPure, if_neg hv]
    rw [placeP_ref]
    simp [refAt]
end Go.Proofs.Ytdlijioedokgjaa.Q

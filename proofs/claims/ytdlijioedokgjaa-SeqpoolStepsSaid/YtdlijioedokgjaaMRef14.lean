/- ref14.Valid, ref01.Equal and ref14.Get, plainly. -/
import Derived.Test.YtdlijioedokgjaaMRefV
import Derived.Test.YtdlijioedokgjaaQF54
namespace Go.Proofs.Ytdlijioedokgjaa.Q
open Go.RowKit Go.Proofs.YtdlijioedokgjaaW.PrintWords Go.Proofs.YtdlijioedokgjaaW.PrintLast Go.Proofs.YtdlijioedokgjaaW.PrintMore
set_option linter.unusedVariables false
set_option linter.unusedSimpArgs false

theorem Compare_self (l : List Int) (h : (l.length : Int) ≤ 9223372036854775806) : ∀ (d : Nat) (i : Int), 0 ≤ i → i + d = l.length → EvR (fun k => unicodetextref01_Compare.l0 k l l i) 0 := by
  intro d
  induction d with
  | zero =>
    intro i hi he
    refine EvR.succ ?_
    simp only [unicodetextref01_Compare.l0]
    refine EvR.neg (by omega) (EvR.succ ?_)
    simp only [unicodetextref01_Compare.j1]
    exact EvR.neg (by simp) (EvR.neg (by omega) (EvR.neg (by omega) (EvR.const _)))
  | succ d ih =>
    intro i hi he
    refine EvR.succ ?_
    simp only [unicodetextref01_Compare.l0]
    refine EvR.pos (by omega) (EvR.succ ?_)
    simp only [unicodetextref01_Compare.j1]
    refine EvR.pos (by simp; omega) (EvR.pos hi (EvR.pos (by omega) (EvR.pos (by omega) (EvR.neg (by omega) (EvR.neg (by omega) ?_)))))
    rw [w64 (x := i + 1) (by omega) (by omega)]
    exact ih (i + 1) (by omega) (by omega)
theorem RefEqual_self (l : List Int) (h : (l.length : Int) ≤ 9223372036854775806) : EvR (fun k => unicodetextref01_Equal.f k l l) true := by
  unfold unicodetextref01_Equal.f unicodetextref01_Compare.f
  exact EvR.bind (Compare_self l h l.length 0 (by omega) (by omega)) (EvR.const _)
theorem Compare_ev (a b : List Int) (ha : (a.length : Int) ≤ 9223372036854775806) (hb : (b.length : Int) ≤ 9223372036854775806) : ∀ (d : Nat) (i : Int), 0 ≤ i → i + d = a.length → i ≤ b.length → ∃ c, EvR (fun k => unicodetextref01_Compare.l0 k a b i) c ∧ (c = 0 ↔ a.drop i.toNat = b.drop i.toNat) := by
  intro d
  induction d with
  | zero =>
    intro i hi he hib
    by_cases h1 : (a.length : Int) < b.length
    · refine ⟨-1, EvR.succ ?_, ?_⟩
      · simp only [unicodetextref01_Compare.l0]
        refine EvR.neg (by omega) (EvR.succ ?_)
        simp only [unicodetextref01_Compare.j1]
        exact EvR.neg (by simp) (EvR.pos h1 (EvR.const _))
      · refine ⟨fun h => by omega, fun h => ?_⟩
        have := congrArg List.length h
        rw [List.length_drop, List.length_drop] at this; omega
    · refine ⟨0, EvR.succ ?_, ?_⟩
      · simp only [unicodetextref01_Compare.l0]
        refine EvR.neg (by omega) (EvR.succ ?_)
        simp only [unicodetextref01_Compare.j1]
        exact EvR.neg (by simp) (EvR.neg h1 (EvR.neg (by omega) (EvR.const _)))
      · rw [List.drop_eq_nil_of_le (by omega), List.drop_eq_nil_of_le (by omega)]; simp
  | succ d ih =>
    intro i hi he hib
    by_cases hlt : i < (b.length : Int)
    · rw [drop_rd a i hi (by omega), drop_rd b i hi hlt]
      have step : ∀ c, EvR (fun k => if rd a i < rd b i then some (-1) else if rd a i > rd b i then some 1 else unicodetextref01_Compare.l0 k a b (wrap64 (i + 1))) c → EvR (fun k => unicodetextref01_Compare.l0 k a b i) c := by
        intro c hc
        refine EvR.succ ?_
        simp only [unicodetextref01_Compare.l0]
        refine EvR.pos (by omega) (EvR.succ ?_)
        simp only [unicodetextref01_Compare.j1]
        exact EvR.pos (by simp; omega) (EvR.pos hi (EvR.pos (by omega) (EvR.pos (by omega) hc)))
      by_cases c1 : rd a i < rd b i
      · exact ⟨-1, step _ (EvR.pos c1 (EvR.const _)), ⟨fun h => by omega, fun h => by injection h with h1 h2; omega⟩⟩
      · by_cases c2 : rd a i > rd b i
        · exact ⟨1, step _ (EvR.neg c1 (EvR.pos c2 (EvR.const _))), ⟨fun h => by omega, fun h => by injection h with h1 h2; omega⟩⟩
        · obtain ⟨c, h1, h2⟩ := ih (i + 1) (by omega) (by omega) (by omega)
          refine ⟨c, step _ (EvR.neg c1 (EvR.neg c2 ?_)), ?_⟩
          · rw [w64 (x := i + 1) (by omega) (by omega)]; exact h1
          · rw [h2, show rd a i = rd b i by omega]
            exact ⟨fun h => by rw [h], fun h => by injection h⟩
    · refine ⟨1, EvR.succ ?_, ?_⟩
      · simp only [unicodetextref01_Compare.l0]
        refine EvR.pos (by omega) (EvR.succ ?_)
        simp only [unicodetextref01_Compare.j1]
        exact EvR.neg (by simp; omega) (EvR.neg (by omega) (EvR.pos (by omega) (EvR.const _)))
      · refine ⟨fun h => by omega, fun h => ?_⟩
        have := congrArg List.length h
        rw [List.length_drop, List.length_drop] at this; omega
theorem RefEqual_ev (a b : List Int) (ha : (a.length : Int) ≤ 9223372036854775806) (hb : (b.length : Int) ≤ 9223372036854775806) : EvR (fun k => unicodetextref01_Equal.f k a b) (decide (a = b)) := by
  unfold unicodetextref01_Equal.f unicodetextref01_Compare.f
  obtain ⟨c, h1, h2⟩ := Compare_ev a b ha hb a.length 0 (by omega) (by omega) (by omega)
  refine EvR.bind h1 ((EvR.const _).cast ?_)
  by_cases h : a = b
  · rw [decide_eq_true h, h2.2 (by rw [h])]; rfl
  · rw [decide_eq_false h]
    have : c ≠ 0 := fun hc => h (by simpa using h2.1 hc)
    simpa using this
end Go.Proofs.Ytdlijioedokgjaa.Q

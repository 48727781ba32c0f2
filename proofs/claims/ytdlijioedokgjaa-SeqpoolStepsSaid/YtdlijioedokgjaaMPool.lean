/- seqpool.Valid, plainly. -/
import Derived.Test.YtdlijioedokgjaaMEv
import Derived.Test.YtdlijioedokgjaaQF59
import Derived.Test.YtdlijioedokgjaaQF60
namespace Go.Proofs.Ytdlijioedokgjaa.Q
open Go.RowKit Go.Proofs.YtdlijioedokgjaaW.PrintWords Go.Proofs.YtdlijioedokgjaaW.PrintLast Go.Proofs.YtdlijioedokgjaaW.PrintMore
set_option linter.unusedVariables false
set_option linter.unusedSimpArgs false

theorem w64 {x : Int} (h : -9223372036854775808 ≤ x) (h2 : x ≤ 9223372036854775807) : Go.RowKit.wrap64 x = x := by unfold Go.RowKit.wrap64; omega
def vOk (n s m : Int) : Bool := decide (0 ≤ s) && decide (0 ≤ m) && decide (s ≤ n) && decide (m ≤ n - s)
def vAll (l0 l1 l2 : List Int) : Nat → Int → Bool
  | 0, _ => true
  | d + 1, i => vOk l0.length (rd l1 i) (rd l2 i) && vAll l0 l1 l2 d (i + 1)
def validB (l0 l1 l2 : List Int) : Bool := decide (l1.length = l2.length) && vAll l0 l1 l2 l1.length 0
theorem vAll_spec {l0 l1 l2 : List Int} : ∀ {d : Nat} {i : Int}, vAll l0 l1 l2 d i = true → ∀ j, i ≤ j → j < i + d → vOk l0.length (rd l1 j) (rd l2 j) = true := by
  intro d
  induction d with
  | zero => intro i _ j h1 h2; omega
  | succ d ih =>
    intro i h j h1 h2
    rw [vAll, Bool.and_eq_true] at h
    rcases Int.lt_or_eq_of_le h1 with h3 | h3
    · exact ih h.2 j (by omega) (by omega)
    · subst h3; exact h.1
theorem vOk_spec {n s m : Int} (h : vOk n s m = true) : 0 ≤ s ∧ 0 ≤ m ∧ s ≤ n ∧ s + m ≤ n := by
  simp only [vOk, Bool.and_eq_true, decide_eq_true_eq] at h
  omega
theorem validB_spec {l0 l1 l2 : List Int} (h : validB l0 l1 l2 = true) : l1.length = l2.length ∧ ∀ j : Int, 0 ≤ j → j < l1.length → 0 ≤ rd l1 j ∧ 0 ≤ rd l2 j ∧ rd l1 j ≤ l0.length ∧ rd l1 j + rd l2 j ≤ l0.length := by
  simp only [validB, Bool.and_eq_true, decide_eq_true_eq] at h
  exact ⟨h.1, fun j h0 h1 => vOk_spec (vAll_spec h.2 j h0 (by omega))⟩
theorem Valid_l0_ev (l0 l1 l2 : List Int) (hl : l1.length = l2.length) (h0 : (l0.length : Int) ≤ 9223372036854775807) (h1 : (l1.length : Int) ≤ 9223372036854775807) : ∀ (d : Nat) (i : Int), 0 ≤ i → i + d = l1.length →
    EvR (fun k => seqpool_Valid.l0 k l1 (l1.length : Int) i l0 l1 l2) (vAll l0 l1 l2 d i) := by
  intro d
  induction d with
  | zero =>
    intro i hi he
    refine EvR.succ ?_
    simp only [seqpool_Valid.l0]
    exact EvR.neg (by omega) (EvR.const _)
  | succ d ih =>
    intro i hi he
    refine EvR.succ ?_
    simp only [seqpool_Valid.l0, vAll]
    refine EvR.pos (by omega) (EvR.pos hi (EvR.pos (by omega) (EvR.pos (by omega) ?_)))
    by_cases a1 : rd l1 i < 0
    · exact EvR.pos a1 ((EvR.const _).cast (by simp [vOk]; omega))
    · refine EvR.neg a1 ?_
      by_cases a2 : rd l2 i < 0
      · exact EvR.pos a2 ((EvR.const _).cast (by simp [vOk]; omega))
      · refine EvR.neg a2 ?_
        by_cases a3 : rd l1 i > (l0.length : Int)
        · exact EvR.pos a3 ((EvR.const _).cast (by simp [vOk]; omega))
        · refine EvR.neg a3 ?_
          rw [w64 (x := (l0.length : Int) - rd l1 i) (by omega) (by omega)]
          by_cases a4 : rd l2 i > (l0.length : Int) - rd l1 i
          · exact EvR.pos a4 ((EvR.const _).cast (by simp [vOk]; omega))
          · refine EvR.neg a4 ?_
            rw [w64 (x := i + 1) (by omega) (by omega)]
            refine (ih (i + 1) (by omega) (by omega)).cast ?_
            have : vOk l0.length (rd l1 i) (rd l2 i) = true := by simp [vOk]; omega
            rw [this, Bool.true_and]
theorem Valid_ev (l0 l1 l2 : List Int) (h0 : (l0.length : Int) ≤ 9223372036854775807) (h1 : (l1.length : Int) ≤ 9223372036854775807) : EvR (fun k => seqpool_Valid.f k l0 l1 l2) (validB l0 l1 l2) := by
  simp only [seqpool_Valid.f, validB]
  by_cases hl : l1.length = l2.length
  · refine EvR.pos (by omega) ((Valid_l0_ev l0 l1 l2 hl h0 h1 l1.length 0 (by omega) (by omega)).cast ?_)
    simp [hl]
  · exact EvR.neg (by omega) ((EvR.const _).cast (by simp [hl]))
end Go.Proofs.Ytdlijioedokgjaa.Q

/- Proved: multistage.Valid, Get and Size answer as specified, for tables of at most 6 stages with at most 12000 numbers, and every number; the arguments are as they were. Conditions: none. -/
import Derived.Test.YtdlijioedokgjaaSMultistageValid
import Derived.Test.YtdlijioedokgjaaMAwake
namespace Go.Proofs.Ytdlijioedokgjaa.Pure
open Go.RowKit Go.Proofs.Ytdlijioedokgjaa.Q Go.Proofs.YtdlijioedokgjaaW.PrintWords Go.Proofs.YtdlijioedokgjaaW.PrintLast
set_option linter.unusedVariables false

theorem in_of_wf {x : Int} (h : (Lit.int .i64 x).wf = true) : i64in x = true := by
  have h2 : IntKind.i64.min ≤ x ∧ x ≤ 9223372036854775807 := by simpa [Lit.wf] using h
  have e : IntKind.i64.min = -9223372036854775808 := by decide
  rw [e] at h2
  exact decide_eq_true (by omega)
theorem MultistageValid : MultistageValid.Pure := by
  intro W S c oW oS oc
  refine EvR.exists_ ?_
  unfold unicodetextlaw13_MultistageValid.f
  have al : EvR (fun k => (unicodetextlaw13_awake.f k).bind fun t => some t) true := EvR.bind awake_ev (EvR.const _)
  obtain ⟨b, hb, hs⟩ := small_ev W S
  refine EvR.bind hb ?_
  cases b with
  | false => exact EvR.neg (by simp) al
  | true =>
    obtain ⟨h1, h2, h3⟩ := hs rfl
    have hS : ∀ l ∈ S, l.length ≤ 2000000 ∧ l.all i64in = true := fun l hl => by
      refine ⟨by have := h3 l hl; omega, ?_⟩
      rw [List.all_eq_true]
      exact fun x hx => in_of_wf ((oS.2 l hl).2 x hx)
    refine EvR.pos rfl (EvR.bind (validT_ev W S hS) (EvR.bind (refValid_ev W S (fun l hl => (hS l hl).1)) (EvR.pos (by simp) ?_)))
    refine EvR.bind (Get_ev W S hS c) (EvR.bind (RefGet_ev W S (fun l hl => (hS l hl).1) c) (EvR.pos rfl ?_))
    exact EvR.bind (Size_ev W (by omega) (fun l hl => by have := h3 l hl; omega)) (EvR.bind (RefSize_ev W (by omega) (fun l hl => by have := h3 l hl; omega)) (EvR.pos rfl al))
end Go.Proofs.Ytdlijioedokgjaa.Pure

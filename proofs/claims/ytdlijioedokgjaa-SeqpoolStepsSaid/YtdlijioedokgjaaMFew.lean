/- ref14.Few, plainly: a list that it lets in is short. -/
import Derived.Test.YtdlijioedokgjaaMRef14
import Derived.Test.YtdlijioedokgjaaMPlace
import Derived.Test.YtdlijioedokgjaaQF35
namespace Go.Proofs.Ytdlijioedokgjaa.Q
open Go.RowKit Go.Proofs.YtdlijioedokgjaaW.PrintWords Go.Proofs.YtdlijioedokgjaaW.PrintLast Go.Proofs.YtdlijioedokgjaaW.PrintMore
set_option linter.unusedVariables false
set_option linter.unusedSimpArgs false

theorem Few_l0 (l : List (List Int)) : ∀ (d : Nat) (i : Int), 0 ≤ i → i + d = 20 → (∀ j : Int, 0 ≤ j → j < i → j < l.length → (rd_L2 l j).length ≤ 20) →
    ∃ b, EvR (fun k => unicodetextref14_Few.l0 k l i) b ∧ (b = true → l.length ≤ 12 ∧ ∀ j : Int, 0 ≤ j → j < l.length → (rd_L2 l j).length ≤ 20) := by
  intro d
  induction d with
  | zero =>
    intro i hi he hall
    refine ⟨decide ((l.length : Int) ≤ 12), EvR.succ ?_, fun h => ?_⟩
    · simp only [unicodetextref14_Few.l0]
      have hj : EvR (fun k => unicodetextref14_Few.j1 k l i false) (decide ((l.length : Int) ≤ 12)) := by
        refine EvR.succ ?_
        simp only [unicodetextref14_Few.j1]
        exact EvR.neg (by simp) (EvR.const _)
      by_cases h : i < (l.length : Int)
      · refine EvR.pos h ?_
        rw [decide_eq_false (by omega)]
        exact hj
      · exact EvR.neg h hj
    · simp only [decide_eq_true_eq] at h
      exact ⟨by omega, fun j h0 h1 => hall j h0 (by omega) h1⟩
  | succ d ih =>
    intro i hi he hall
    by_cases h : i < (l.length : Int)
    · have hj : ∀ b, EvR (fun k => if ((rd_L2 l i).length : Int) > 20 then some false else unicodetextref14_Few.l0 k l (wrap64 (i + 1))) b → EvR (fun k => unicodetextref14_Few.l0 k l i) b := by
        intro b hb
        refine EvR.succ ?_
        simp only [unicodetextref14_Few.l0]
        refine EvR.pos h (EvR.succ ?_)
        simp only [unicodetextref14_Few.j1]
        exact EvR.pos (by simp; omega) (EvR.pos hi (EvR.pos h hb))
      by_cases h2 : ((rd_L2 l i).length : Int) > 20
      · exact ⟨false, hj _ (EvR.pos h2 (EvR.const _)), fun h => by cases h⟩
      · obtain ⟨b, hb, hs⟩ := ih (i + 1) (by omega) (by omega) (fun j h0 h1 h3 => by
          by_cases e : j = i
          · subst e; omega
          · exact hall j h0 (by omega) h3)
        refine ⟨b, hj _ (EvR.neg h2 ?_), hs⟩
        rw [w64 (x := i + 1) (by omega) (by omega)]; exact hb
    · refine ⟨decide ((l.length : Int) ≤ 12), EvR.succ ?_, fun h' => ?_⟩
      · simp only [unicodetextref14_Few.l0]
        refine EvR.neg h (EvR.succ ?_)
        simp only [unicodetextref14_Few.j1]
        exact EvR.neg (by simp) (EvR.const _)
      · simp only [decide_eq_true_eq] at h'
        exact ⟨by omega, fun j h0 h1 => hall j h0 (by omega) h1⟩
theorem Few_ev (l : List (List Int)) : ∃ b, EvR (fun k => unicodetextref14_Few.f k l) b ∧ (b = true → l.length ≤ 12 ∧ ∀ j : Int, 0 ≤ j → j < l.length → (rd_L2 l j).length ≤ 20) := by
  unfold unicodetextref14_Few.f
  exact Few_l0 l 20 0 (by omega) (by omega) (fun j h0 h1 => by omega)
theorem sumL_le {m : Nat} : ∀ (l : List (List Int)), (∀ x ∈ l, x.length ≤ m) → sumL l ≤ m * l.length := by
  intro l
  induction l with
  | nil => intro _; simp [sumL]
  | cons x l ih =>
    intro h
    have h1 := ih (fun y hy => h y (by simp [hy]))
    have h2 := h x (by simp)
    simp only [sumL, List.length_cons, Nat.mul_add, Nat.mul_one]; omega
theorem few_sum {l : List (List Int)} (h : l.length ≤ 12 ∧ ∀ j : Int, 0 ≤ j → j < l.length → (rd_L2 l j).length ≤ 20) : sumL l ≤ 240 := by
  have h2 := sumL_le (m := 20) l (fun x hx => by
    obtain ⟨n, hn, rfl⟩ := List.mem_iff_getElem.1 hx
    have := h.2 n (by omega) (by omega)
    rw [rd_L2_eq _ _ (by omega) (by omega)] at this
    simpa using this)
  omega
theorem few_pack {l : List (List Int)} (h : l.length ≤ 12 ∧ ∀ j : Int, 0 ≤ j → j < l.length → (rd_L2 l j).length ≤ 20) : seqpool_Pack.f l = some (packP l) := by
  unfold seqpool_Pack.f
  rw [if_pos ⟨by have := few_sum h; omega, by omega⟩]
theorem getP_in {l0 l1 l2 : List Int} {i : Int} (hv : validB l0 l1 l2 = true) (h0 : 0 ≤ i) (h1 : i < l1.length) : getP l0 l1 l2 i = (cut l0 (rd l1 i) (rd l2 i), true) := by unfold getP; rw [if_pos ⟨hv, h0, h1⟩]
theorem getP_out {l0 l1 l2 : List Int} {i : Int} (h1 : (l1.length : Int) ≤ i) : getP l0 l1 l2 i = ([], false) := by unfold getP; rw [if_neg (fun h => by omega)]
theorem get_f {l0 l1 l2 : List Int} (i : Int) (h0 : l0.length ≤ 1000000) (h1 : l1.length ≤ 1000000) (h2 : l2.length ≤ 1000000) : seqpool_Get.f l0 l1 l2 i = some (getP l0 l1 l2 i) := by unfold seqpool_Get.f; rw [if_pos (by omega)]
theorem find_f {l0 l1 l2 : List Int} (q : List Int) (h0 : l0.length ≤ 1000000) (h1 : l1.length ≤ 1000000) (h2 : l2.length ≤ 1000000) : seqpool_Find.f l0 l1 l2 q = some (findP l0 l1 l2 q) := by unfold seqpool_Find.f; rw [if_pos (by omega)]
theorem valid_len {l0 l1 l2 : List Int} (hv : validB l0 l1 l2 = true) : l1.length = l2.length := (validB_spec hv).1
theorem Equal_true {a b : List Int} (h : a = b) (hb : (b.length : Int) ≤ 9223372036854775806) : EvR (fun k => unicodetextref01_Equal.f k a b) true := by subst h; exact RefEqual_self a hb
theorem add_f {l0 l1 l2 : List Int} (q : List Int) (hv : validB l0 l1 l2 = true) (h0 : l0.length ≤ 1000000) (h1 : l1.length ≤ 1000000) (h2 : l2.length ≤ 1000000) (hq : q.length ≤ 1000000) :
    seqpool_Add.f l0 l1 l2 q = some ((addP (l0, l1, l2) q).1, (addP (l0, l1, l2) q).2.1, (addP (l0, l1, l2) q).2.2, (l1.length : Int)) := by
  unfold seqpool_Add.f
  rw [if_pos (by omega), AddPure_valid hv]
  have := (addP_spec (st := (l0, l1, l2)) q hv).2.1
  simp only at this
  rw [this]
  congr 4
  simp
end Go.Proofs.Ytdlijioedokgjaa.Q

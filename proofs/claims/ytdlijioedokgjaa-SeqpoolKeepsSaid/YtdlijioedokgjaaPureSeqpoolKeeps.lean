/- Proved: Add changes no sequence of a valid pool, and only appends to its Codes; the arguments are as they were. Conditions: none. -/
import Derived.Test.YtdlijioedokgjaaSSeqpoolKeeps
import Derived.Test.YtdlijioedokgjaaMFew
import Derived.Test.YtdlijioedokgjaaQF40
namespace Go.Proofs.Ytdlijioedokgjaa.Pure
open Go.RowKit Go.Proofs.Ytdlijioedokgjaa.Q Go.Proofs.YtdlijioedokgjaaW.PrintWords Go.Proofs.YtdlijioedokgjaaW.PrintLast
set_option linter.unusedVariables false

theorem Keeps_l0 (l0 l1 l2 seq C S L : List Int) (hv : validB l0 l1 l2 = true) (hq : addP (l0, l1, l2) seq = (C, S, L)) (b0 : l0.length ≤ 200) (b1 : l1.length ≤ 40) (b2 : l2.length ≤ 40) (bs : seq.length ≤ 20) : ∀ (d : Nat) (i : Int), 0 ≤ i → i + d = l1.length →
    EvR (fun k => unicodetextlaw14_SeqpoolKeeps.l0 k seq (l1.length : Int) i l0 l1 l2 C S L) true := by
  obtain ⟨hV, hS, hL, ⟨t, hC, ht⟩, hk, hn⟩ := addP_spec (st := (l0, l1, l2)) seq hv
  rw [hq] at hV hS hL hC hk hn
  simp only at hV hS hL hC hk hn
  have hCl : C.length ≤ 220 := by rw [hC, List.length_append]; omega
  have al : EvR (fun _ => law14_alive.f.bind fun t => some t) true := EvR.const _
  intro d
  induction d with
  | zero =>
    intro i hi he
    refine EvR.succ ?_
    simp only [unicodetextlaw14_SeqpoolKeeps.l0]
    refine EvR.neg (by omega) (EvR.bindc (get_f _ (by omega) (by omega) (by omega)) ?_)
    rw [getP_in hV (by omega) (by omega), hn]
    exact EvR.pos rfl (EvR.bind (RefEqual_self _ (by show (seq.length : Int) ≤ _; omega)) (EvR.pos rfl (EvR.bind (Valid_ev C S L (by omega) (by omega)) (EvR.pos hV al))))
  | succ d ih =>
    intro i hi he
    refine EvR.succ ?_
    simp only [unicodetextlaw14_SeqpoolKeeps.l0]
    refine EvR.pos (by omega) (EvR.bindc (get_f _ (by omega) (by omega) (by omega)) (EvR.bindc (get_f _ (by omega) (by omega) (by omega)) ?_))
    rw [getP_in hv hi (by omega), getP_in hV hi (by omega)]
    refine EvR.pos rfl (EvR.pos rfl (EvR.bind (Equal_true (hk i hi (by omega)).symm ?_) (EvR.succ ?_)))
    · simp [cut]; omega
    simp only [unicodetextlaw14_SeqpoolKeeps.j3]
    refine EvR.neg (by simp) ?_
    rw [w64 (x := i + 1) (by omega) (by omega)]
    exact ih (i + 1) (by omega) (by omega)
theorem SeqpoolKeeps : SeqpoolKeeps.Pure := by
  intro l0 l1 l2 seq o0 o1 o2 os
  refine EvR.exists_ ?_
  unfold unicodetextlaw14_SeqpoolKeeps.f
  have al : EvR (fun _ => law14_alive.f.bind fun t => some t) true := EvR.const _
  have jt : EvR (fun k => unicodetextlaw14_SeqpoolKeeps.j0 k seq true l0 l1 l2) true := by
    refine EvR.succ ?_
    simp only [unicodetextlaw14_SeqpoolKeeps.j0]
    exact EvR.pos (by simp) al
  by_cases hs : (l0.length : Int) ≤ 200 ∧ (l1.length : Int) ≤ 40 ∧ (l2.length : Int) ≤ 40
  · obtain ⟨h0, h1, h2⟩ := hs
    have hS : unicodetextref14_Small.f l0 l1 l2 = some true := by unfold unicodetextref14_Small.f; rw [if_pos h0, if_pos h1]; simp [h2]
    refine EvR.bindc hS (EvR.pos rfl ?_)
    by_cases hq : (seq.length : Int) > 20
    · exact EvR.pos hq jt
    · refine EvR.neg hq (EvR.bind (Valid_ev l0 l1 l2 (by omega) (by omega)) ?_)
      by_cases hv : validB l0 l1 l2 = true
      · rw [hv]
        have hsp := addP_spec (st := (l0, l1, l2)) seq hv
        have ha := add_f seq hv (by omega) (by omega) (by omega) (by omega)
        generalize hst : addP (l0, l1, l2) seq = st at hsp ha
        obtain ⟨C, S, L⟩ := st
        obtain ⟨hV, hS, hL, ⟨t, hC, ht⟩, hk, hn⟩ := hsp
        simp only at hV hS hL hC hk hn ha
        have hCl : C.length = l0.length + t.length := by rw [hC, List.length_append]
        refine EvR.succ ?_
        simp only [unicodetextlaw14_SeqpoolKeeps.j0]
        refine EvR.neg (by simp) (EvR.bindc ha (EvR.pos rfl ?_))
        simp only
        rw [w64 (x := (l1.length : Int) + 1) (by omega) (by omega), w64 (x := (l0.length : Int) + (seq.length : Int)) (by omega) (by omega)]
        refine EvR.pos (by omega) (EvR.neg (by omega) (EvR.neg (by omega) (EvR.pos (by omega) (EvR.pos (by omega) ?_))))
        refine EvR.bind (Equal_true (by rw [hC]; simp) (by omega)) (EvR.succ ?_)
        simp only [unicodetextlaw14_SeqpoolKeeps.j1]
        refine EvR.neg (by simp) ?_
        exact Keeps_l0 l0 l1 l2 seq C S L hv hst (by omega) (by omega) (by omega) (by omega) l1.length 0 (by omega) (by omega)
      · have : validB l0 l1 l2 = false := by simpa using hv
        rw [this]; exact jt
  · have hS : unicodetextref14_Small.f l0 l1 l2 = some false := by
      unfold unicodetextref14_Small.f
      split
      · split
        · simp; omega
        · rfl
      · rfl
    exact EvR.bindc hS (EvR.neg (by simp) jt)
end Go.Proofs.Ytdlijioedokgjaa.Pure

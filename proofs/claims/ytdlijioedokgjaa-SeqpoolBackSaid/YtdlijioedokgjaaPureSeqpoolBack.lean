/- Proved: Get of Pack returns the sequences, and Find finds each at its index, or earlier; the argument is as it was. Conditions: none. -/
import Derived.Test.YtdlijioedokgjaaSSeqpoolBack
import Derived.Test.YtdlijioedokgjaaMFew
namespace Go.Proofs.Ytdlijioedokgjaa.Pure
open Go.RowKit Go.Proofs.Ytdlijioedokgjaa.Q Go.Proofs.YtdlijioedokgjaaW.PrintWords Go.Proofs.YtdlijioedokgjaaW.PrintLast
set_option linter.unusedVariables false

theorem Back_l0 (l : List (List Int)) (C S L : List Int) (hp : packP l = (C, S, L)) (hf : l.length ≤ 12 ∧ ∀ j : Int, 0 ≤ j → j < l.length → (rd_L2 l j).length ≤ 20) : ∀ (d : Nat) (i : Int), 0 ≤ i → i + d = l.length →
    EvR (fun k => unicodetextlaw14_SeqpoolBack.l0 k l i C S L) true := by
  obtain ⟨hv, hS, hC, hcut⟩ := packP_spec l
  rw [hp] at hv hS hC hcut
  simp only at hv hS hC hcut
  have hsum := few_sum hf
  have hL := valid_len hv
  have al : EvR (fun _ => law14_alive.f.bind fun t => some t) true := EvR.const _
  intro d
  induction d with
  | zero =>
    intro i hi he
    refine EvR.succ ?_
    simp only [unicodetextlaw14_SeqpoolBack.l0]
    refine EvR.neg (by omega) (EvR.bindc (get_f _ (by omega) (by omega) (by omega)) ?_)
    rw [getP_out (by omega)]
    exact EvR.neg (by simp) (EvR.bind (Valid_ev C S L (by omega) (by omega)) (EvR.pos hv al))
  | succ d ih =>
    intro i hi he
    refine EvR.succ ?_
    simp only [unicodetextlaw14_SeqpoolBack.l0]
    refine EvR.pos (by omega) (EvR.bindc (get_f _ (by omega) (by omega) (by omega)) ?_)
    have hc := hcut i hi (by omega)
    have hlen := hf.2 i hi (by omega)
    obtain ⟨kk, k1, k2, k3, k4⟩ := findF_spec C S L (rd_L2 l i) S.length 0 i hi (by omega) hc
    have hF : findP C S L (rd_L2 l i) = (kk, true) := by unfold findP; rw [if_pos hv, k1]
    have hk := hcut kk k2 (by omega)
    rw [getP_in hv hi (by omega), hc]
    refine EvR.pos hi (EvR.bindc (find_f _ (by omega) (by omega) (by omega)) ?_)
    rw [hF]
    refine EvR.pos rfl (EvR.bind (RefEqual_self _ (by show ((rd_L2 l i).length : Int) ≤ _; omega)) (EvR.pos rfl (EvR.pos rfl (EvR.neg (by omega) (EvR.neg (by omega) (EvR.pos k2 (EvR.pos (by omega) ?_)))))))
    refine EvR.bind (Equal_true (hk.symm.trans k4) (by omega)) (EvR.succ ?_)
    simp only [unicodetextlaw14_SeqpoolBack.j1]
    refine EvR.neg (by simp) ?_
    rw [w64 (x := i + 1) (by omega) (by omega)]
    exact ih (i + 1) (by omega) (by omega)
theorem SeqpoolBack : SeqpoolBack.Pure := by
  intro l hl
  refine EvR.exists_ ?_
  unfold unicodetextlaw14_SeqpoolBack.f
  have al : EvR (fun _ => law14_alive.f.bind fun t => some t) true := EvR.const _
  obtain ⟨b, hb, hs⟩ := Few_ev l
  refine EvR.bind hb ?_
  cases b with
  | false => exact EvR.neg (by simp) al
  | true =>
    have hf := hs rfl
    refine EvR.pos rfl (EvR.bindc (few_pack hf) ?_)
    exact Back_l0 l _ _ _ rfl hf l.length 0 (by omega) (by omega)
end Go.Proofs.Ytdlijioedokgjaa.Pure

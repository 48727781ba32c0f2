/- Proved: seqpool.Pack answers as specified, and the argument is as it was. Conditions: none. -/
import Derived.Test.YtdlijioedokgjaaSSeqpoolPacks
import Derived.Test.YtdlijioedokgjaaMRefAdd
import Derived.Test.YtdlijioedokgjaaMFew
namespace Go.Proofs.Ytdlijioedokgjaa.Pure
open Go.RowKit Go.Proofs.Ytdlijioedokgjaa.Q Go.Proofs.YtdlijioedokgjaaW.PrintWords Go.Proofs.YtdlijioedokgjaaW.PrintLast
set_option linter.unusedVariables false

theorem Same_self (C S L : List Int) (h0 : (C.length : Int) ≤ 9223372036854775806) (h1 : (S.length : Int) ≤ 9223372036854775806) (h2 : (L.length : Int) ≤ 9223372036854775806) : EvR (fun k => unicodetextref14_Same.f k C S L C S L) true := by
  unfold unicodetextref14_Same.f
  exact EvR.bind (RefEqual_self C h0) (EvR.pos rfl (EvR.bind (RefEqual_self S h1) (EvR.pos rfl (EvR.bind (RefEqual_self L h2) (EvR.const _)))))
theorem RefPack_l0 (l : List (List Int)) (hf : l.length ≤ 12 ∧ ∀ j : Int, 0 ≤ j → j < l.length → (rd_L2 l j).length ≤ 20) : ∀ (d : Nat) (i : Int) (C S L : List Int), 0 ≤ i → i + d = l.length → packP (l.take i.toNat) = (C, S, L) →
    EvR (fun k => unicodetextref14_Pack.l0 k l i C S L) (packP l) := by
  intro d
  induction d with
  | zero =>
    intro i C S L hi he hp
    refine EvR.succ ?_
    simp only [unicodetextref14_Pack.l0]
    rw [List.take_of_length_le (by omega)] at hp
    exact EvR.neg (by omega) ((EvR.const _).cast hp.symm)
  | succ d ih =>
    intro i C S L hi he hp
    have hlen := hf.2 i hi (by omega)
    obtain ⟨hv, hS, hC, hcut⟩ := packP_spec (l.take i.toNat)
    rw [hp] at hv hS hC
    simp only at hv hS hC
    have hL := valid_len hv
    have hsum := few_sum hf
    have htk : (l.take i.toNat).length = i.toNat := by rw [List.length_take]; omega
    have hle : sumL (l.take i.toNat) ≤ 240 := by
      have := sumL_le (m := 20) (l.take i.toNat) (fun x hx => by
        obtain ⟨n, hn, rfl⟩ := List.mem_iff_getElem.1 (List.mem_of_mem_take hx)
        have := hf.2 n (by omega) (by omega)
        rw [rd_L2_eq _ _ (by omega) (by omega)] at this
        simpa using this)
      omega
    have hnext : packP (l.take (i + 1).toNat) = addP (C, S, L) (rd_L2 l i) := by
      rw [show (i + 1).toNat = i.toNat + 1 by omega, List.take_add_one, List.getElem?_eq_getElem (show i.toNat < l.length by omega), rd_L2_eq l i hi (by omega)]
      show packP (l.take i.toNat ++ [_]) = _
      rw [packP_snoc, hp]
    refine EvR.succ ?_
    simp only [unicodetextref14_Pack.l0]
    refine EvR.pos (by omega) (EvR.pos hi (EvR.bind (RefAdd_ev C S L _ (by omega) (by omega) (by omega) (by omega)) ?_))
    rw [AddPure_valid hv, w64 (x := i + 1) (by omega) (by omega)]
    exact ih (i + 1) _ _ _ (by omega) (by omega) hnext
theorem SeqpoolPacks : SeqpoolPacks.Pure := by
  intro l hl
  refine EvR.exists_ ?_
  unfold unicodetextlaw14_SeqpoolPacks.f
  have al : EvR (fun _ => law14_alive.f.bind fun t => some t) true := EvR.const _
  obtain ⟨b, hb, hs⟩ := Few_ev l
  refine EvR.bind hb ?_
  cases b with
  | false => exact EvR.neg (by simp) al
  | true =>
    have hf := hs rfl
    obtain ⟨hv, hS, hC, hcut⟩ := packP_spec l
    have hL := valid_len hv
    have hsum := few_sum hf
    have hR : EvR (fun k => unicodetextref14_Pack.f k l) (packP l) := by
      unfold unicodetextref14_Pack.f
      exact RefPack_l0 l hf l.length 0 [] [] [] (by omega) (by omega) rfl
    refine EvR.pos rfl (EvR.bindc (few_pack hf) (EvR.bind hR ?_))
    exact EvR.bind (Same_self _ _ _ (by omega) (by omega) (by omega)) (EvR.pos rfl al)
end Go.Proofs.Ytdlijioedokgjaa.Pure

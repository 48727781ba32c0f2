/- Proved: Pack needs no more Codes than the sequences have, and none for a sequence that occurs in another one; the arguments are as they were. Conditions: none. -/
import Derived.Test.YtdlijioedokgjaaSSeqpoolSaves
import Derived.Test.YtdlijioedokgjaaMFew
namespace Go.Proofs.Ytdlijioedokgjaa.Pure
open Go.RowKit Go.Proofs.Ytdlijioedokgjaa.Q Go.Proofs.YtdlijioedokgjaaW.PrintWords Go.Proofs.YtdlijioedokgjaaW.PrintLast
set_option linter.unusedVariables false

theorem sumL_drop (l : List (List Int)) (i : Int) (h0 : 0 ≤ i) (h1 : i < l.length) : sumL (l.drop i.toNat) = (rd_L2 l i).length + sumL (l.drop (i + 1).toNat) := by
  rw [drop_rd_L2 l i h0 h1]; rfl
theorem cut_cut {l : List Int} {s n lo hi : Int} {x : List Int} (hx : cut l s n = x) (hs : 0 ≤ s) (hn : n = x.length) (h0 : 0 ≤ lo) (h1 : lo ≤ hi) (h2 : hi ≤ x.length) : cut l (s + lo) (hi - lo) = (x.take hi.toNat).drop lo.toNat := by
  unfold cut at hx ⊢
  rw [← hx, List.take_take, List.drop_take, List.drop_drop]
  rw [show (s + lo).toNat = s.toNat + lo.toNat by omega, show (hi - lo).toNat = min hi.toNat n.toNat - lo.toNat by omega]
theorem tmod_in {a b : Int} (h0 : 0 ≤ a) (hb : 0 < b) : 0 ≤ Int.tmod a b ∧ Int.tmod a b < b := ⟨Int.tmod_nonneg b h0, Int.tmod_lt_of_pos a hb⟩
theorem Saves_l0 (l : List (List Int)) (a1 a2 a3 : Int) (b1 : 0 ≤ a1 ∧ a1 < 256) (b2 : 0 ≤ a2 ∧ a2 < 256) (b3 : 0 ≤ a3 ∧ a3 < 256) (hl : 0 < l.length) (C S L : List Int) (hp : packP l = (C, S, L)) (hf : l.length ≤ 12 ∧ ∀ j : Int, 0 ≤ j → j < l.length → (rd_L2 l j).length ≤ 20) :
    ∀ (d : Nat) (i n : Int), 0 ≤ i → i + d = l.length → 0 ≤ n → n + sumL (l.drop i.toNat) = sumL l → EvR (fun k => unicodetextlaw14_SeqpoolSaves.l0 k l a1 a2 a3 n i C S L) true := by
  obtain ⟨hv, hS, hC, hcut⟩ := packP_spec l
  rw [hp] at hv hS hC hcut
  simp only at hv hS hC hcut
  have hsum := few_sum hf
  have hL := valid_len hv
  have al : EvR (fun _ => law14_alive.f.bind fun t => some t) true := EvR.const _
  intro d
  induction d with
  | zero =>
    intro i n hi he hn hsn
    rw [List.drop_eq_nil_of_le (by omega)] at hsn
    simp only [sumL] at hsn
    refine EvR.succ ?_
    simp only [unicodetextlaw14_SeqpoolSaves.l0]
    refine EvR.neg (by omega) (EvR.neg (by omega) ?_)
    rw [w64 (x := a1) (by omega) (by omega), w64 (x := a2) (by omega) (by omega), w64 (x := a3) (by omega) (by omega)]
    obtain ⟨m0, m1⟩ := tmod_in b1.1 (show (0 : Int) < l.length by omega)
    generalize Int.tmod a1 (l.length : Int) = m at m0 m1
    have hlen := hf.2 m m0 m1
    have hcm := hcut m m0 m1
    have hvm := (validB_spec hv).2 m m0 (by omega)
    generalize hx : rd_L2 l m = x at hlen hcm
    rw [w64 (x := (x.length : Int) + 1) (by omega) (by omega)]
    obtain ⟨p0, p1⟩ := tmod_in b2.1 (show (0 : Int) < (x.length : Int) + 1 by omega)
    generalize Int.tmod a2 ((x.length : Int) + 1) = lo at p0 p1
    rw [w64 (x := (x.length : Int) + 1 - lo) (by omega) (by omega)]
    obtain ⟨q0, q1⟩ := tmod_in b3.1 (show (0 : Int) < (x.length : Int) + 1 - lo by omega)
    generalize Int.tmod a3 ((x.length : Int) + 1 - lo) = z at q0 q1
    rw [w64 (x := lo + z) (by omega) (by omega)]
    have hxl : (rd L m) = x.length := by
      have := congrArg List.length hcm
      rw [cut_length hvm.1 hvm.2.1 hvm.2.2.2] at this; omega
    have hcc := cut_cut (lo := lo) (hi := lo + z) hcm hvm.1 hxl p0 (by omega) (by omega)
    have hpl : (placeP C ((x.take (lo + z).toNat).drop lo.toNat)).1 = C := by
      have e : ((x.take (lo + z).toNat).drop lo.toNat).length = z.toNat := by rw [List.length_drop, List.length_take]; omega
      refine placeP_in (j := (rd S m + lo).toNat) (by rw [e]; omega) ?_
      rw [e, Int.toNat_of_nonneg (by omega), Int.toNat_of_nonneg q0, ← hcc]
      congr 1; omega
    have hA := add_f ((x.take (lo + z).toNat).drop lo.toNat) hv (by omega) (by omega) (by omega) (by rw [List.length_drop, List.length_take]; omega)
    refine EvR.pos m0 (EvR.pos m1 (EvR.neg (by omega) (EvR.neg (by omega) (EvR.pos p0 (EvR.pos (by omega) (EvR.pos (by omega) (EvR.bindc hA (EvR.pos (by omega) ?_))))))))
    simp only [addP]
    rw [hpl]
    exact EvR.bind (RefEqual_self C (by omega)) (EvR.pos rfl (EvR.pos (by omega) al))
  | succ d ih =>
    intro i n hi he hn hsn
    have hd := sumL_drop l i hi (by omega)
    refine EvR.succ ?_
    simp only [unicodetextlaw14_SeqpoolSaves.l0]
    refine EvR.pos (by omega) (EvR.pos hi ?_)
    rw [w64 (x := n + ((rd_L2 l i).length : Int)) (by omega) (by omega), w64 (x := i + 1) (by omega) (by omega)]
    exact ih (i + 1) _ (by omega) (by omega) (by omega) (by omega)
theorem wf_u8 {x : Int} (h : (Lit.int .u8 x).wf = true) : 0 ≤ x ∧ x < 256 := by
  simp only [Lit.wf, Bool.and_eq_true, decide_eq_true_eq] at h
  exact ⟨h.1, Int.lt_of_le_of_lt h.2 (by decide)⟩
theorem SeqpoolSaves : SeqpoolSaves.Pure := by
  intro l a1 a2 a3 hl w1 w2 w3
  refine EvR.exists_ ?_
  unfold unicodetextlaw14_SeqpoolSaves.f
  have al : EvR (fun _ => law14_alive.f.bind fun t => some t) true := EvR.const _
  have jt : EvR (fun k => unicodetextlaw14_SeqpoolSaves.j0 k l a1 a2 a3 true) true := by
    refine EvR.succ ?_
    simp only [unicodetextlaw14_SeqpoolSaves.j0]
    exact EvR.pos (by simp) al
  obtain ⟨b, hb, hs⟩ := Few_ev l
  refine EvR.bind hb ?_
  cases b with
  | false => exact EvR.neg (by simp) jt
  | true =>
    have hf := hs rfl
    refine EvR.pos rfl ?_
    by_cases h0 : l.length = 0
    · have : ((l.length : Int) == 0) = true := by simp [h0]
      rw [this]; exact jt
    · have : ((l.length : Int) == 0) = false := by
        rw [beq_eq_false_iff_ne]; omega
      rw [this]
      refine EvR.succ ?_
      simp only [unicodetextlaw14_SeqpoolSaves.j0]
      refine EvR.neg (by simp) (EvR.bindc (few_pack hf) ?_)
      exact Saves_l0 l a1 a2 a3 (wf_u8 w1) (wf_u8 w2) (wf_u8 w3) (by omega) _ _ _ rfl hf l.length 0 0 (by omega) (by omega) (by omega) (by simp)
end Go.Proofs.Ytdlijioedokgjaa.Pure

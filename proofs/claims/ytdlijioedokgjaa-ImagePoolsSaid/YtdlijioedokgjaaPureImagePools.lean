/- Proved: image.Pool answers as specified, and ReadPool restores it, for pools with lists of at most 100 numbers; the arguments are as they were. Conditions: none. -/
import Derived.Test.YtdlijioedokgjaaSImagePools
import Derived.Test.YtdlijioedokgjaaHReadPool
import Derived.Test.YtdlijioedokgjaaMRefV
namespace Go.Proofs.Ytdlijioedokgjaa.Pure
open Go.RowKit Go.Proofs.Ytdlijioedokgjaa.Q Go.Proofs.YtdlijioedokgjaaW.PrintWords Go.Proofs.YtdlijioedokgjaaW.PrintLast
set_option linter.unusedVariables false

theorem SamePools_refl (a b c : List Int) (ha : a.length ≤ 9223372036854775807) (hb : b.length ≤ 9223372036854775807) (hc : c.length ≤ 9223372036854775807) : EvR (fun k => unicodetextref15_SamePools.f k a b c a b c) true := by
  unfold unicodetextref15_SamePools.f
  exact EvR.bind (SameInts_refl a ha) (EvR.pos rfl (EvR.bind (SameInts_refl b hb) (EvR.pos rfl (EvR.bind (SameInts_refl c hc) (EvR.const _)))))
theorem rdList_at {s : ByteArray} {x : Int} {l rest : List Int} (hl : okInts l) (hn : l.length ≤ 9223372036854775807) (h0 : 0 ≤ x) (h1 : x ≤ s.size) (hd : (bytesOf s).drop x.toNat = intsB l ++ rest) : rdList s x = .ok (l, (s.size : Int) - rest.length) ∧ (bytesOf s).drop ((s.size : Int) - rest.length).toNat = rest ∧ 0 ≤ (s.size : Int) - rest.length ∧ (s.size : Int) - rest.length ≤ s.size := by
  obtain ⟨g1, g2, g3⟩ := drop_of_suffix s x.toNat (intsB l) rest hd
  refine ⟨?_, g1, g2, g3⟩
  rw [rdList_L s x h0 h1, hd, rdListL_intsB hl hn]
  rfl
theorem read_back {C S L : List Int} (hC : okInts C) (hS : okInts S) (hL : okInts L) (nC : C.length ≤ 1000) (nS : S.length ≤ 1000) (nL : L.length ≤ 1000) (hv : validB C S L = true) : readPoolP (sealB (strOfNums (intsB C ++ (intsB S ++ intsB L)))) = (C, S, L, 0) := by
  have hb : bytesOf (strOfNums (intsB C ++ (intsB S ++ intsB L))) = intsB C ++ (intsB S ++ intsB L) := by
    apply bytesOf_sN
    intro b hb
    rcases List.mem_append.1 hb with h | h
    · exact intsB_bytes hC (by omega) b h
    · rcases List.mem_append.1 h with h | h
      · exact intsB_bytes hS (by omega) b h
      · exact intsB_bytes hL (by omega) b h
  generalize strOfNums (intsB C ++ (intsB S ++ intsB L)) = bd at hb
  rw [readPoolP_eq (openS_sealB bd), if_pos rfl]
  obtain ⟨e1, f1, g1, h1⟩ := rdList_at (s := bd) (x := 0) hC (by omega) (by omega) (by omega) (by rw [show (0 : Int).toNat = 0 from rfl, List.drop_zero]; exact hb)
  obtain ⟨e2, f2, g2, h2⟩ := rdList_at hS (by omega) g1 h1 f1
  obtain ⟨e3, f3, g3, h3⟩ := rdList_at (rest := []) hL (by omega) g2 h2 (by rw [List.append_nil]; exact f2)
  simp only [rdRest, e1, e2, e3, List.nil_append, List.cons_append, rpOut]
  rw [if_neg (by simp)]
  simp only [poolOf, List.getD_cons_zero, List.getD_cons_succ]
  rw [if_pos hv]
theorem Pool_ev {C S L : List Int} (hC : okInts C) (hS : okInts S) (hL : okInts L) (nC : C.length ≤ 100) (nS : S.length ≤ 100) (nL : L.length ≤ 100) : EvR (fun k => image_Pool.f k C S L) (if validB C S L = true then (sealB (strOfNums (intsB C ++ (intsB S ++ intsB L))), 0) else ((⟨#[]⟩ : ByteArray), 11)) := by
  unfold image_Pool.f
  refine EvR.bind (Valid_ev C S L (by omega) (by omega)) ?_
  have l1 := intsB_length_le C
  have l2 := intsB_length_le S
  have l3 := intsB_length_le L
  have hls : listsB [C, S, L] = intsB C ++ (intsB S ++ intsB L) := by simp [listsB]
  by_cases hv : validB C S L = true
  · rw [if_pos hv]
    refine EvR.pos hv ?_
    have hw := write_ev (ls := [C, S, L]) (fun l hl => by simp at hl; rcases hl with rfl | rfl | rfl <;> assumption) (by simp) (by rw [hls, List.length_append, List.length_append]; omega) (fun l hl => by simp at hl; rcases hl with rfl | rfl | rfl <;> omega)
    rw [hls] at hw
    exact EvR.bind hw (EvR.bind (image_Seal_ev _ (by rw [sN_size, List.length_append, List.length_append]; omega)) (EvR.const _))
  · rw [if_neg hv]
    exact EvR.neg hv (EvR.const _)
theorem RefPool_ev {C S L : List Int} (hC : okInts C) (hS : okInts S) (hL : okInts L) (nC : C.length ≤ 100) (nS : S.length ≤ 100) (nL : L.length ≤ 100) : EvR (fun k => unicodetextref15_Pool.f k C S L) (if validB C S L = true then (sealB (strOfNums (intsB C ++ (intsB S ++ intsB L))), 0) else ((⟨#[]⟩ : ByteArray), 11)) := by
  unfold unicodetextref15_Pool.f
  refine EvR.bind (RefValid_ev C S L (by omega) (by omega)) ?_
  have l1 := intsB_length_le C
  have l2 := intsB_length_le S
  have l3 := intsB_length_le L
  by_cases hv : validB C S L = true
  · rw [if_pos hv]
    refine EvR.pos hv (EvR.bind (ref_Ints_ev hC (by omega)) (EvR.bind (ref_Ints_ev hS (by omega)) (EvR.pos ?_ (EvR.bind (ref_Ints_ev hL (by omega)) (EvR.pos ?_ ?_)))))
    · rw [sN_size, sN_size]; omega
    · rw [ByteArray.size_append, sN_size, sN_size, sN_size]; omega
    · rw [← sN_append, ← sN_append, List.append_assoc]
      exact EvR.bind (ref_Seal_ev _ (by rw [sN_size, List.length_append, List.length_append]; omega)) (EvR.const _)
  · rw [if_neg hv]
    exact EvR.neg hv (EvR.const _)
theorem ImagePools : ImagePools.Pure := by
  intro C S L oC oS oL
  have hC := okInts_of_wf oC.2
  have hS := okInts_of_wf oS.2
  have hL := okInts_of_wf oL.2
  refine EvR.exists_ ?_
  unfold unicodetextlaw15_ImagePools.f
  have al : EvR (fun k => (unicodetextlaw15_alive.f k).bind fun t => some t) true := EvR.bind alive15 (EvR.const _)
  by_cases hs : (C.length : Int) ≤ 100 ∧ (S.length : Int) ≤ 100 ∧ (L.length : Int) ≤ 100
  · obtain ⟨h0, h1, h2⟩ := hs
    have hS' : unicodetextlaw15_small.f C S L = some true := by unfold unicodetextlaw15_small.f; rw [if_pos h0, if_pos h1]; simp [h2]
    refine EvR.bindc hS' (EvR.pos rfl ?_)
    refine EvR.bind (Pool_ev hC hS hL (by omega) (by omega) (by omega)) (EvR.bind (RefPool_ev hC hS hL (by omega) (by omega) (by omega)) ?_)
    refine EvR.pos rfl (EvR.succ ?_)
    simp only [unicodetextlaw15_ImagePools.j0]
    refine EvR.neg (by simp) ?_
    by_cases hv : validB C S L = true
    · rw [if_pos hv]
      have l1 := intsB_length_le C
      have l2 := intsB_length_le S
      have l3 := intsB_length_le L
      have hR : image_ReadPool.f (sealB (strOfNums (intsB C ++ (intsB S ++ intsB L)))) = some (C, S, L, 0) := by
        unfold image_ReadPool.f
        rw [if_pos (by rw [sealB_size, sN_size, List.length_append, List.length_append]; omega), read_back hC hS hL (by omega) (by omega) (by omega) hv]
      exact EvR.pos rfl (EvR.bindc hR (EvR.bind (SamePools_refl _ _ _ (by omega) (by omega) (by omega)) (EvR.pos rfl (EvR.pos rfl al))))
    · rw [if_neg hv]
      exact EvR.neg (by simp) al
  · have hS' : unicodetextlaw15_small.f C S L = some false := by
      unfold unicodetextlaw15_small.f
      split
      · split
        · simp; omega
        · rfl
      · rfl
    exact EvR.bindc hS' (EvR.neg (by simp) al)
end Go.Proofs.Ytdlijioedokgjaa.Pure

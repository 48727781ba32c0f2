/- Plain laws: sealing and opening. -/
import Derived.Test.YtdlijioedokgjaaMSum
namespace Go.Proofs.Ytdlijioedokgjaa.Q
open Go.RowKit Go.Proofs.YtdlijioedokgjaaW.PrintWords Go.Proofs.YtdlijioedokgjaaW.PrintLast Go.Proofs.YtdlijioedokgjaaW.PrintMore
set_option linter.unusedVariables false
set_option linter.unusedSimpArgs false

def sum4 (n : Int) : List Int := [n / 16777216 % 256, n / 65536 % 256, n / 256 % 256, n % 256]
def sealB (s : ByteArray) : ByteArray := strOfNums (sum4 (sumB (bytesOf s))) ++ s
theorem sum4_bytes (n : Int) : ∀ b ∈ sum4 n, 0 ≤ b ∧ b < 256 := by intro b hb; simp [sum4] at hb; rcases hb with rfl | rfl | rfl | rfl <;> omega
theorem sealB_size (s : ByteArray) : (sealB s).size = s.size + 4 := by unfold sealB; rw [ByteArray.size_append, sN_size]; simp [sum4]; omega
theorem bytesOf_sealB (s : ByteArray) : bytesOf (sealB s) = sum4 (sumB (bytesOf s)) ++ bytesOf s := by unfold sealB; rw [bytesOf_append, bytesOf_sN (sum4_bytes _)]
theorem sealB_extract (s : ByteArray) : (sealB s).extract 4 (sealB s).size = s := by
  apply bytesOf_inj
  rw [bytesOf_extract, bytesOf_sealB, sealB_size, List.take_of_length_le (by rw [List.length_append, bytesOf_length]; simp [sum4]; omega)]
  exact List.drop_left' (by simp [sum4])
theorem image_Seal_ev (s : ByteArray) (hs : s.size ≤ 9000000000000000000) : EvR (fun k => image_Seal.f k s) (sealB s) := by
  unfold image_Seal.f
  refine EvR.bind (image_Sum_ev s (by omega)) (EvR.bindc rfl (EvR.pos ?_ (EvR.const _)))
  rw [sN_size]; simp; omega
theorem ref_Seal_ev (s : ByteArray) (hs : s.size ≤ 9000000000000000000) : EvR (fun k => unicodetextref15_Seal.f k s) (sealB s) := by
  unfold unicodetextref15_Seal.f
  refine EvR.bind (ref_Sum_ev s (by omega)) (EvR.bindc rfl (EvR.pos ?_ (EvR.const _)))
  rw [sN_size]; simp; omega
def openS (s : ByteArray) : ByteArray × Int :=
  if s.size < 4 then (⟨#[]⟩, 2) else if sealB (s.extract 4 s.size) = s then (s.extract 4 s.size, 0) else (⟨#[]⟩, 14)
theorem toList_inj {a b : ByteArray} : a.toList = b.toList ↔ a = b := by
  rw [ByteArray.toList_eq, ByteArray.toList_eq]
  exact ⟨fun h => ba_ext h, fun h => by rw [h]⟩
theorem image_Open_ev (s : ByteArray) (hs : s.size ≤ 9000000000000000000) : EvR (fun k => image_Open.f k s) (openS s) := by
  unfold image_Open.f openS
  by_cases h : s.size < 4
  · rw [if_pos h]; exact EvR.pos (by omega) (EvR.const _)
  · rw [if_neg h]
    refine EvR.neg (by omega) (EvR.pos (by omega) (EvR.bind (image_Seal_ev _ (by simp; omega)) ?_))
    by_cases h2 : sealB (s.extract 4 s.size) = s
    · rw [if_pos h2]; exact EvR.pos (toList_inj.2 h2) (EvR.const _)
    · rw [if_neg h2]; exact EvR.neg (fun h3 => h2 (toList_inj.1 h3)) (EvR.const _)
theorem openS_sealB (s : ByteArray) : openS (sealB s) = (s, 0) := by
  unfold openS
  rw [if_neg (by rw [sealB_size]; omega), sealB_extract, if_pos rfl]
end Go.Proofs.Ytdlijioedokgjaa.Q

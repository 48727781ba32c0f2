/- Plain laws: sealing and opening. -/
import Derived.Test.YtdlijioedokgjaaMSum
namespace Go.Proofs.Ytdlijioedokgjaa.Q
open Go.RowKit Go.Proofs.YtdlijioedokgjaaW.PrintWords Go.Proofs.YtdlijioedokgjaaW.PrintLast Go.Proofs.YtdlijioedokgjaaW.PrintMore
set_option linter.unusedVariables false
set_option linter.unusedSimpArgs false

def sum4 (n : Int) : List Int := [n / 16777216 % 256, n / 65536 % 256, n / 256 % 256, n % 256]
def sealB (s : ByteArray) : ByteArray := strOfNums (sum4 (sumB (bytesOf s))) ++ s
theorem sealB_size (s : ByteArray) : (sealB s).size = s.size + 4 := by unfold sealB; rw [ByteArray.size_append, sN_size]; simp [sum4]; omega
theorem image_Seal_ev (s : ByteArray) (hs : s.size ≤ 9000000000000000000) : EvR (fun k => image_Seal.f k s) (sealB s) := by
  unfold image_Seal.f
  refine EvR.bind (image_Sum_ev s (by omega)) (EvR.bindc rfl (EvR.pos ?_ (EvR.const _)))
  rw [sN_size]; simp; omega
theorem ref_Seal_ev (s : ByteArray) (hs : s.size ≤ 9000000000000000000) : EvR (fun k => unicodetextref15_Seal.f k s) (sealB s) := by
  unfold unicodetextref15_Seal.f
  refine EvR.bind (ref_Sum_ev s (by omega)) (EvR.bindc rfl (EvR.pos ?_ (EvR.const _)))
  rw [sN_size]; simp; omega
def openS (s : ByteArray) : ByteArray × Int :=
  if s.size < 4 then (⟨#[]⟩, 2) else if sealB (s.extract 4 s.size) = s then (s.extract 4 s.size, 0) else (⟨#[]⟩, 14)
theorem toList_inj {a b : ByteArray} : a.toList = b.toList ↔ a = b := by
  rw [ByteArray.toList_eq, ByteArray.toList_eq]
  exact ⟨fun h => ba_ext h, fun h => by rw [h]⟩
theorem image_Open_ev (s : ByteArray) (hs : s.size ≤ 9000000000000000000) : EvR (fun k => image_Open.f k s) (openS s) := by
  unfold image_Open.f openS
  by_cases h : s.size < 4
  · rw [if_pos h]; exact EvR.pos (by omega) (EvR.const _)
  · rw [if_neg h]
    refine EvR.neg (by omega) (EvR.pos (by omega) (EvR.bind (image_Seal_ev _ (by simp; omega)) ?_))
    by_cases h2 : sealB (s.extract 4 s.size) = s
    · rw [if_pos h2]; exact EvR.pos (toList_inj.2 h2) (EvR.const _)
    · rw [if_neg h2]; exact EvR.neg (fun h3 => h2 (toList_inj.1 h3)) (EvR.const _)
theorem ref_Open_ev (s : ByteArray) (hs : s.size ≤ 9000000000000000000) : EvR (fun k => unicodetextref15_Open.f k s) (openS s) := by
  unfold unicodetextref15_Open.f openS
  by_cases h : s.size < 4
  · rw [if_pos h]; exact EvR.pos (by omega) (EvR.const _)
  · rw [if_neg h]
    refine EvR.neg (by omega) (EvR.pos (by omega) (EvR.bind (ref_Seal_ev _ (by simp; omega)) ?_))
    by_cases h2 : sealB (s.extract 4 s.size) = s
    · rw [if_pos h2]; exact EvR.pos (toList_inj.2 h2) (EvR.const _)
    · rw [if_neg h2]; exact EvR.neg (fun h3 => h2 (toList_inj.1 h3)) (EvR.const _)
end Go.Proofs.Ytdlijioedokgjaa.Q

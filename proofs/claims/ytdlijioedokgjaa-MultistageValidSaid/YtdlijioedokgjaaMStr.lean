/- Plain laws: strings as lists of bytes. -/
import Derived.Test.YtdlijioedokgjaaQ0
namespace Go.Proofs.Ytdlijioedokgjaa.Q
open Go.RowKit Go.Proofs.YtdlijioedokgjaaW.PrintWords Go.Proofs.YtdlijioedokgjaaW.PrintLast Go.Proofs.YtdlijioedokgjaaW.PrintMore
set_option linter.unusedVariables false

theorem sN_data (l : List Int) : (strOfNums l).data.toList = l.map fun n => UInt8.ofNat n.toNat := by simp [strOfNums]
theorem ba_ext {a b : ByteArray} (h : a.data.toList = b.data.toList) : a = b := by
  cases a; cases b; simp at h; simpa using h
theorem sN_size (l : List Int) : (strOfNums l).size = l.length := by
  rw [← data_length, sN_data, List.length_map]
theorem bytesOf_sN {l : List Int} (h : ∀ b ∈ l, 0 ≤ b ∧ b < 256) : bytesOf (strOfNums l) = l := by
  unfold bytesOf
  rw [sN_data, List.map_map]
  conv => rhs; rw [← List.map_id l]
  apply List.map_congr_left
  intro b hb
  obtain ⟨h0, h1⟩ := h b hb
  simp
  rw [Int.max_eq_left h0]; omega
end Go.Proofs.Ytdlijioedokgjaa.Q

/- ref15.read and ref15.ReadInts, plainly: what the program's reader answers. -/
import Derived.Test.YtdlijioedokgjaaMRead
import Derived.Test.YtdlijioedokgjaaQRRead
namespace Go.Proofs.Ytdlijioedokgjaa.Q
open Go.RowKit Go.Proofs.YtdlijioedokgjaaW.PrintWords Go.Proofs.YtdlijioedokgjaaW.PrintLast Go.Proofs.YtdlijioedokgjaaW.PrintMore
set_option linter.unusedVariables false
set_option linter.unusedSimpArgs false

theorem ww64 {x : Int} (h : -9223372036854775808 ≤ x) (h2 : x ≤ 9223372036854775807) : wrap64 x = x := by unfold wrap64; omega
theorem bt_range (s : ByteArray) (x : Int) (h0 : 0 ≤ x) (h1 : x < s.size) : 0 ≤ bt s x ∧ bt s x < 256 := by
  rw [← rd_bytesOf]
  exact bytesOf_range s _ (rd_mem _ _ h0 (by rw [bytesOf_length]; exact h1))
end Go.Proofs.Ytdlijioedokgjaa.Q

/- seqpool.part and seqpool.copied by hand. -/
import Derived.Test.YtdlijioedokgjaaHFrame
import Derived.Laws.CopyOwn
namespace Go.Proofs.Ytdlijioedokgjaa.Q
open Go.RowKit Go.Proofs.YtdlijioedokgjaaW.PrintWords Go.Proofs.YtdlijioedokgjaaW.PrintLast Go.Proofs.YtdlijioedokgjaaW.PrintMore
set_option linter.unusedVariables false
set_option linter.unusedSimpArgs false

def cut (xs : List Int) (s m : Int) : List Int := (xs.drop s.toNat).take m.toNat
theorem C_cut {A : Option Addr} {xs : List Int} {w : World} (hC : Kd.C (Kd.int .i64) w A xs.length xs) {s m : Int} (h0 : 0 ≤ s) (hm : 0 < m) (h : s + m ≤ xs.length) : Kd.C (Kd.int .i64) w (A.map (·.add s.toNat)) m.toNat (cut xs s m) := by
  have h1 := (Kd.reads_of_C (d := (0 : Int)) hC).drop_ (c := xs.length) s.toNat (by omega) (Nat.le_refl _)
  rw [if_neg (by omega)] at h1
  have h2 := h1.take_ m.toNat (by omega)
  exact Kd.C_of_reads (h1 := fun _ => rfl) h2




end Go.Proofs.Ytdlijioedokgjaa.Q

/- Plain laws: the sum of bytes; SameInts; the examples of the chapter. -/
import Derived.Test.YtdlijioedokgjaaMRead
import Derived.Test.YtdlijioedokgjaaQSum
import Derived.Test.YtdlijioedokgjaaQSame15
import Derived.Test.YtdlijioedokgjaaQF30
namespace Go.Proofs.Ytdlijioedokgjaa.Q
open Go.RowKit Go.Proofs.YtdlijioedokgjaaW.PrintWords Go.Proofs.YtdlijioedokgjaaW.PrintLast Go.Proofs.YtdlijioedokgjaaW.PrintMore
set_option linter.unusedVariables false
set_option linter.unusedSimpArgs false

def sumStep (n b : Int) : Int := bits .xor .u32 n (b % 4294967296) * 16777619 % 4294967296
def sumB (l : List Int) : Int := l.foldl sumStep 2166136261
theorem image_Sum_l0 (s : ByteArray) (hs : s.size ≤ 9223372036854775807) (d : Nat) : ∀ (n x : Int), 0 ≤ x → x ≤ s.size → (s.size : Int) - x = d → EvR (fun k => image_Sum.l0 k s n (s.size : Int) x) (((bytesOf s).drop x.toNat).foldl sumStep n) := by
  induction d with
  | zero =>
    intro n x h0 h1 hd
    refine EvR.succ ?_
    simp only [image_Sum.l0]
    refine EvR.neg (by omega) ?_
    rw [List.drop_eq_nil_of_le (by rw [bytesOf_length]; omega)]; exact EvR.const _
  | succ d ih =>
    intro n x h0 h1 hd
    refine EvR.succ ?_
    simp only [image_Sum.l0]
    refine EvR.pos (by omega) (EvR.pos h0 (EvR.pos (by omega) ?_))
    rw [wrap_succ h0 (n := s.size) (by omega) hs, bt_drop s x h0 (by omega), List.foldl_cons]
    exact ih _ (x + 1) (by omega) (by omega) (by omega)
theorem image_Sum_ev (s : ByteArray) (hs : s.size ≤ 9223372036854775807) : EvR (fun k => image_Sum.f k s) (sumB (bytesOf s)) := by
  unfold image_Sum.f
  exact image_Sum_l0 s hs s.size _ 0 (by omega) (by omega) (by omega)
theorem ref_Sum_l0 (s : ByteArray) (hs : s.size ≤ 9223372036854775807) (d : Nat) : ∀ (n x : Int), 0 ≤ x → x ≤ s.size → (s.size : Int) - x = d → EvR (fun k => unicodetextref15_Sum.l0 k s n x) (((bytesOf s).drop x.toNat).foldl sumStep n) := by
  induction d with
  | zero =>
    intro n x h0 h1 hd
    refine EvR.succ ?_
    simp only [unicodetextref15_Sum.l0]
    refine EvR.neg (by omega) ?_
    rw [List.drop_eq_nil_of_le (by rw [bytesOf_length]; omega)]; exact EvR.const _
  | succ d ih =>
    intro n x h0 h1 hd
    refine EvR.succ ?_
    simp only [unicodetextref15_Sum.l0]
    refine EvR.pos (by omega) (EvR.pos h0 ?_)
    rw [wrap_succ h0 (n := s.size) (by omega) hs, bt_drop s x h0 (by omega), List.foldl_cons]
    exact ih _ (x + 1) (by omega) (by omega) (by omega)
theorem ref_Sum_ev (s : ByteArray) (hs : s.size ≤ 9223372036854775807) : EvR (fun k => unicodetextref15_Sum.f k s) (sumB (bytesOf s)) := by
  unfold unicodetextref15_Sum.f
  exact ref_Sum_l0 s hs s.size _ 0 (by omega) (by omega) (by omega)

theorem SameInts_l0 (a : List Int) (hs : a.length ≤ 9223372036854775807) (d : Nat) : ∀ (x : Int), 0 ≤ x → x ≤ a.length → (a.length : Int) - x = d → EvR (fun k => unicodetextref15_SameInts.l0 k a a x) true := by
  induction d with
  | zero =>
    intro x h0 h1 hd
    refine EvR.succ ?_
    simp only [unicodetextref15_SameInts.l0]
    exact EvR.neg (by omega) (EvR.const _)
  | succ d ih =>
    intro x h0 h1 hd
    refine EvR.succ ?_
    simp only [unicodetextref15_SameInts.l0]
    refine EvR.pos (by omega) (EvR.pos h0 (EvR.pos (by omega) ?_))
    rw [wrap_succ h0 (n := a.length) (by omega) hs]
    simpa using ih (x + 1) (by omega) (by omega) (by omega)
theorem SameInts_refl (a : List Int) (hs : a.length ≤ 9223372036854775807) : EvR (fun k => unicodetextref15_SameInts.f k a a) true := by
  unfold unicodetextref15_SameInts.f
  exact EvR.pos rfl (SameInts_l0 a hs a.length 0 (by omega) (by omega) (by omega))

theorem ReadInts_eq (s : ByteArray) (hs : s.size ≤ 1099511627776) : image_ReadInts.f s = some (match rdListL (bytesOf s) with
    | .ok p => (p.1, (s.size : Int) - p.2.length, 0)
    | .error c => ([], 0, c)) := by
  unfold image_ReadInts.f
  rw [if_pos hs, rdList_L s 0 (by omega) (by omega)]
  rw [show (0 : Int).toNat = 0 from rfl, List.drop_zero]
  cases rdListL (bytesOf s) <;> rfl

theorem wf_i64 {x : Int} (h : (Lit.int .i64 x).wf = true) : i64ok x := by
  simp only [Lit.wf, Bool.and_eq_true, decide_eq_true_eq] at h
  exact h
theorem okInts_of_wf {l : List Int} (h : ∀ x ∈ l, (Lit.int .i64 x).wf = true) : okInts l := fun x hx => wf_i64 (h x hx)

theorem alive15 : EvR (fun k => unicodetextlaw15_alive.f k) true := by
  unfold unicodetextlaw15_alive.f
  have e1 : bytesOf (⟨#[4, 2, 1, 114, 101, 115, 116]⟩ : ByteArray) = intsB [1, -1] ++ [114, 101, 115, 116] := by decide +kernel
  have h2 : okInts [1, -1] := by intro x hx; simp at hx; rcases hx with rfl | rfl <;> exact ⟨by omega, by omega⟩
  have e2 := ReadInts_eq (⟨#[4, 2, 1, 114, 101, 115, 116]⟩ : ByteArray) (by decide)
  rw [e1, rdListL_intsB h2 (by decide)] at e2
  refine EvR.bindc e2 (EvR.bind (Ints_ev h2 (by decide)) (EvR.pos (by decide +kernel) ?_))
  refine EvR.bind (SameInts_refl _ (by decide)) (EvR.pos rfl (EvR.pos (by decide) (EvR.pos rfl ?_)))
  refine EvR.bind (image_Sum_ev _ (by decide)) ?_
  refine (EvR.const _).cast ?_
  decide +kernel
end Go.Proofs.Ytdlijioedokgjaa.Q

/- A small word for printed functions: with enough rounds the answer is r. -/
import Derived.Test.YtdlijioedokgjaaQ0
namespace Go.Proofs.Ytdlijioedokgjaa.Q
open Go.RowKit Go.Proofs.YtdlijioedokgjaaW.PrintWords Go.Proofs.YtdlijioedokgjaaW.PrintLast Go.Proofs.YtdlijioedokgjaaW.PrintMore

set_option linter.unusedVariables false
def EvR {α : Type} (g : Nat → Option α) (r : α) : Prop := ∃ k0, ∀ k, k0 ≤ k → g k = some r
namespace EvR
variable {α β : Type} {g h : Nat → Option α} {r : α}
theorem const (r : α) : EvR (fun _ => some r) r := ⟨0, fun _ _ => rfl⟩
theorem of_eq {o : Option α} (h : o = some r) : EvR (fun _ => o) r := ⟨0, fun _ _ => h⟩
theorem exists_ (h : EvR g r) : ∃ k, g k = some r := let ⟨k, hk⟩ := h; ⟨k, hk k (Nat.le_refl _)⟩
theorem step (hs : ∀ k, g (k + 1) = h k) (e : EvR h r) : EvR g r := by
  obtain ⟨k0, hk⟩ := e
  refine ⟨k0 + 1, fun k hle => ?_⟩
  obtain ⟨k, rfl⟩ : ∃ m, k = m + 1 := ⟨k - 1, by omega⟩
  rw [hs]; exact hk k (by omega)
theorem succ (e : EvR (fun k => g (k + 1)) r) : EvR g r := step (fun _ => rfl) e
theorem congr (hs : ∀ k, g k = h k) (e : EvR h r) : EvR g r := by
  obtain ⟨k0, hk⟩ := e
  exact ⟨k0, fun k hle => by rw [hs]; exact hk k hle⟩
theorem bind {x : β} {f : Nat → Option β} {F : Nat → β → Option α} (e : EvR f x) (e2 : EvR (fun k => F k x) r) : EvR (fun k => (f k).bind (F k)) r := by
  obtain ⟨k0, hk⟩ := e
  obtain ⟨k1, hk1⟩ := e2
  refine ⟨k0 + k1, fun k hle => ?_⟩
  show (f k).bind (F k) = some r
  rw [hk k (by omega), Option.bind_some]; exact hk1 k (by omega)
theorem bindc {x : β} {o : Option β} {F : Nat → β → Option α} (e : o = some x) (e2 : EvR (fun k => F k x) r) : EvR (fun k => o.bind (F k)) r := bind (of_eq e) e2
theorem pos {c : Prop} [Decidable c] (hc : c) (e : EvR g r) : EvR (fun k => if c then g k else h k) r := congr (fun k => if_pos hc) e
theorem neg {c : Prop} [Decidable c] (hc : ¬ c) (e : EvR h r) : EvR (fun k => if c then g k else h k) r := congr (fun k => if_neg hc) e
theorem cast {r' : α} (e : EvR g r) (h : r = r') : EvR g r' := h ▸ e
end EvR
theorem rd_eq (xs : List Int) (i : Int) (h0 : 0 ≤ i) (h1 : i < xs.length) : rd xs i = xs[i.toNat]'(by omega) := by
  unfold rd; rw [List.getD_eq_getElem?_getD, List.getElem?_eq_getElem (by omega)]; rfl
theorem rd_mem (xs : List Int) (i : Int) (h0 : 0 ≤ i) (h1 : i < xs.length) : rd xs i ∈ xs := by rw [rd_eq xs i h0 h1]; exact List.getElem_mem _
theorem drop_rd (xs : List Int) (i : Int) (h0 : 0 ≤ i) (h1 : i < xs.length) : xs.drop i.toNat = rd xs i :: xs.drop (i + 1).toNat := by
  rw [rd_eq xs i h0 h1, show (i + 1).toNat = i.toNat + 1 by omega]
  exact List.drop_eq_getElem_cons (by omega)
theorem rd_L2_eq (xs : List (List Int)) (i : Int) (h0 : 0 ≤ i) (h1 : i < xs.length) : rd_L2 xs i = xs[i.toNat]'(by omega) := by
  unfold rd_L2; rw [List.getD_eq_getElem?_getD, List.getElem?_eq_getElem (by omega)]; rfl
theorem rd_L2_mem (xs : List (List Int)) (i : Int) (h0 : 0 ≤ i) (h1 : i < xs.length) : rd_L2 xs i ∈ xs := by rw [rd_L2_eq xs i h0 h1]; exact List.getElem_mem _
theorem drop_rd_L2 (xs : List (List Int)) (i : Int) (h0 : 0 ≤ i) (h1 : i < xs.length) : xs.drop i.toNat = rd_L2 xs i :: xs.drop (i + 1).toNat := by
  rw [rd_L2_eq xs i h0 h1, show (i + 1).toNat = i.toNat + 1 by omega]
  exact List.drop_eq_getElem_cons (by omega)
end Go.Proofs.Ytdlijioedokgjaa.Q

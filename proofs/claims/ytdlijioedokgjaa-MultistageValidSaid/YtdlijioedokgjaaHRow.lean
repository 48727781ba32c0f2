/- The row's facts over the head line of the program, shared by all rows of this seat. -/
import Derived.Test.YtdlijioedokgjaaRows
import Derived.JoinedOf
import Derived.KernelRfl
namespace Go.Proofs.Ytdlijioedokgjaa.HRow
open Go
set_option maxRecDepth 100000
/-- The head line's signs, by their numbers. -/
def headNums : List Nat := [104, 97, 114, 110, 101, 115, 115, 32, 55, 56, 56, 52, 102, 49, 53, 54, 97, 53, 56, 55, 100, 100, 99, 97, 57, 49, 100, 50, 97, 97, 53, 97, 100, 98, 52, 49, 56, 101, 55, 51, 100, 55, 49, 56, 101, 98, 57, 52, 50, 55, 100, 56, 52, 57, 50, 99, 57, 99, 101, 53, 51, 56, 50, 50, 56, 101, 52, 101, 97, 100, 100, 98, 32, 99, 117, 116, 32, 97, 116, 32, 117, 110, 105, 99, 111, 100, 101, 116, 101, 120, 116, 47, 117, 110, 105, 99, 111, 100, 101, 116, 101, 120, 116, 108, 97, 119, 49, 53, 46, 73, 109, 97, 103, 101, 83, 117, 109, 115, 32, 117, 110, 105, 99, 111, 100, 101, 116, 101, 120, 116, 47, 117, 110, 105, 99, 111, 100, 101, 116, 101, 120, 116, 108, 97, 119, 49, 53, 46, 73, 109, 97, 103, 101, 73, 110, 116, 115, 32, 117, 110, 105, 99, 111, 100, 101, 116, 101, 120, 116, 47, 117, 110, 105, 99, 111, 100, 101, 116, 101, 120, 116, 108, 97, 119, 49, 53, 46, 73, 109, 97, 103, 101, 82, 111, 117, 110, 100, 115, 32, 117, 110, 105, 99, 111, 100, 101, 116, 101, 120, 116, 47, 117, 110, 105, 99, 111, 100, 101, 116, 101, 120, 116, 108, 97, 119, 49, 53, 46, 73, 109, 97, 103, 101, 77, 105, 110, 105, 109, 97, 108, 32, 117, 110, 105, 99, 111, 100, 101, 116, 101, 120, 116, 47, 117, 110, 105, 99, 111, 100, 101, 116, 101, 120, 116, 108, 97, 119, 49, 52, 46, 83, 101, 113, 112, 111, 111, 108, 80, 97, 99, 107, 115, 32, 117, 110, 105, 99, 111, 100, 101, 116, 101, 120, 116, 47, 117, 110, 105, 99, 111, 100, 101, 116, 101, 120, 116, 108, 97, 119, 49, 52, 46, 83, 101, 113, 112, 111, 111, 108, 65, 100, 100, 115, 32, 117, 110, 105, 99, 111, 100, 101, 116, 101, 120, 116, 47, 117, 110, 105, 99, 111, 100, 101, 116, 101, 120, 116, 108, 97, 119, 49, 51, 46, 77, 117, 108, 116, 105, 115, 116, 97, 103, 101, 83, 112, 97, 110, 115, 32, 117, 110, 105, 99, 111, 100, 101, 116, 101, 120, 116, 47, 117, 110, 105, 99, 111, 100, 101, 116, 101, 120, 116, 108, 97, 119, 49, 52, 46, 83, 101, 113, 112, 111, 111, 108, 70, 105, 110, 100, 115, 32, 117, 110, 105, 99, 111, 100, 101, 116, 101, 120, 116, 47, 117, 110, 105, 99, 111, 100, 101, 116, 101, 120, 116, 108, 97, 119, 49, 52, 46, 83, 101, 113, 112, 111, 111, 108, 83, 97, 118, 101, 115, 32, 117, 110, 105, 99, 111, 100, 101, 116, 101, 120, 116, 47, 117, 110, 105, 99, 111, 100, 101, 116, 101, 120, 116, 108, 97, 119, 49, 51, 46, 77, 117, 108, 116, 105, 115, 116, 97, 103, 101, 69, 113, 117, 97, 108, 32, 117, 110, 105, 99, 111, 100, 101, 116, 101, 120, 116, 47, 117, 110, 105, 99, 111, 100, 101, 116, 101, 120, 116, 108, 97, 119, 49, 52, 46, 83, 101, 113, 112, 111, 111, 108, 83, 116, 101, 112, 115, 32, 117, 110, 105, 99, 111, 100, 101, 116, 101, 120, 116, 47, 117, 110, 105, 99, 111, 100, 101, 116, 101, 120, 116, 108, 97, 119, 49, 52, 46, 83, 101, 113, 112, 111, 111, 108, 71, 101, 116, 115, 32, 117, 110, 105, 99, 111, 100, 101, 116, 101, 120, 116, 47, 117, 110, 105, 99, 111, 100, 101, 116, 101, 120, 116, 108, 97, 119, 49, 52, 46, 83, 101, 113, 112, 111, 111, 108, 66, 97, 99, 107, 32, 117, 110, 105, 99, 111, 100, 101, 116, 101, 120, 116, 47, 117, 110, 105, 99, 111, 100, 101, 116, 101, 120, 116, 108, 97, 119, 49, 52, 46, 83, 101, 113, 112, 111, 111, 108, 75, 101, 101, 112, 115, 32, 117, 110, 105, 99, 111, 100, 101, 116, 101, 120, 116, 47, 117, 110, 105, 99, 111, 100, 101, 116, 101, 120, 116, 108, 97, 119, 49, 53, 46, 73, 109, 97, 103, 101, 83, 101, 97, 108, 115, 32, 117, 110, 105, 99, 111, 100, 101, 116, 101, 120, 116, 47, 117, 110, 105, 99, 111, 100, 101, 116, 101, 120, 116, 108, 97, 119, 49, 53, 46, 73, 109, 97, 103, 101, 67, 104, 97, 110, 103, 101, 115, 32, 117, 110, 105, 99, 111, 100, 101, 116, 101, 120, 116, 47, 117, 110, 105, 99, 111, 100, 101, 116, 101, 120, 116, 108, 97, 119, 49, 53, 46, 73, 109, 97, 103, 101, 82, 101, 97, 100, 80, 111, 111, 108, 115, 32, 117, 110, 105, 99, 111, 100, 101, 116, 101, 120, 116, 47, 117, 110, 105, 99, 111, 100, 101, 116, 101, 120, 116, 108, 97, 119, 49, 53, 46, 73, 109, 97, 103, 101, 80, 111, 111, 108, 115, 32, 117, 110, 105, 99, 111, 100, 101, 116, 101, 120, 116, 47, 117, 110, 105, 99, 111, 100, 101, 116, 101, 120, 116, 108, 97, 119, 49, 51, 46, 77, 117, 108, 116, 105, 115, 116, 97, 103, 101, 66, 117, 105, 108, 100, 115, 32, 117, 110, 105, 99, 111, 100, 101, 116, 101, 120, 116, 47, 117, 110, 105, 99, 111, 100, 101, 116, 101, 120, 116, 108, 97, 119, 49, 53, 46, 73, 109, 97, 103, 101, 82, 101, 97, 100, 84, 97, 98, 108, 101, 115, 32, 117, 110, 105, 99, 111, 100, 101, 116, 101, 120, 116, 47, 117, 110, 105, 99, 111, 100, 101, 116, 101, 120, 116, 108, 97, 119, 49, 51, 46, 77, 117, 108, 116, 105, 115, 116, 97, 103, 101, 86, 97, 108, 105, 100, 32, 117, 110, 105, 99, 111, 100, 101, 116, 101, 120, 116, 47, 117, 110, 105, 99, 111, 100, 101, 116, 101, 120, 116, 108, 97, 119, 49, 51, 46, 77, 117, 108, 116, 105, 115, 116, 97, 103, 101, 76, 101, 97, 115, 116, 32, 117, 110, 105, 99, 111, 100, 101, 116, 101, 120, 116, 47, 117, 110, 105, 99, 111, 100, 101, 116, 101, 120, 116, 108, 97, 119, 49, 53, 46, 73, 109, 97, 103, 101, 84, 97, 98, 108, 101, 115, 32, 117, 110, 105, 99, 111, 100, 101, 116, 101, 120, 116, 47, 117, 110, 105, 99, 111, 100, 101, 116, 101, 120, 116, 108, 97, 119, 49, 51, 46, 77, 117, 108, 116, 105, 115, 116, 97, 103, 101, 66, 101, 115, 116, 32, 117, 110, 105, 99, 111, 100, 101, 116, 101, 120, 116, 47, 117, 110, 105, 99, 111, 100, 101, 116, 101, 120, 116, 108, 97, 119, 49, 51, 46, 77, 117, 108, 116, 105, 115, 116, 97, 103, 101, 71, 101, 116, 115]
theorem head_eq : Try.prog.initOrder = String.ofList (headNums.map Char.ofNat) := by kernel_rfl
theorem head_list : Try.prog.initOrder.toList = headNums.map Char.ofNat := by rw [head_eq, String.toList_ofList]
theorem ws_head : (behindMainWord (wordsSigns (headNums.map Char.ofNat))).head? = some "cut".toList := by kernel_rfl
theorem ws_cons : ∃ rest, behindMainWord (wordsSigns Try.prog.initOrder.toList) = "cut".toList :: rest := by
  rw [head_list]
  have h := ws_head
  cases hw : behindMainWord (wordsSigns (headNums.map Char.ofNat)) with
  | nil => rw [hw] at h; simp at h
  | cons c r => rw [hw] at h; simp only [List.head?_cons, Option.some.injEq] at h; exact ⟨r, by rw [h]⟩
theorem lays : Try.prog.laysLater = false := by kernel_rfl
theorem bears : Try.prog.bearsReflect = false := by kernel_rfl
theorem doors : Try.prog.doorRows = [] := by kernel_rfl
theorem strip_cut (rest : List (List Char)) : ∀ os : List String, (∀ o ∈ os, ("cut".toList == o.toList) = false) → stripLifts os ("cut".toList :: rest) = ([], "cut".toList :: rest) := by
  intro os
  induction os with
  | nil => intro _; rfl
  | cons o os ih =>
    intro h
    rw [stripLifts, h o (by simp)]
    exact ih (fun x hx => h x (by simp [hx]))
theorem lifts_ne : ∀ o ∈ liftWords, ("cut".toList == o.toList) = false := by
  have h : liftWords.all (fun o => !("cut".toList == o.toList)) = true := by kernel_rfl
  intro o ho
  have := List.all_eq_true.1 h o ho
  simpa using this
theorem gc_ne : ("cut".toList == "gc".toList) = false := by kernel_rfl
theorem spec_ne : ("cut".toList == "spec".toList) = false := by kernel_rfl
theorem carried_ne : ("cut".toList == "carried".toList) = false := by kernel_rfl
section
variable {P : Program} {rest : List (List Char)}
theorem headLifts_of (h : behindMainWord (wordsSigns P.initOrder.toList) = "cut".toList :: rest) : P.headLifts = [] := by
  unfold Program.headLifts
  rw [h, strip_cut rest _ lifts_ne]
  simp
theorem doorFits_of (h : P.doorRows = []) : P.doorFits [] = true := by
  unfold Program.doorFits
  rw [h]
  rfl
theorem mayEnter_of (h : behindMainWord (wordsSigns P.initOrder.toList) = "cut".toList :: rest) (lays : P.laysLater = false) (bears : P.bearsReflect = false) (doors : P.doorRows = []) : P.mayEnter = true := by
  unfold Program.mayEnter
  rw [h]
  simp only [strip_cut rest _ lifts_ne, lays, bears, doorFits_of doors]
  simp
theorem make_of (h : behindMainWord (wordsSigns P.initOrder.toList) = "cut".toList :: rest) : P.make = some .cut := by
  unfold Program.make
  rw [h]
  simp only [gc_ne, spec_ne]
  simp
theorem liftsFinal_of (h : behindMainWord (wordsSigns P.initOrder.toList) = "cut".toList :: rest) : P.liftsFinal = false := by
  unfold Program.liftsFinal
  rw [h, headLifts_of h]
  have : (("cut".toList :: rest).head? == some "carried".toList) = false := by
    rw [List.head?_cons]
    exact carried_ne
  simp only [this]
  simp
end
theorem mayEnter_eq : Try.prog.mayEnter = true := let ⟨_, h⟩ := ws_cons; mayEnter_of h lays bears doors
theorem make_eq : Try.prog.make = some .cut := let ⟨_, h⟩ := ws_cons; make_of h
theorem liftsFinal_eq : Try.prog.liftsFinal = false := let ⟨_, h⟩ := ws_cons; liftsFinal_of h
end Go.Proofs.Ytdlijioedokgjaa.HRow

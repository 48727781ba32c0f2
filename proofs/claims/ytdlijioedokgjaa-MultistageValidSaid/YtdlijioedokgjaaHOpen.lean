/- How an argument's value is opened into lists: what the row's reading gives the printed contracts. -/
import Derived.Test.YtdlijioedokgjaaQ0
import Derived.Deep.Slices
import Derived.Lib.SmallJoins
import Derived.ProofKit
import Derived.OpenShut
namespace Go.Proofs.Ytdlijioedokgjaa.Q
open Go.RowKit Go.Proofs.YtdlijioedokgjaaW.PrintWords Go.Proofs.YtdlijioedokgjaaW.PrintLast Go.Proofs.YtdlijioedokgjaaW.PrintMore
open Go.ChangeShapes Go.WideShapes Go.ChangeAt Go.Deep
set_option linter.unusedVariables false

/-- What reads as data of type T is a value of kind d. -/
def Opens (P : Program) (T : TypeId) {α : Type} (d : Kd α) (Ok : α → Prop) : Prop :=
  ∀ (H : Type) (enc : TypeId × Value → H) (w : World) (base : Nat) (spare : Nat → Bool) (held : Bool) (fuel : Nat) (cs : List Value) (x : DataW H × List MemPlace), DataW.trod enc P w base spare held fuel T cs = some x → ∃ v : α, d.K w v cs ∧ Ok v
theorem Opens.int {P : Program} {T : TypeId} {k : IntKind} (hu : P.underlying T = some (.int k)) : Opens P T (Kd.int k) (fun n => (Lit.int k n).wf = true) := by
  intro H enc w base spare held fuel cs x h
  obtain ⟨n, rfl, _, hw⟩ := DataW.trod_int hu h
  exact ⟨n, rfl, hw⟩
theorem add_add (a : Addr) (m i : Nat) (h : 0 < i ∨ 0 < m ∨ True) : (a.add m).add i = a.add (m + i) := by
  unfold Addr.add
  by_cases hm : m = 0 <;> by_cases hi : i = 0 <;> simp [hm, hi, Nat.add_assoc]
theorem exists_list {β : Type} {p : Nat → β → Prop} : ∀ len : Nat, (∀ i, i < len → ∃ y, p i y) → ∃ l : List β, l.length = len ∧ ∀ i y, l[i]? = some y → p i y := by
  intro len
  induction len with
  | zero => intro _; exact ⟨[], rfl, fun i y h => by simp at h⟩
  | succ n ih =>
    intro h
    obtain ⟨l, hl, hp⟩ := ih (fun i hi => h i (by omega))
    obtain ⟨y, hy⟩ := h n (by omega)
    refine ⟨l ++ [y], by simp [hl], fun i z hz => ?_⟩
    rcases Nat.lt_or_ge i l.length with hi | hi
    · rw [List.getElem?_append_left hi] at hz; exact hp i z hz
    · have hlt := (List.getElem?_eq_some_iff.1 hz).1
      rw [List.length_append, List.length_singleton] at hlt
      obtain rfl : i = l.length := by omega
      simp at hz
      subst hz
      rw [hl]; exact hy
theorem Opens.slice {P : Program} {T e : TypeId} {α : Type} {d : Kd α} {Ok : α → Prop} (hu : P.underlying T = some (.slice e)) (he : Opens P e d Ok) (hc : P.cellsOf e = d.sz) :
    Opens P T (Kd.slice e d) (fun xs => xs.length ≤ maxLen ∧ ∀ x ∈ xs, Ok x) := by
  intro H enc w base spare held fuel cs x h
  rcases open_slice hu h with ⟨rfl, rfl⟩ | ⟨a, len, cap, m, n, D, Pl, rfl, hb, hl, hm, hmm, rfl, hx⟩
  · exact ⟨[], ⟨none, 0, rfl, Nat.le_refl _, Kd.C_nil d w⟩, by simp [maxLen], fun x hx => by simp at hx⟩
  · have hlm : len ≤ m := by rw [hmm]; split <;> omega
    have each : ∀ i, i < len → ∃ y : α × List Value, d.K w y.1 y.2 ∧ Ok y.1 ∧ y.2.length = d.sz ∧ ∀ j u, y.2[j]? = some u → w.cell? (a.add (i * d.sz + j)) = some u := by
      intro i hi
      obtain ⟨cs', h1, h2⟩ := hx i (by omega)
      obtain ⟨v, hk, ho⟩ := he H enc w base spare held n cs' _ h2
      obtain ⟨_, hlen, hcell⟩ := World.cells?_some h1
      refine ⟨(v, cs'), hk, ho, by rw [hlen, hc], fun j u hu => ?_⟩
      have hj : j < cs'.length := (List.getElem?_eq_some_iff.1 hu).1
      have := hcell j (by omega)
      rw [add_add _ _ _ (by simp), hc, hu] at this
      exact this
    obtain ⟨l, hl2, hy⟩ := exists_list len each
    refine ⟨l.map (·.1), ⟨some a, cap, by simp [hl2], by simp [hl2]; exact hl, ?_⟩, ?_, ?_⟩
    · refine ⟨rfl, by rw [List.length_map, hl2]; unfold maxLen at hm; omega, fun _ => ⟨a, rfl, fun j p hj => ?_⟩⟩
      rw [List.getElem?_map, Option.map_eq_some_iff] at hj
      obtain ⟨z, hz, rfl⟩ := hj
      obtain ⟨h1, h2, h3, h4⟩ := hy j z hz
      exact ⟨z.2, h3, h1, h4⟩
    · rw [List.length_map, hl2]; omega
    · intro x hx
      obtain ⟨z, hz, rfl⟩ := List.mem_map.1 hx
      obtain ⟨i, hi, rfl⟩ := List.getElem_of_mem hz
      exact (hy i _ (List.getElem?_eq_getElem hi)).2.1
/-- A cell that holds a slice. -/
theorem Opens.cell {P : Program} {T e : TypeId} {α : Type} {d : Kd α} {Ok : List α → Prop} (h : Opens P T (Kd.slice e d) Ok) {H : Type} {enc : TypeId × Value → H} {w : World} {base : Nat} {spare : Nat → Bool} {held : Bool} {v : Value} {n : Nat} {x : DataW H × List MemPlace}
    (ht : DataW.trod enc P w base spare held n T [v] = some x) : ∃ (xs : List α) (A : Option Addr) (c : Nat), v = .slice A xs.length c ∧ d.C w A xs.length xs ∧ xs.length ≤ c ∧ Ok xs := by
  obtain ⟨xs, ⟨A, c, hcs, hl, hC⟩, ho⟩ := h H enc w base spare held n _ _ ht
  simp at hcs
  exact ⟨xs, A, c, hcs, hC, hl, ho⟩
def OkI (l : List Int) : Prop := l.length ≤ maxLen ∧ ∀ x ∈ l, (Lit.int .i64 x).wf = true
def OkII (l : List (List Int)) : Prop := l.length ≤ maxLen ∧ ∀ x ∈ l, OkI x
theorem opens3 : Opens Try.prog 3 (Kd.int .i64) (fun n => (Lit.int .i64 n).wf = true) := Opens.int Try.underlying3
theorem opens26 : Opens Try.prog 26 (Kd.slice 3 (Kd.int .i64)) OkI := Opens.slice Try.underlying26 opens3 (by kernel_rfl)
theorem opens35 : Opens Try.prog 35 (Kd.slice 26 (Kd.slice 3 (Kd.int .i64))) OkII := Opens.slice Try.underlying35 opens26 (by kernel_rfl)
end Go.Proofs.Ytdlijioedokgjaa.Q

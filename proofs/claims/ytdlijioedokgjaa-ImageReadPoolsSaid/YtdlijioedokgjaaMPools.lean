/- Plain laws: what a reader of pools reads is short; both readers answer alike. -/
import Derived.Test.YtdlijioedokgjaaHRefReadPool
namespace Go.Proofs.Ytdlijioedokgjaa.Q
open Go.RowKit Go.Proofs.YtdlijioedokgjaaW.PrintWords Go.Proofs.YtdlijioedokgjaaW.PrintLast Go.Proofs.YtdlijioedokgjaaW.PrintMore
set_option linter.unusedVariables false
set_option linter.unusedSimpArgs false

theorem intsB_ge (l : List Int) : l.length ≤ (intsB l).length := by
  unfold intsB
  rw [List.length_append]
  have := numsB_length_ge l
  omega
theorem rdList_all {s : ByteArray} {x : Int} (h0 : 0 ≤ x) (h1 : x ≤ s.size) {p : List Int × Int} (h : rdList s x = .ok p) : p.1.length ≤ s.size := by
  rw [rdList_L s x h0 h1] at h
  cases hr : rdListL ((bytesOf s).drop x.toNat) with
  | error c => rw [hr] at h; cases h
  | ok q =>
    rw [hr] at h
    injection h with h
    subst h
    have hc := rdListL_canon (fun b hb => bytesOf_range s b (List.mem_of_mem_drop hb)) hr
    have h2 := congrArg List.length hc.2
    rw [List.length_append, List.length_drop, bytesOf_length] at h2
    have := intsB_ge q.1
    simp only
    omega
theorem rdRest_all (s : ByteArray) : ∀ (n : Nat) (x : Int) (acc : List (List Int)) (p : List (List Int) × Int), 0 ≤ x → x ≤ s.size → (∀ l ∈ acc, l.length ≤ s.size) → rdRest s n x acc = .ok p → ∀ l ∈ p.1, l.length ≤ s.size := by
  intro n
  induction n with
  | zero => intro x acc p h0 h1 ha h; simp only [rdRest] at h; injection h with h; subst h; exact ha
  | succ n ih =>
    intro x acc p h0 h1 ha h
    rw [rdRest] at h
    cases hr : rdList s x with
    | error d => rw [hr] at h; cases h
    | ok q =>
      rw [hr] at h
      obtain ⟨p1, p2⟩ := rdList_pos h0 h1 hr
      refine ih q.2 _ p (by omega) p2 (fun l hl => ?_) h
      rcases List.mem_append.1 hl with hl | hl
      · exact ha l hl
      · rw [List.mem_singleton.1 hl]; exact rdList_all h0 h1 hr
theorem openS_le (a0 : ByteArray) : (openS a0).1.size ≤ a0.size := by
  unfold openS
  split
  · exact Nat.zero_le _
  · split
    · simp
    · exact Nat.zero_le _
theorem getD_le {ls : List (List Int)} {n : Nat} (h : ∀ l ∈ ls, l.length ≤ n) (i : Nat) : (ls.getD i []).length ≤ n := by
  rw [List.getD_eq_getElem?_getD]
  cases hi : ls[i]? with
  | none => exact Nat.zero_le _
  | some l => exact h l (List.mem_of_getElem? hi)
theorem readPoolP_len (a0 : ByteArray) : (readPoolP a0).1.length ≤ a0.size ∧ (readPoolP a0).2.1.length ≤ a0.size ∧ (readPoolP a0).2.2.1.length ≤ a0.size := by
  obtain ⟨bd, ec, hO⟩ : ∃ bd ec, openS a0 = (bd, ec) := ⟨_, _, rfl⟩
  have hb := openS_le a0
  rw [hO] at hb
  rw [readPoolP_eq hO]
  split
  · cases hr : rdRest bd 3 0 [] with
    | error c => exact ⟨Nat.zero_le _, Nat.zero_le _, Nat.zero_le _⟩
    | ok p =>
      have hall := rdRest_all bd 3 0 [] p (by omega) (by omega) (fun l hl => by cases hl) hr
      simp only [rpOut]
      split
      · exact ⟨Nat.zero_le _, Nat.zero_le _, Nat.zero_le _⟩
      · simp only [poolOf]
        simp only at hb
        split
        · exact ⟨Nat.le_trans (getD_le hall 0) hb, Nat.le_trans (getD_le hall 1) hb, Nat.le_trans (getD_le hall 2) hb⟩
        · exact ⟨Nat.zero_le _, Nat.zero_le _, Nat.zero_le _⟩
  · exact ⟨Nat.zero_le _, Nat.zero_le _, Nat.zero_le _⟩
theorem SamePools_refl (a b c : List Int) (ha : a.length ≤ 9223372036854775807) (hb : b.length ≤ 9223372036854775807) (hc : c.length ≤ 9223372036854775807) : EvR (fun k => unicodetextref15_SamePools.f k a b c a b c) true := by
  unfold unicodetextref15_SamePools.f
  exact EvR.bind (SameInts_refl a ha) (EvR.pos rfl (EvR.bind (SameInts_refl b hb) (EvR.pos rfl (EvR.bind (SameInts_refl c hc) (EvR.const _)))))
end Go.Proofs.Ytdlijioedokgjaa.Q

import Derived.Test.YtdlijioedokgjaaHDiffer
import Derived.Test.YtdlijioedokgjaaQF76
/- Plain laws of tables: which are canonical, as the program says it (multistage.Valid). -/
namespace Go.Proofs.Ytdlijioedokgjaa.Q
open Go.RowKit Go.Proofs.YtdlijioedokgjaaW.PrintWords Go.Proofs.YtdlijioedokgjaaW.PrintLast Go.Proofs.YtdlijioedokgjaaW.PrintMore
set_option linter.unusedVariables false

/-! ### The widths -/
def bitsGo (s : Int) : List Int → Int
  | [] => if s < 9 then 0 else if s > 16 then 0 else s
  | w :: r => if w < 1 then 0 else if w > 12 then 0 else bitsGo (s + w) r
def bitsP (W : List Int) : Int := if (W.length : Int) < 1 then 0 else if (W.length : Int) > 3 then 0 else bitsGo 0 W
theorem bitsGo_ne : ∀ {W : List Int} {s : Int}, bitsGo s W ≠ 0 → (∀ w ∈ W, 1 ≤ w ∧ w ≤ 12) ∧ 9 ≤ bitsGo s W ∧ bitsGo s W ≤ 16
  | [], s, h => by
    simp only [bitsGo] at h ⊢
    split at h
    · exact absurd rfl h
    · split at h
      · exact absurd rfl h
      · rename_i h1 h2; rw [if_neg h1, if_neg h2]; exact ⟨by simp, by omega, by omega⟩
  | w :: r, s, h => by
    simp only [bitsGo] at h ⊢
    split at h
    · exact absurd rfl h
    · split at h
      · exact absurd rfl h
      · rename_i h1 h2
        rw [if_neg h1, if_neg h2]
        obtain ⟨g1, g2⟩ := bitsGo_ne h
        refine ⟨fun x hx => ?_, g2⟩
        rcases List.mem_cons.1 hx with rfl | hx
        · omega
        · exact g1 x hx
theorem bitsP_ne {W : List Int} (h : bitsP W ≠ 0) : 1 ≤ W.length ∧ W.length ≤ 3 ∧ (∀ w ∈ W, 1 ≤ w ∧ w ≤ 12) ∧ 9 ≤ bitsP W ∧ bitsP W ≤ 16 := by
  unfold bitsP at h ⊢
  split at h
  · exact absurd rfl h
  · split at h
    · exact absurd rfl h
    · rename_i h1 h2
      rw [if_neg h1, if_neg h2]
      obtain ⟨g1, g2⟩ := bitsGo_ne h
      exact ⟨by omega, by omega, g1, g2⟩
theorem bits_l0 {W : List Int} (hn : W.length ≤ 3) (d : Nat) : ∀ (s i : Int), 0 ≤ i → i ≤ W.length → (W.length : Int) - i = d → 0 ≤ s → s ≤ 12 * i → EvR (fun k => multistage_bits.l0 k s W (W.length : Int) i) (bitsGo s (W.drop i.toNat)) := by
  induction d with
  | zero =>
    intro s i h0 h1 hd hs hs2
    refine EvR.step (fun k => rfl) (EvR.neg (by omega) ?_)
    rw [List.drop_eq_nil_of_le (by omega)]
    simp only [bitsGo]
    by_cases c1 : s < 9
    · exact EvR.cast (EvR.pos c1 (EvR.const _)) (if_pos c1).symm
    · refine EvR.cast (EvR.neg c1 ?_) (if_neg c1).symm
      by_cases c2 : s > 16
      · exact EvR.cast (EvR.pos c2 (EvR.const _)) (if_pos c2).symm
      · exact EvR.cast (EvR.neg c2 (EvR.const _)) (if_neg c2).symm
  | succ d ih =>
    intro s i h0 h1 hd hs hs2
    refine EvR.step (fun k => rfl) (EvR.pos (by omega) (EvR.pos h0 (EvR.pos (by omega) ?_)))
    rw [drop_rd W i h0 (by omega)]
    simp only [bitsGo]
    by_cases c1 : rd W i < 1
    · rw [if_pos c1]; exact EvR.pos c1 (EvR.const _)
    · rw [if_neg c1]
      refine EvR.neg c1 ?_
      by_cases c2 : rd W i > 12
      · rw [if_pos c2]; exact EvR.pos c2 (EvR.const _)
      · rw [if_neg c2]
        refine EvR.neg c2 ?_
        have e1 : wrap64 (s + rd W i) = s + rd W i := by unfold wrap64; omega
        have e2 : wrap64 (i + 1) = i + 1 := by unfold wrap64; omega
        rw [e1, e2]
        exact ih _ _ (by omega) (by omega) (by omega) (by omega) (by omega)
theorem bits_ev (W : List Int) : EvR (fun k => multistage_bits.f k W) (bitsP W) := by
  unfold multistage_bits.f bitsP
  by_cases c1 : (W.length : Int) < 1
  · rw [if_pos c1]
    exact EvR.pos c1 (EvR.step (h := fun _ => some _) (fun k => rfl) (EvR.const _))
  · rw [if_neg c1]
    refine EvR.neg c1 ?_
    by_cases c2 : (W.length : Int) > 3
    · rw [if_pos c2]
      exact EvR.step (fun k => rfl) (EvR.pos (decide_eq_true c2) (EvR.const _))
    · rw [if_neg c2]
      refine EvR.step (fun k => rfl) (EvR.neg (by rw [decide_eq_false c2]; decide) ?_)
      have := bits_l0 (W := W) (by omega) W.length 0 0 (by omega) (by omega) (by omega) (by omega) (by omega)
      simpa using this
/-- 1 << w. -/
def pw (w : Int) : Nat := 2 ^ w.toNat
theorem pw_pos (w : Int) : 0 < pw w := Nat.pow_pos (by omega)
theorem pw_le {w : Int} (h : w ≤ 12) : pw w ≤ 4096 := by
  have := Nat.pow_le_pow_right (n := 2) (by omega) (show w.toNat ≤ 12 by omega)
  unfold pw; omega
theorem shl_w {w : Int} (h0 : 1 ≤ w) (h1 : w ≤ 12) : shl .i64 1 w = (pw w : Int) := by
  have : w = 1 ∨ w = 2 ∨ w = 3 ∨ w = 4 ∨ w = 5 ∨ w = 6 ∨ w = 7 ∨ w = 8 ∨ w = 9 ∨ w = 10 ∨ w = 11 ∨ w = 12 := by omega
  rcases this with rfl | rfl | rfl | rfl | rfl | rfl | rfl | rfl | rfl | rfl | rfl | rfl <;> decide
theorem shr_w {w : Int} (n : Nat) (h1 : w ≤ 60) : shr .i64 (n : Int) w = ((n / pw w : Nat) : Int) := by
  unfold shr pw
  rw [Nat.min_eq_left (show w.toNat ≤ IntKind.bits .i64 by show w.toNat ≤ 64; omega)]
  simp
/-! ### Numbers in the order of their first occurrences -/
def freshP (lim next : Int) : List Int → Bool
  | [] => next == lim
  | x :: r => if x < 0 ∨ x > next then false else freshP lim (if x = next then next + 1 else next) r
theorem fresh_l0 {l : List Int} {lim : Int} (hn : l.length ≤ 1000000000) (d : Nat) : ∀ (next i : Int), 0 ≤ i → i ≤ l.length → (l.length : Int) - i = d → 0 ≤ next → next ≤ i → EvR (fun k => multistage_fresh.l0 k lim next l (l.length : Int) i) (freshP lim next (l.drop i.toNat)) := by
  induction d with
  | zero =>
    intro next i h0 h1 hd hs hs2
    rw [List.drop_eq_nil_of_le (by omega)]
    exact EvR.step (fun k => rfl) (EvR.neg (by omega) (EvR.const _))
  | succ d ih =>
    intro next i h0 h1 hd hs hs2
    rw [drop_rd l i h0 (by omega), freshP]
    refine EvR.step (fun k => rfl) (EvR.pos (by omega) (EvR.pos h0 (EvR.pos (by omega) ?_)))
    have e1 : wrap64 (next + 1) = next + 1 := by unfold wrap64; omega
    have e2 : wrap64 (i + 1) = i + 1 := by unfold wrap64; omega
    by_cases c1 : rd l i < 0
    · rw [if_pos (.inl c1)]
      exact EvR.pos c1 (EvR.step (h := fun _ => some _) (fun k => rfl) (EvR.const _))
    · refine EvR.neg c1 ?_
      by_cases c2 : rd l i > next
      · rw [if_pos (.inr c2)]
        exact EvR.step (fun k => rfl) (EvR.pos (decide_eq_true c2) (EvR.const _))
      · rw [if_neg (by omega)]
        refine EvR.step (fun k => rfl) (EvR.neg (by rw [decide_eq_false c2]; decide) ?_)
        by_cases c3 : rd l i = next
        · rw [if_pos c3]
          refine EvR.pos c3 ?_
          rw [e1, e2]
          exact ih _ _ (by omega) (by omega) (by omega) (by omega) (by omega)
        · rw [if_neg c3]
          refine EvR.neg c3 ?_
          rw [e2]
          exact ih _ _ (by omega) (by omega) (by omega) (by omega) (by omega)
theorem fresh_ev {l : List Int} (lim : Int) (hn : l.length ≤ 1000000000) : EvR (fun k => multistage_fresh.f k l lim) (freshP lim 0 l) := by
  unfold multistage_fresh.f
  have := fresh_l0 (lim := lim) hn l.length 0 0 (by omega) (by omega) (by omega) (by omega) (by omega)
  simpa using this
/-! ### The stages -/
def stagesP (prev : List Int) : List Int → List (List Int) → Bool
  | w :: ws, s :: ss => if s.length = 0 then false else if s.length % pw w = 0 then (if freshP ((s.length / pw w : Nat) : Int) 0 prev = true then (if apartB s (pw w) (s.length / pw w) = true then stagesP s ws ss else false) else false) else false
  | _, _ => true
def validT (W : List Int) (S : List (List Int)) : Bool :=
  if bitsP W = 0 then false else if S.length = W.length + 1 then (if (S.headD []).length = 1114112 / pw (bitsP W) then stagesP (S.headD []) W S.tail else false) else false
theorem rd_L2_zero (S : List (List Int)) : rd_L2 S 0 = S.headD [] := by cases S <;> rfl
theorem valid_l0 {W : List Int} {S : List (List Int)} (hW : ∀ w ∈ W, 1 ≤ w ∧ w ≤ 12) (hl : S.length = W.length + 1) (hn : W.length ≤ 3) (hS : ∀ l ∈ S, l.length ≤ 2000000 ∧ l.all i64in = true) (d : Nat) : ∀ (i : Int), 0 ≤ i → i ≤ W.length → (W.length : Int) - i = d →
    EvR (fun k => multistage_Valid.l0 k W (W.length : Int) i W S) (stagesP (rd_L2 S i) (W.drop i.toNat) (S.drop (i + 1).toNat)) := by
  induction d with
  | zero =>
    intro i h0 h1 hd
    rw [List.drop_eq_nil_of_le (by omega)]
    exact EvR.step (fun k => rfl) (EvR.neg (by omega) (EvR.const _))
  | succ d ih =>
    intro i h0 h1 hd
    have e2 : wrap64 (i + 1) = i + 1 := by unfold wrap64; omega
    have hs : S.drop (i + 1).toNat = rd_L2 S (i + 1) :: S.drop (i + 1 + 1).toNat := drop_rd_L2 S (i + 1) (by omega) (by omega)
    obtain ⟨w1, w2⟩ := hW _ (rd_mem W i h0 (by omega))
    obtain ⟨s1, s2⟩ := hS _ (rd_L2_mem S (i + 1) (by omega) (by omega))
    obtain ⟨p1, p2⟩ := hS _ (rd_L2_mem S i (by omega) (by omega))
    rw [hs, drop_rd W i h0 (by omega), stagesP]
    have hpp := pw_pos (rd W i)
    have hpl := pw_le w2
    refine EvR.step (fun k => rfl) (EvR.pos (by omega) (EvR.pos h0 (EvR.pos (by omega) ?_)))
    rw [e2, shl_w w1 w2, shr_w _ (by omega)]
    refine EvR.pos (by omega) (EvR.pos (by omega) ?_)
    have ih' := ih (i + 1) (by omega) (by omega) (by omega)
    generalize rd_L2 S (i + 1) = s at *
    generalize pw (rd W i) = n at *
    by_cases c1 : s.length = 0
    · rw [if_pos c1]; exact EvR.pos (by omega) (EvR.const _)
    rw [if_neg c1]
    refine EvR.neg (by omega) (EvR.pos (by omega) (EvR.neg (by omega) ?_))
    by_cases c2 : s.length % n = 0
    · rw [if_pos c2]
      refine EvR.pos (by exact_mod_cast c2) (EvR.pos (by omega) (EvR.bind (fresh_ev _ (by omega)) ?_))
      by_cases c3 : freshP ((s.length / n : Nat) : Int) 0 (rd_L2 S i) = true
      · rw [if_pos c3]
        refine EvR.pos c3 (EvR.bindc (x := apartB s n (s.length / n)) ?_ ?_)
        · unfold multistage_differ.f
          rw [Int.toNat_natCast, if_pos ⟨by omega, c2, by omega, s2⟩]
        · by_cases c4 : apartB s n (s.length / n) = true
          · rw [if_pos c4]; exact EvR.pos c4 ih'
          · rw [if_neg c4]; exact EvR.neg c4 (EvR.const _)
      · rw [if_neg c3]; exact EvR.neg c3 (EvR.const _)
    · rw [if_neg c2]
      exact EvR.neg (fun h => c2 (by exact_mod_cast h)) (EvR.const _)
theorem validT_ev (W : List Int) (S : List (List Int)) (hS : ∀ l ∈ S, l.length ≤ 2000000 ∧ l.all i64in = true) : EvR (fun k => multistage_Valid.f k W S) (validT W S) := by
  unfold multistage_Valid.f validT
  refine EvR.bind (bits_ev W) ?_
  by_cases c1 : bitsP W = 0
  · rw [if_pos c1]
    exact EvR.pos c1 (EvR.step (h := fun _ => some _) (fun k => rfl) (EvR.const _))
  rw [if_neg c1]
  obtain ⟨g1, g2, g3, g4, g5⟩ := bitsP_ne c1
  have e1 : wrap64 ((W.length : Int) + 1) = (W.length : Int) + 1 := by unfold wrap64; omega
  refine EvR.neg c1 ?_
  rw [e1]
  by_cases c2 : S.length = W.length + 1
  · rw [if_pos c2]
    refine EvR.pos (by omega) (EvR.pos (by omega) (EvR.pos (by omega) ?_))
    have e3 : shr .i64 1114112 (bitsP W) = ((1114112 / pw (bitsP W) : Nat) : Int) := shr_w 1114112 (by omega)
    rw [e3, rd_L2_zero]
    by_cases c3 : (S.headD []).length = 1114112 / pw (bitsP W)
    · rw [if_pos c3]
      refine EvR.step (fun k => rfl) (EvR.neg (by rw [c3]; simp) ?_)
      have := valid_l0 g3 c2 g2 hS W.length 0 (by omega) (by omega) (by omega)
      rw [rd_L2_zero] at this
      simpa using this
    · rw [if_neg c3]
      refine EvR.step (fun k => rfl) (EvR.pos ?_ (EvR.const _))
      rw [bne_iff_ne]
      exact fun h => c3 (by exact_mod_cast h)
  · rw [if_neg c2]
    exact EvR.neg (by omega) (EvR.step (h := fun _ => some _) (fun k => rfl) (EvR.const _))
end Go.Proofs.Ytdlijioedokgjaa.Q

import Derived.Test.YtdlijioedokgjaaMTab
import Derived.Test.YtdlijioedokgjaaQF49
/- Plain laws of tables: the reference's Valid is the program's. -/
namespace Go.Proofs.Ytdlijioedokgjaa.Q
open Go.RowKit Go.Proofs.YtdlijioedokgjaaW.PrintWords Go.Proofs.YtdlijioedokgjaaW.PrintLast Go.Proofs.YtdlijioedokgjaaW.PrintMore
set_option linter.unusedVariables false

theorem refBits_l0 {W : List Int} (hn : W.length ≤ 3) (d : Nat) : ∀ (s i : Int), 0 ≤ i → i ≤ W.length → (W.length : Int) - i = d → 0 ≤ s → s ≤ 12 * i → EvR (fun k => unicodetextref13_bits.l0 k W s i) (bitsGo s (W.drop i.toNat)) := by
  induction d with
  | zero =>
    intro s i h0 h1 hd hs hs2
    refine EvR.step (fun k => rfl) (EvR.neg (by omega) ?_)
    rw [List.drop_eq_nil_of_le (by omega)]
    simp only [bitsGo]
    by_cases c1 : s < 9
    · exact EvR.cast (EvR.pos c1 (EvR.const _)) (if_pos c1).symm
    · refine EvR.cast (EvR.neg c1 ?_) (if_neg c1).symm
      by_cases c2 : s > 16
      · exact EvR.cast (EvR.pos c2 (EvR.const _)) (if_pos c2).symm
      · exact EvR.cast (EvR.neg c2 (EvR.const _)) (if_neg c2).symm
  | succ d ih =>
    intro s i h0 h1 hd hs hs2
    refine EvR.step (fun k => rfl) (EvR.pos (by omega) (EvR.pos h0 ?_))
    rw [drop_rd W i h0 (by omega)]
    simp only [bitsGo]
    by_cases c1 : rd W i < 1
    · rw [if_pos c1]; exact EvR.pos c1 (EvR.const _)
    · rw [if_neg c1]
      refine EvR.neg c1 ?_
      by_cases c2 : rd W i > 12
      · rw [if_pos c2]; exact EvR.pos c2 (EvR.const _)
      · rw [if_neg c2]
        refine EvR.neg c2 ?_
        have e1 : wrap64 (s + rd W i) = s + rd W i := by unfold wrap64; omega
        have e2 : wrap64 (i + 1) = i + 1 := by unfold wrap64; omega
        rw [e1, e2]
        exact ih _ _ (by omega) (by omega) (by omega) (by omega) (by omega)
theorem refBits_ev (W : List Int) : EvR (fun k => unicodetextref13_bits.f k W) (bitsP W) := by
  unfold unicodetextref13_bits.f bitsP
  by_cases c1 : (W.length : Int) < 1
  · rw [if_pos c1]
    exact EvR.pos c1 (EvR.step (h := fun _ => some _) (fun k => rfl) (EvR.const _))
  · rw [if_neg c1]
    refine EvR.neg c1 ?_
    by_cases c2 : (W.length : Int) > 3
    · rw [if_pos c2]
      exact EvR.step (fun k => rfl) (EvR.pos (decide_eq_true c2) (EvR.const _))
    · rw [if_neg c2]
      refine EvR.step (fun k => rfl) (EvR.neg (by rw [decide_eq_false c2]; decide) ?_)
      have := refBits_l0 (W := W) (by omega) W.length 0 0 (by omega) (by omega) (by omega) (by omega) (by omega)
      simpa using this
theorem freshP_le : ∀ {l : List Int} {lim next : Int}, freshP lim next l = true → next ≤ lim
  | [], lim, next, h => by simp only [freshP, beq_iff_eq] at h; omega
  | x :: r, lim, next, h => by
    rw [freshP] at h
    split at h
    · cases h
    · have := freshP_le h
      split at this <;> omega
theorem freshP_all : ∀ {l : List Int} {lim next : Int}, freshP lim next l = true → ∀ x ∈ l, 0 ≤ x ∧ x < lim
  | [], lim, next, h => by simp
  | x :: r, lim, next, h => by
    rw [freshP] at h
    split at h
    · cases h
    · intro y hy
      rcases List.mem_cons.1 hy with rfl | hy
      · have := freshP_le h
        split at this <;> omega
      · exact freshP_all h y hy
theorem first_l0 {l : List Int} {lim : Int} (hn : l.length ≤ 1000000000) (d : Nat) : ∀ (next i : Int), 0 ≤ i → i ≤ l.length → (l.length : Int) - i = d → 0 ≤ next → next ≤ i → EvR (fun k => unicodetextref13_first.l0 k l lim next i) (freshP lim next (l.drop i.toNat)) := by
  induction d with
  | zero =>
    intro next i h0 h1 hd hs hs2
    rw [List.drop_eq_nil_of_le (by omega)]
    exact EvR.step (fun k => rfl) (EvR.neg (by omega) (EvR.const _))
  | succ d ih =>
    intro next i h0 h1 hd hs hs2
    rw [drop_rd l i h0 (by omega), freshP]
    refine EvR.step (fun k => rfl) (EvR.pos (by omega) (EvR.pos h0 ?_))
    have e1 : wrap64 (next + 1) = next + 1 := by unfold wrap64; omega
    have e2 : wrap64 (i + 1) = i + 1 := by unfold wrap64; omega
    by_cases c1 : rd l i < 0
    · rw [if_pos (.inl c1)]
      exact EvR.pos c1 (EvR.step (h := fun _ => some _) (fun k => rfl) (EvR.const _))
    · refine EvR.neg c1 ?_
      by_cases c2 : rd l i > next
      · rw [if_pos (.inr c2)]
        exact EvR.pos c2 (EvR.step (h := fun _ => some _) (fun k => rfl) (EvR.const _))
      · rw [if_neg (by omega)]
        refine EvR.neg c2 ?_
        by_cases c4 : rd l i ≥ lim
        · refine EvR.step (fun k => rfl) (EvR.pos (decide_eq_true c4) ((EvR.const _).cast ?_))
          symm
          rw [Bool.eq_false_iff]
          intro h
          have := freshP_le h
          split at this <;> omega
        · refine EvR.step (fun k => rfl) (EvR.neg (by rw [decide_eq_false c4]; decide) (EvR.pos h0 (EvR.pos (by omega) ?_)))
          by_cases c3 : rd l i = next
          · rw [if_pos c3]
            refine EvR.pos c3 ?_
            rw [e1, e2]
            exact ih _ _ (by omega) (by omega) (by omega) (by omega) (by omega)
          · rw [if_neg c3]
            refine EvR.neg c3 ?_
            rw [e2]
            exact ih _ _ (by omega) (by omega) (by omega) (by omega) (by omega)
theorem first_ev {l : List Int} (lim : Int) (hn : l.length ≤ 1000000000) : EvR (fun k => unicodetextref13_first.f k l lim) (freshP lim 0 l) := by
  unfold unicodetextref13_first.f
  have := first_l0 (lim := lim) hn l.length 0 0 (by omega) (by omega) (by omega) (by omega) (by omega)
  simpa using this
theorem same_l0 {a b : List Int} (hl : a.length = b.length) (hn : a.length ≤ 1000000000) (d : Nat) : ∀ (i : Int), 0 ≤ i → i ≤ a.length → (a.length : Int) - i = d → EvR (fun k => unicodetextref13_same.l0 k a b i) (decide (a.drop i.toNat = b.drop i.toNat)) := by
  induction d with
  | zero =>
    intro i h0 h1 hd
    refine EvR.step (fun k => rfl) (EvR.neg (by omega) ((EvR.const _).cast ?_))
    rw [List.drop_eq_nil_of_le (by omega), List.drop_eq_nil_of_le (by omega)]; simp
  | succ d ih =>
    intro i h0 h1 hd
    refine EvR.step (fun k => rfl) (EvR.pos (by omega) (EvR.pos h0 (EvR.pos (by omega) ?_)))
    rw [drop_rd a i h0 (by omega), drop_rd b i h0 (by omega)]
    have e2 : wrap64 (i + 1) = i + 1 := by unfold wrap64; omega
    by_cases c : rd a i = rd b i
    · refine EvR.pos c ?_
      rw [e2]
      refine (ih (i + 1) (by omega) (by omega) (by omega)).cast ?_
      rw [c]; simp
    · refine EvR.neg c ((EvR.const _).cast ?_)
      simp [c]
theorem same_ev {a b : List Int} (hn : a.length ≤ 1000000000) : EvR (fun k => unicodetextref13_same.f k a b) (decide (a = b)) := by
  unfold unicodetextref13_same.f
  by_cases hl : a.length = b.length
  · refine EvR.pos (by omega) ?_
    have := same_l0 hl hn a.length 0 (by omega) (by omega) (by omega)
    simpa using this
  · refine EvR.neg (by omega) ((EvR.const _).cast ?_)
    symm
    exact decide_eq_false (fun h => hl (by rw [h]))
/-! ### Formed -/
def inAll (lim : Int) (l : List Int) : Bool := l.all fun x => decide (0 ≤ x ∧ x < lim)
def formP (prev : List Int) : List Int → List (List Int) → Bool
  | w :: ws, s :: ss => if s.length % pw w = 0 then (if inAll ((s.length / pw w : Nat) : Int) prev = true then formP s ws ss else false) else false
  | _, _ => true
theorem inAll_cons (lim x : Int) (l : List Int) : inAll lim (x :: l) = (decide (0 ≤ x ∧ x < lim) && inAll lim l) := by simp [inAll]
theorem form_l1 {W : List Int} {S : List (List Int)} {x4 : Int} {n : Nat} {r : Bool} (hn : 0 < n) (h4 : 1 ≤ x4) (h4l : x4 < S.length) (hSl : S.length ≤ 1000) (hS : ∀ l ∈ S, l.length ≤ 2000000)
    (hr : EvR (fun k => unicodetextref13_Formed.l0 k (x4 + 1) W S) r) (d : Nat) : ∀ i : Int, 0 ≤ i → i ≤ (rd_L2 S (x4 - 1)).length → ((rd_L2 S (x4 - 1)).length : Int) - i = d →
    EvR (fun k => unicodetextref13_Formed.l1 k x4 (n : Int) i W S) (if inAll (((rd_L2 S x4).length / n : Nat) : Int) ((rd_L2 S (x4 - 1)).drop i.toNat) = true then r else false) := by
  have e1 : wrap64 (x4 - 1) = x4 - 1 := by unfold wrap64; omega
  have e2 : wrap64 (x4 + 1) = x4 + 1 := by unfold wrap64; omega
  have hp := hS _ (rd_L2_mem S (x4 - 1) (by omega) (by omega))
  have hs := hS _ (rd_L2_mem S x4 (by omega) (by omega))
  induction d with
  | zero =>
    intro i h0 h1 hd
    refine EvR.succ ?_
    simp only [unicodetextref13_Formed.l1]
    rw [e1]
    refine EvR.pos (by omega) (EvR.pos (by omega) (EvR.neg (by omega) ?_))
    rw [List.drop_eq_nil_of_le (by omega), e2]
    exact hr
  | succ d ih =>
    intro i h0 h1 hd
    refine EvR.succ ?_
    simp only [unicodetextref13_Formed.l1]
    rw [e1]
    refine EvR.pos (by omega) (EvR.pos (by omega) (EvR.pos (by omega) (EvR.pos h0 ?_)))
    rw [drop_rd _ i h0 (by omega), inAll_cons]
    have e3 : wrap64 (i + 1) = i + 1 := by unfold wrap64; omega
    have e4 : wrap64 (((rd_L2 S x4).length : Int) / (n : Int)) = (((rd_L2 S x4).length / n : Nat) : Int) := by
      rw [← Int.natCast_ediv]
      have h6 : (rd_L2 S x4).length / n ≤ (rd_L2 S x4).length := Nat.div_le_self _ _
      generalize (rd_L2 S x4).length / n = q at h6 ⊢
      unfold wrap64; omega
    by_cases c1 : rd (rd_L2 S (x4 - 1)) i < 0
    · refine EvR.pos c1 ((EvR.const _).cast ?_)
      rw [if_neg]
      simp; omega
    · refine EvR.neg c1 (EvR.pos (by omega) (EvR.pos (by omega) (EvR.neg (by omega) ?_)))
      rw [e4, e3]
      by_cases c2 : rd (rd_L2 S (x4 - 1)) i ≥ (((rd_L2 S x4).length / n : Nat) : Int)
      · refine EvR.pos c2 ((EvR.const _).cast ?_)
        rw [if_neg]
        rw [Bool.and_eq_true, decide_eq_true_iff]
        omega
      · refine EvR.neg c2 ((ih (i + 1) (by omega) (by omega) (by omega)).cast ?_)
        rw [decide_eq_true (show 0 ≤ rd (rd_L2 S (x4 - 1)) i ∧ rd (rd_L2 S (x4 - 1)) i < (((rd_L2 S x4).length / n : Nat) : Int) by omega), Bool.true_and]
theorem form_l0 {W : List Int} {S : List (List Int)} (hW : ∀ w ∈ W, 1 ≤ w ∧ w ≤ 12) (hl : S.length = W.length + 1) (hn : W.length ≤ 3) (hS : ∀ l ∈ S, l.length ≤ 2000000) (d : Nat) : ∀ (i : Int), 1 ≤ i → i ≤ S.length → (S.length : Int) - i = d →
    EvR (fun k => unicodetextref13_Formed.l0 k i W S) (formP (rd_L2 S (i - 1)) (W.drop (i - 1).toNat) (S.drop i.toNat)) := by
  induction d with
  | zero =>
    intro i h0 h1 hd
    rw [List.drop_eq_nil_of_le (show W.length ≤ (i - 1).toNat by omega)]
    exact EvR.step (fun k => rfl) (EvR.neg (by omega) (EvR.const _))
  | succ d ih =>
    intro i h0 h1 hd
    have e1 : wrap64 (i - 1) = i - 1 := by unfold wrap64; omega
    obtain ⟨w1, w2⟩ := hW _ (rd_mem W (i - 1) (by omega) (by omega))
    have hw := drop_rd W (i - 1) (by omega) (by omega)
    rw [show i - 1 + 1 = i + 1 - 1 by omega] at hw
    have hpp := pw_pos (rd W (i - 1))
    rw [drop_rd_L2 S i (by omega) (by omega), hw, formP]
    refine EvR.step (fun k => rfl) (EvR.pos (by omega) ?_)
    rw [e1, shl_w w1 w2]
    refine EvR.pos (by omega) (EvR.pos (by omega) (EvR.pos (by omega) (EvR.pos (by omega) (EvR.neg (by omega) ?_))))
    have ih' := ih (i + 1) (by omega) (by omega) (by omega)
    rw [show rd_L2 S (i + 1 - 1) = rd_L2 S i by rw [show i + 1 - 1 = i by omega]] at ih'
    by_cases c2 : (rd_L2 S i).length % pw (rd W (i - 1)) = 0
    · rw [if_pos c2]
      refine EvR.pos (by exact_mod_cast c2) ?_
      exact form_l1 hpp h0 (by omega) (by omega) hS ih' (rd_L2 S (i - 1)).length 0 (by omega) (by omega) (by omega)
    · rw [if_neg c2]
      exact EvR.neg (fun h => c2 (by exact_mod_cast h)) (EvR.const _)
def formedT (W : List Int) (S : List (List Int)) : Bool :=
  if bitsP W = 0 then false else if S.length = W.length + 1 then (if (S.headD []).length = 1114112 / pw (bitsP W) then formP (S.headD []) W S.tail else false) else false
theorem formed_ev (W : List Int) (S : List (List Int)) (hS : ∀ l ∈ S, l.length ≤ 2000000) : EvR (fun k => unicodetextref13_Formed.f k W S) (formedT W S) := by
  unfold unicodetextref13_Formed.f formedT
  refine EvR.bind (refBits_ev W) ?_
  by_cases c1 : bitsP W = 0
  · rw [if_pos c1]
    exact EvR.pos c1 (EvR.step (h := fun _ => some _) (fun k => rfl) (EvR.const _))
  rw [if_neg c1]
  obtain ⟨g1, g2, g3, g4, g5⟩ := bitsP_ne c1
  have e1 : wrap64 ((W.length : Int) + 1) = (W.length : Int) + 1 := by unfold wrap64; omega
  refine EvR.neg c1 ?_
  rw [e1]
  by_cases c2 : S.length = W.length + 1
  · rw [if_pos c2]
    refine EvR.pos (by omega) (EvR.pos (by omega) (EvR.pos (by omega) ?_))
    have e3 : shr .i64 1114112 (bitsP W) = ((1114112 / pw (bitsP W) : Nat) : Int) := shr_w 1114112 (by omega)
    rw [e3, rd_L2_zero]
    by_cases c3 : (S.headD []).length = 1114112 / pw (bitsP W)
    · rw [if_pos c3]
      refine EvR.step (fun k => rfl) (EvR.neg (by rw [c3]; simp) ?_)
      have := form_l0 g3 c2 g2 hS W.length 1 (by omega) (by omega) (by omega)
      rw [show (1 : Int) - 1 = 0 from rfl, rd_L2_zero] at this
      simpa using this
    · rw [if_neg c3]
      refine EvR.step (fun k => rfl) (EvR.pos ?_ (EvR.const _))
      rw [bne_iff_ne]
      exact fun h => c3 (by exact_mod_cast h)
  · rw [if_neg c2]
    exact EvR.neg (by omega) (EvR.step (h := fun _ => some _) (fun k => rfl) (EvR.const _))
/-! ### Blocks that differ -/
def diffAt (s : List Int) (n i j d : Nat) : Bool := (List.range' j d).all fun j => decide (partL s n i ≠ partL s n j)
def diffAll (s : List Int) (n i d : Nat) : Bool := (List.range' i d).all fun i => diffAt s n i 0 i
theorem diffAll_apart (s : List Int) (n m : Nat) : diffAll s n 0 m = apartB s n m := by
  unfold diffAll diffAt apartB
  rw [Bool.eq_iff_iff, decide_eq_true_iff, List.all_eq_true]
  constructor
  · intro h
    rw [List.pairwise_iff_getElem]
    intro i j hi hj hij
    rw [List.length_range] at hi hj
    rw [List.getElem_range, List.getElem_range]
    have h1 := h j (List.mem_range'.2 ⟨j, hj, by omega⟩)
    rw [List.all_eq_true] at h1
    have h2 := of_decide_eq_true (h1 i (List.mem_range'.2 ⟨i, hij, by omega⟩))
    exact fun e => h2 e.symm
  · intro h j hj
    obtain ⟨j', hj1, hj2⟩ := List.mem_range'.1 hj
    have hj3 : j = j' := by omega
    subst hj3
    rw [List.all_eq_true]
    intro i hi
    obtain ⟨i', hi1, hi2⟩ := List.mem_range'.1 hi
    have hi3 : i = i' := by omega
    subst hi3
    rw [List.pairwise_iff_getElem] at h
    have h1 := h i j (by rw [List.length_range]; omega) (by rw [List.length_range]; omega) hi1
    rw [List.getElem_range, List.getElem_range] at h1
    exact decide_eq_true (fun e => h1 e.symm)
theorem part_cut (s : List Int) (n i : Nat) : (s.take (((i * n : Nat) : Int) + (n : Int)).toNat).drop (((i * n : Nat) : Int)).toNat = partL s n i := by
  rw [show (((i * n : Nat) : Int) + (n : Int)).toNat = i * n + n by omega, Int.toNat_natCast, List.drop_take, Nat.add_sub_cancel_left]
  rfl
theorem part_le (s : List Int) (n i : Nat) : (partL s n i).length ≤ s.length := by
  unfold partL; rw [List.length_take, List.length_drop]; omega
theorem cut_facts (p q n L : Nat) (h : q + n ≤ p) (hn : 0 < n) (h2 : p + n ≤ L) : (q : Int) < (p : Int) ∧ (0 : Int) ≤ (p : Int) ∧ (p : Int) ≤ (p : Int) + (n : Int) ∧ (p : Int) + (n : Int) ≤ (L : Int) ∧ (0 : Int) ≤ (q : Int) ∧ (q : Int) ≤ (q : Int) + (n : Int) ∧ (q : Int) + (n : Int) ≤ (L : Int) := by omega
theorem valid_l2 {W : List Int} {S : List (List Int)} {x3 : Int} {s : List Int} {n m i : Nat} {r : Bool} (hn : 0 < n) (hm : s.length = m * n) (hs : s.length ≤ 2000000) (hi : i < m)
    (hr : EvR (fun k => unicodetextref13_Valid.l1 k x3 (n : Int) s (((i + 1) * n : Nat) : Int) W S) r) (d : Nat) : ∀ j : Nat, j + d = i →
    EvR (fun k => unicodetextref13_Valid.l2 k x3 (n : Int) s ((i * n : Nat) : Int) ((j * n : Nat) : Int) W S) (if diffAt s n i j d = true then r else false) := by
  have hin : i * n + n ≤ s.length := by rw [hm, ← Nat.succ_mul]; exact Nat.mul_le_mul_right n hi
  induction d with
  | zero =>
    intro j hj
    have hji : j = i := by omega
    subst hji
    have e1 : wrap64 (((j * n : Nat) : Int) + (n : Int)) = (((j + 1) * n : Nat) : Int) := by
      rw [Nat.succ_mul]; generalize j * n = q at *; unfold wrap64; omega
    refine EvR.succ ?_
    simp only [unicodetextref13_Valid.l2]
    refine EvR.neg (by omega) ?_
    rw [e1]
    exact hr
  | succ d ih =>
    intro j hj
    have hjn : j * n + n ≤ i * n := by rw [← Nat.succ_mul]; exact Nat.mul_le_mul_right n (by omega)
    have e1 : wrap64 (((j * n : Nat) : Int) + (n : Int)) = ((j * n : Nat) : Int) + (n : Int) := by generalize j * n = q at *; generalize i * n = q2 at *; unfold wrap64; omega
    have e2 : wrap64 (((i * n : Nat) : Int) + (n : Int)) = ((i * n : Nat) : Int) + (n : Int) := by generalize i * n = q at *; unfold wrap64; omega
    refine EvR.succ ?_
    simp only [unicodetextref13_Valid.l2]
    rw [e1, e2, part_cut, part_cut]
    obtain ⟨f1, f2, f3, f4, f5, f6, f7⟩ := cut_facts (i * n) (j * n) n s.length hjn hn hin
    refine EvR.pos f1 (EvR.pos f2 (EvR.pos f3 (EvR.pos f4 (EvR.pos f5 (EvR.pos f6 (EvR.pos f7 ?_))))))
    refine EvR.bind (same_ev (Nat.le_trans (part_le s n i) (Nat.le_trans hs (by decide)))) ?_
    have e3 : diffAt s n i j (d + 1) = (decide (partL s n i ≠ partL s n j) && diffAt s n i (j + 1) d) := by
      unfold diffAt; rw [List.range'_succ, List.all_cons]
    rw [e3]
    by_cases c : partL s n i = partL s n j
    · refine EvR.pos (decide_eq_true c) ((EvR.const _).cast ?_)
      rw [if_neg]; simp [c]
    · refine EvR.neg (by rw [decide_eq_false c]; decide) ?_
      have := ih (j + 1) (by omega)
      rw [Nat.succ_mul, Int.natCast_add] at this
      refine this.cast ?_
      rw [decide_eq_true (show partL s n i ≠ partL s n j from c), Bool.true_and]
theorem valid_l1 {W : List Int} {S : List (List Int)} {x3 : Int} {s : List Int} {n m : Nat} {r : Bool} (hn : 0 < n) (hm : s.length = m * n) (hs : s.length ≤ 2000000) (h3 : 1 ≤ x3) (h3l : x3 ≤ 1000)
    (hr : EvR (fun k => unicodetextref13_Valid.l0 k (x3 + 1) W S) r) (d : Nat) : ∀ i : Nat, i + d = m →
    EvR (fun k => unicodetextref13_Valid.l1 k x3 (n : Int) s ((i * n : Nat) : Int) W S) (if diffAll s n i d = true then r else false) := by
  have e2 : wrap64 (x3 + 1) = x3 + 1 := by unfold wrap64; omega
  induction d with
  | zero =>
    intro i hi
    have hji : i = m := by omega
    subst hji
    refine EvR.succ ?_
    simp only [unicodetextref13_Valid.l1]
    refine EvR.neg (by omega) ?_
    rw [e2]
    exact hr
  | succ d ih =>
    intro i hi
    have hin : i * n + n ≤ s.length := by rw [hm, ← Nat.succ_mul]; exact Nat.mul_le_mul_right n (by omega)
    refine EvR.succ ?_
    simp only [unicodetextref13_Valid.l1]
    refine EvR.pos (by omega) ?_
    have h1 := valid_l2 (x3 := x3) (W := W) (S := S) (i := i) hn hm hs (by omega) (ih (i + 1) (by omega)) i 0 (by omega)
    rw [Nat.zero_mul] at h1
    refine h1.cast ?_
    have e3 : diffAll s n i (d + 1) = (diffAt s n i 0 i && diffAll s n (i + 1) d) := by
      unfold diffAll; rw [List.range'_succ, List.all_cons]
    rw [e3]
    cases diffAt s n i 0 i <;> simp
def val2P (prev : List Int) : List Int → List (List Int) → Bool
  | w :: ws, s :: ss => if freshP ((s.length / pw w : Nat) : Int) 0 prev = true then (if apartB s (pw w) (s.length / pw w) = true then val2P s ws ss else false) else false
  | _, _ => true
theorem val2_l0 {W : List Int} {S : List (List Int)} (hW : ∀ w ∈ W, 1 ≤ w ∧ w ≤ 12) (hl : S.length = W.length + 1) (hn : W.length ≤ 3) (hS : ∀ l ∈ S, l.length ≤ 2000000)
    (hf : ∀ i : Int, 1 ≤ i → i < S.length → (rd_L2 S i).length % pw (rd W (i - 1)) = 0) (d : Nat) : ∀ (i : Int), 1 ≤ i → i ≤ S.length → (S.length : Int) - i = d →
    EvR (fun k => unicodetextref13_Valid.l0 k i W S) (val2P (rd_L2 S (i - 1)) (W.drop (i - 1).toNat) (S.drop i.toNat)) := by
  induction d with
  | zero =>
    intro i h0 h1 hd
    rw [List.drop_eq_nil_of_le (show W.length ≤ (i - 1).toNat by omega)]
    exact EvR.step (fun k => rfl) (EvR.neg (by omega) (EvR.const _))
  | succ d ih =>
    intro i h0 h1 hd
    have e1 : wrap64 (i - 1) = i - 1 := by unfold wrap64; omega
    obtain ⟨w1, w2⟩ := hW _ (rd_mem W (i - 1) (by omega) (by omega))
    have hw := drop_rd W (i - 1) (by omega) (by omega)
    rw [show i - 1 + 1 = i + 1 - 1 by omega] at hw
    have hpp := pw_pos (rd W (i - 1))
    have hmod := hf i h0 (by omega)
    have hs := hS _ (rd_L2_mem S i (by omega) (by omega))
    have hp := hS _ (rd_L2_mem S (i - 1) (by omega) (by omega))
    rw [drop_rd_L2 S i (by omega) (by omega), hw, val2P]
    refine EvR.succ ?_
    simp only [unicodetextref13_Valid.l0]
    rw [e1, shl_w w1 w2]
    refine EvR.pos (by omega) (EvR.pos (by omega) (EvR.pos (by omega) (EvR.pos (by omega) (EvR.pos (by omega) (EvR.pos (by omega) (EvR.neg (by omega) ?_))))))
    have ih' := ih (i + 1) (by omega) (by omega) (by omega)
    rw [show rd_L2 S (i + 1 - 1) = rd_L2 S i by rw [show i + 1 - 1 = i by omega]] at ih'
    have e4 : wrap64 (((rd_L2 S i).length : Int) / (pw (rd W (i - 1)) : Int)) = (((rd_L2 S i).length / pw (rd W (i - 1)) : Nat) : Int) := by
      rw [← Int.natCast_ediv]
      have h6 : (rd_L2 S i).length / pw (rd W (i - 1)) ≤ (rd_L2 S i).length := Nat.div_le_self _ _
      generalize (rd_L2 S i).length / pw (rd W (i - 1)) = q at h6 ⊢
      unfold wrap64; omega
    rw [e4]
    refine EvR.bind (first_ev _ (by omega)) ?_
    by_cases c3 : freshP (((rd_L2 S i).length / pw (rd W (i - 1)) : Nat) : Int) 0 (rd_L2 S (i - 1)) = true
    · rw [if_pos c3]
      refine EvR.pos c3 ?_
      have hm : (rd_L2 S i).length = (rd_L2 S i).length / pw (rd W (i - 1)) * pw (rd W (i - 1)) := by
        have := Nat.div_add_mod (rd_L2 S i).length (pw (rd W (i - 1)))
        rw [Nat.mul_comm]; omega
      have h7 := valid_l1 (x3 := i) (W := W) (S := S) hpp hm hs h0 (by omega) ih' ((rd_L2 S i).length / pw (rd W (i - 1))) 0 (by omega)
      rw [Nat.zero_mul, diffAll_apart] at h7
      exact h7
    · rw [if_neg c3]; exact EvR.neg c3 (EvR.const _)
/-! ### Both together -/
theorem form_mods : ∀ {W : List Int} {S : List (List Int)} {prev : List Int}, S.length = W.length → formP prev W S = true → ∀ i : Int, 0 ≤ i → i < S.length → (rd_L2 S i).length % pw (rd W i) = 0
  | [], S, prev, hl, h, i, h0, h1 => by simp at hl; subst hl; simp at h1; omega
  | w :: ws, [], prev, hl, h, i, h0, h1 => by simp at hl
  | w :: ws, s :: ss, prev, hl, h, i, h0, h1 => by
    rw [formP] at h
    split at h
    · rename_i hc
      split at h
      · by_cases hi : i = 0
        · subst hi; exact hc
        · have := form_mods (by simpa using hl) h (i - 1) (by omega) (by simp at h1; omega)
          have e1 : rd_L2 (s :: ss) i = rd_L2 ss (i - 1) := by
            unfold rd_L2; rw [show i.toNat = (i - 1).toNat + 1 by omega, List.getD_cons_succ]
          have e2 : rd (w :: ws) i = rd ws (i - 1) := by
            unfold rd; rw [show i.toNat = (i - 1).toNat + 1 by omega, List.getD_cons_succ]
          rw [e1, e2]; exact this
      · cases h
    · cases h
theorem both_stages : ∀ {W : List Int} {S : List (List Int)} {prev : List Int}, prev ≠ [] → (if formP prev W S = true then val2P prev W S else false) = stagesP prev W S
  | [], S, prev, hne => by simp [formP, val2P, stagesP]
  | w :: ws, [], prev, hne => by simp [formP, val2P, stagesP]
  | w :: ws, s :: ss, prev, hne => by
    rw [formP, val2P, stagesP]
    by_cases c1 : s.length % pw w = 0
    · rw [if_pos c1, if_pos c1]
      by_cases c2 : freshP ((s.length / pw w : Nat) : Int) 0 prev = true
      · have hin : inAll ((s.length / pw w : Nat) : Int) prev = true := by
          unfold inAll
          rw [List.all_eq_true]
          exact fun x hx => decide_eq_true (freshP_all c2 x hx)
        rw [if_pos c2, if_pos c2, if_pos hin]
        have hs : s.length ≠ 0 := by
          intro h
          obtain ⟨x, r, rfl⟩ : ∃ x r, prev = x :: r := by cases prev with | nil => exact absurd rfl hne | cons x r => exact ⟨x, r, rfl⟩
          have := freshP_all c2 x (by simp)
          rw [h] at this; simp at this; omega
        rw [if_neg hs]
        have ih := both_stages (W := ws) (S := ss) (prev := s) (fun h => hs (by rw [h]; rfl))
        by_cases c3 : apartB s (pw w) (s.length / pw w) = true
        · rw [if_pos c3, if_pos c3]; exact ih
        · rw [if_neg c3, if_neg c3]; simp
      · rw [if_neg c2, if_neg c2]; simp
    · rw [if_neg c1, if_neg c1]; simp
theorem refValid_ev (W : List Int) (S : List (List Int)) (hS : ∀ l ∈ S, l.length ≤ 2000000) : EvR (fun k => unicodetextref13_Valid.f k W S) (validT W S) := by
  unfold unicodetextref13_Valid.f
  refine EvR.bind (formed_ev W S hS) ?_
  unfold formedT validT
  by_cases c1 : bitsP W = 0
  · simp only [if_pos c1]
    exact EvR.neg (by simp) (EvR.const _)
  simp only [if_neg c1]
  by_cases c2 : S.length = W.length + 1
  · simp only [if_pos c2]
    by_cases c3 : (S.headD []).length = 1114112 / pw (bitsP W)
    · simp only [if_pos c3]
      obtain ⟨g1, g2, g3, g4, g5⟩ := bitsP_ne c1
      have hne : S.headD [] ≠ [] := by
        intro h
        rw [h] at c3
        have h2 : pw (bitsP W) ≤ 65536 := by
          have := Nat.pow_le_pow_right (n := 2) (by omega) (show (bitsP W).toNat ≤ 16 by omega)
          unfold pw; omega
        have := Nat.div_pos (show pw (bitsP W) ≤ 1114112 by omega) (pw_pos _)
        simp at c3; omega
      have hb := both_stages (W := W) (S := S.tail) (prev := S.headD []) hne
      by_cases c4 : formP (S.headD []) W S.tail = true
      · rw [if_pos c4] at hb
        refine EvR.pos c4 ?_
        have hf : ∀ i : Int, 1 ≤ i → i < S.length → (rd_L2 S i).length % pw (rd W (i - 1)) = 0 := by
          intro i h0 h1
          have := form_mods (by rw [List.length_tail]; omega) c4 (i - 1) (by omega) (by rw [List.length_tail]; omega)
          have e1 : rd_L2 S i = rd_L2 S.tail (i - 1) := by
            cases S with
            | nil => simp at c2
            | cons s ss => unfold rd_L2; rw [show i.toNat = (i - 1).toNat + 1 by omega, List.getD_cons_succ]; rfl
          rw [e1]; exact this
        have := val2_l0 g3 c2 g2 hS hf W.length 1 (by omega) (by omega) (by omega)
        rw [show (1 : Int) - 1 = 0 from rfl, rd_L2_zero] at this
        rw [← hb]
        simpa using this
      · rw [if_neg c4] at hb
        rw [← hb]
        exact EvR.neg c4 (EvR.const _)
    · simp only [if_neg c3]
      exact EvR.neg (by simp) (EvR.const _)
  · simp only [if_neg c2]
    exact EvR.neg (by simp) (EvR.const _)
end Go.Proofs.Ytdlijioedokgjaa.Q

/- Plain laws: placing, adding, packing, as the reference says it; what they keep and bring. -/
import Derived.Test.YtdlijioedokgjaaHPool
namespace Go.Proofs.Ytdlijioedokgjaa.Q
open Go.RowKit Go.Proofs.YtdlijioedokgjaaW.PrintWords Go.Proofs.YtdlijioedokgjaaW.PrintLast Go.Proofs.YtdlijioedokgjaaW.PrintMore
set_option linter.unusedVariables false
set_option linter.unusedSimpArgs false

/-- From place i on, l and seq agree, as far as both go. -/
def agrees (l seq : List Int) (i : Nat) : Bool := decide ((l.drop i).take (min seq.length (l.length - i)) = seq.take (min seq.length (l.length - i)))
/-- The first place of agreement: from i on, d places are left. -/
def atF (l seq : List Int) : Nat → Nat → Nat
  | 0, i => i
  | d + 1, i => if agrees l seq i = true then i else atF l seq d (i + 1)
def refAt (l seq : List Int) : Nat := atF l seq l.length 0
theorem agrees_end (l seq : List Int) : agrees l seq l.length = true := by simp [agrees]
theorem atF_spec (l seq : List Int) : ∀ d i, i + d = l.length → i ≤ atF l seq d i ∧ atF l seq d i ≤ l.length ∧ agrees l seq (atF l seq d i) = true ∧ ∀ j, i ≤ j → j < atF l seq d i → agrees l seq j = false := by
  intro d
  induction d with
  | zero => intro i h; have : i = l.length := by omega
            subst this; exact ⟨Nat.le_refl _, Nat.le_refl _, agrees_end l seq, fun j h1 h2 => by simp only [atF] at h2; omega⟩
  | succ d ih =>
    intro i h
    simp only [atF]
    by_cases ha : agrees l seq i = true
    · rw [if_pos ha]; exact ⟨Nat.le_refl _, by omega, ha, fun j h1 h2 => by omega⟩
    · rw [if_neg ha]
      obtain ⟨h1, h2, h3, h4⟩ := ih (i + 1) (by omega)
      refine ⟨by omega, h2, h3, fun j k1 k2 => ?_⟩
      by_cases e : j = i
      · subst e; simpa using ha
      · exact h4 j (by omega) k2
theorem refAt_eq {l seq : List Int} {a : Nat} (h : a ≤ l.length) (ha : agrees l seq a = true) (hm : ∀ j, j < a → agrees l seq j = false) : refAt l seq = a := by
  obtain ⟨h1, h2, h3, h4⟩ := atF_spec l seq l.length 0 (by omega)
  show atF l seq l.length 0 = a
  rcases Nat.lt_trichotomy (atF l seq l.length 0) a with c | c | c
  · rw [hm _ c] at h3; cases h3
  · exact c
  · rw [h4 a (by omega) c] at ha; cases ha
theorem occF_spec (l seq : List Int) : ∀ (d : Nat) (i : Int), 0 ≤ i → (0 ≤ occF l seq d i → i ≤ occF l seq d i ∧ occF l seq d i < i + d ∧ cut l (occF l seq d i) seq.length = seq ∧ ∀ j, i ≤ j → j < occF l seq d i → cut l j seq.length ≠ seq) ∧ (occF l seq d i < 0 → ∀ j, i ≤ j → j < i + d → cut l j seq.length ≠ seq) := by
  intro d
  induction d with
  | zero => intro i hi; refine ⟨fun h => by simp only [occF] at h; omega, fun _ j h1 h2 => by omega⟩
  | succ d ih =>
    intro i hi
    simp only [occF]
    by_cases hc : cut l i seq.length = seq
    · rw [if_pos hc]
      exact ⟨fun _ => ⟨Int.le_refl _, by omega, hc, fun j h1 h2 => by omega⟩, fun h => by omega⟩
    · rw [if_neg hc]
      obtain ⟨k1, k2⟩ := ih (i + 1) (by omega)
      refine ⟨fun h => ?_, fun h j h1 h2 => ?_⟩
      · obtain ⟨a, b, c, e⟩ := k1 h
        refine ⟨by omega, by omega, c, fun j h1 h2 => ?_⟩
        by_cases e' : j = i
        · subst e'; exact hc
        · exact e j (by omega) h2
      · by_cases e' : j = i
        · subst e'; exact hc
        · exact k2 h j (by omega) (by omega)
theorem ovF_max (l seq : List Int) : ∀ n m, ovF l seq n < m → m ≤ n → cut l ((l.length : Int) - (m : Int)) (m : Int) ≠ cut seq 0 (m : Int) := by
  intro n
  induction n with
  | zero => intro m h1 h2; omega
  | succ n ih =>
    intro m h1 h2
    simp only [ovF] at h1
    split at h1
    · omega
    · rename_i hc
      by_cases e : m = n + 1
      · subst e; exact hc
      · exact ih m h1 (by omega)
theorem ovF_at (l seq : List Int) : ∀ n, cut l ((l.length : Int) - ((ovF l seq n : Nat) : Int)) ((ovF l seq n : Nat) : Int) = cut seq 0 ((ovF l seq n : Nat) : Int) := by
  intro n
  induction n with
  | zero => simp [ovF, cut]
  | succ n ih => rw [ovF]; split; assumption; exact ih
theorem agrees_full {l seq : List Int} {j : Nat} (h : j + seq.length ≤ l.length) : agrees l seq j = true ↔ cut l j seq.length = seq := by
  unfold agrees cut
  rw [decide_eq_true_eq, Nat.min_eq_left (by omega), List.take_length]
  simp
theorem agrees_part {l seq : List Int} {j : Nat} (h : l.length ≤ j + seq.length) (hj : j ≤ l.length) : agrees l seq j = true ↔ cut l ((l.length : Int) - ((l.length - j : Nat) : Int)) ((l.length - j : Nat) : Int) = cut seq 0 ((l.length - j : Nat) : Int) := by
  unfold agrees cut
  rw [decide_eq_true_eq, Nat.min_eq_right (by omega)]
  have : ((l.length : Int) - ((l.length - j : Nat) : Int)).toNat = j := by omega
  rw [this]; simp
/-- Placing, as the reference says it. -/
theorem placeP_ref (l seq : List Int) : placeP l seq = (l ++ seq.drop (l.length - refAt l seq), (refAt l seq : Int)) := by
  unfold placeP
  by_cases ho : 0 ≤ occI l seq
  · rw [if_pos ho]
    by_cases hl : seq.length ≤ l.length
    · have e : occI l seq = occF l seq (l.length - seq.length + 1) 0 := by unfold occI; rw [if_pos hl]
      obtain ⟨a, b, c, f⟩ := (occF_spec l seq (l.length - seq.length + 1) 0 (by omega)).1 (by rw [← e]; exact ho)
      rw [← e] at a b c f
      have hr : refAt l seq = (occI l seq).toNat := by
        refine refAt_eq (by omega) ((agrees_full (by omega)).2 ?_) (fun j hj => ?_)
        · rw [Int.toNat_of_nonneg ho]; exact c
        · cases hb : agrees l seq j with
          | false => rfl
          | true => exact absurd ((agrees_full (by omega)).1 hb) (f j (by omega) (by omega))
      rw [hr, List.drop_eq_nil_of_le (by omega), List.append_nil, Int.toNat_of_nonneg ho]
    · unfold occI at ho; rw [if_neg hl] at ho; omega
  · rw [if_neg ho]
    have hov : ov l seq ≤ min l.length seq.length := ovF_le l seq _
    have hno : ∀ j : Nat, j + seq.length ≤ l.length → cut l j seq.length ≠ seq := by
      intro j hj
      have hl : seq.length ≤ l.length := by omega
      have e : occI l seq = occF l seq (l.length - seq.length + 1) 0 := by unfold occI; rw [if_pos hl]
      exact (occF_spec l seq (l.length - seq.length + 1) 0 (by omega)).2 (by rw [← e]; omega) j (by omega) (by omega)
    have hr : refAt l seq = l.length - ov l seq := by
      refine refAt_eq (by omega) ((agrees_part (by omega) (by omega)).2 ?_) (fun j hj => ?_)
      · rw [show l.length - (l.length - ov l seq) = ov l seq by omega]
        exact ovF_at l seq _
      · cases hb : agrees l seq j with
        | false => rfl
        | true =>
          by_cases hf : j + seq.length ≤ l.length
          · exact absurd ((agrees_full hf).1 hb) (hno j hf)
          · exact absurd ((agrees_part (by omega) (by omega)).1 hb) (ovF_max l seq (min l.length seq.length) (l.length - j) (by show ov l seq < _; omega) (by omega))
    rw [hr, show l.length - (l.length - ov l seq) = ov l seq by omega, Int.ofNat_sub (by omega)]
theorem refAt_le (l seq : List Int) : refAt l seq ≤ l.length := (atF_spec l seq l.length 0 (by omega)).2.1
theorem placeP_at (l seq : List Int) : 0 ≤ (placeP l seq).2 ∧ (placeP l seq).2 ≤ l.length := by
  rw [placeP_ref]; have := refAt_le l seq; exact ⟨by simp, by simpa using this⟩
theorem placeP_pre (l seq : List Int) : (placeP l seq).1 = l ++ seq.drop (l.length - refAt l seq) := by rw [placeP_ref]
/-- The sequence lies at its place. -/
theorem placeP_cut (l seq : List Int) : (placeP l seq).2 + seq.length ≤ (placeP l seq).1.length ∧ cut (placeP l seq).1 (placeP l seq).2 seq.length = seq := by
  rw [placeP_ref]
  have h1 := refAt_le l seq
  have h3 := (atF_spec l seq l.length 0 (by omega)).2.2.1
  change agrees l seq (refAt l seq) = true at h3
  generalize refAt l seq = a at h1 h3 ⊢
  simp only
  constructor
  · rw [List.length_append, List.length_drop]; omega
  · unfold agrees at h3
    rw [decide_eq_true_eq] at h3
    unfold cut
    simp only [Int.toNat_natCast]
    rw [List.drop_append_of_le_length h1]
    by_cases hc : seq.length ≤ l.length - a
    · rw [Nat.min_eq_left hc, List.take_length] at h3
      rw [List.drop_eq_nil_of_le (show seq.length ≤ l.length - a by omega), List.append_nil]; exact h3
    · rw [Nat.min_eq_right (by omega)] at h3
      have : List.take (l.length - a) (l.drop a) = l.drop a := List.take_of_length_le (by rw [List.length_drop]; omega)
      rw [this] at h3
      rw [h3, List.take_append_drop, List.take_length]
theorem placeP_le (l seq : List Int) : (placeP l seq).1.length ≤ l.length + seq.length := by
  rw [placeP_pre, List.length_append, List.length_drop]; omega
/-- A sequence that lies in the codes needs no more. -/
theorem placeP_in {l seq : List Int} {j : Nat} (h : j + seq.length ≤ l.length) (hc : cut l j seq.length = seq) : (placeP l seq).1 = l := by
  rw [placeP_pre]
  have h1 : refAt l seq ≤ j := by
    apply Nat.le_of_not_lt; intro hlt
    have := (atF_spec l seq l.length 0 (by omega)).2.2.2 j (by omega) hlt
    rw [(agrees_full h).2 hc] at this; cases this
  rw [List.drop_eq_nil_of_le (by omega), List.append_nil]
theorem vAll_of {l0 l1 l2 : List Int} : ∀ {d : Nat} {i : Int}, (∀ j, i ≤ j → j < i + d → vOk l0.length (rd l1 j) (rd l2 j) = true) → vAll l0 l1 l2 d i = true := by
  intro d
  induction d with
  | zero => intro i _; rfl
  | succ d ih =>
    intro i h
    rw [vAll, h i (by omega) (by omega), Bool.true_and]
    exact ih (fun j h1 h2 => h j (by omega) (by omega))
theorem vOk_of {n s m : Int} (h0 : 0 ≤ s) (h1 : 0 ≤ m) (h2 : s + m ≤ n) : vOk n s m = true := by
  simp only [vOk, Bool.and_eq_true, decide_eq_true_eq]
  omega
theorem validB_of {l0 l1 l2 : List Int} (hl : l1.length = l2.length) (h : ∀ j : Int, 0 ≤ j → j < l1.length → 0 ≤ rd l1 j ∧ 0 ≤ rd l2 j ∧ rd l1 j + rd l2 j ≤ l0.length) : validB l0 l1 l2 = true := by
  simp only [validB, Bool.and_eq_true, decide_eq_true_eq]
  exact ⟨hl, vAll_of (fun j h1 h2 => vOk_of (h j h1 (by omega)).1 (h j h1 (by omega)).2.1 (h j h1 (by omega)).2.2)⟩
theorem rd_app_lt {l t : List Int} {i : Int} (h0 : 0 ≤ i) (h : i < l.length) : rd (l ++ t) i = rd l i := by
  rw [rd_eq _ _ h0 (by rw [List.length_append]; omega), rd_eq l i h0 h, List.getElem_append_left]
theorem rd_app_eq {l : List Int} {a : Int} {i : Int} (h : i = l.length) : rd (l ++ [a]) i = a := by
  subst h; unfold rd; simp
theorem rdL_app_lt {l t : List (List Int)} {i : Int} (h0 : 0 ≤ i) (h : i < l.length) : rd_L2 (l ++ t) i = rd_L2 l i := by
  rw [rd_L2_eq _ _ h0 (by rw [List.length_append]; omega), rd_L2_eq l i h0 h, List.getElem_append_left]
theorem rdL_app_eq {l : List (List Int)} {a : List Int} {i : Int} (h : i = l.length) : rd_L2 (l ++ [a]) i = a := by
  subst h; unfold rd_L2; simp
theorem cut_app {l t : List Int} {s m : Int} (h0 : 0 ≤ s) (h1 : 0 ≤ m) (h : s + m ≤ l.length) : cut (l ++ t) s m = cut l s m := by
  unfold cut
  rw [List.drop_append_of_le_length (by omega), List.take_append_of_le_length (by rw [List.length_drop]; omega)]
/-- What adding keeps and brings, for a valid pool. -/
theorem addP_spec {st : Pl} (seq : List Int) (h : validB st.1 st.2.1 st.2.2 = true) :
    validB (addP st seq).1 (addP st seq).2.1 (addP st seq).2.2 = true ∧ (addP st seq).2.1.length = st.2.1.length + 1 ∧ (addP st seq).2.2.length = st.2.1.length + 1 ∧
    (∃ t, (addP st seq).1 = st.1 ++ t ∧ t.length ≤ seq.length) ∧
    (∀ i : Int, 0 ≤ i → i < st.2.1.length → cut (addP st seq).1 (rd (addP st seq).2.1 i) (rd (addP st seq).2.2 i) = cut st.1 (rd st.2.1 i) (rd st.2.2 i)) ∧
    cut (addP st seq).1 (rd (addP st seq).2.1 st.2.1.length) (rd (addP st seq).2.2 st.2.1.length) = seq := by
  obtain ⟨hl, hv⟩ := validB_spec h
  obtain ⟨l0, l1, l2⟩ := st
  simp only at hl hv h ⊢
  unfold addP
  simp only
  have hp := placeP_pre l0 seq
  have hc := placeP_cut l0 seq
  have ha := placeP_at l0 seq
  have hle := placeP_le l0 seq
  refine ⟨validB_of (by simp [hl]) (fun j h0 h1 => ?_), by simp, by simp [hl], ⟨_, hp, by rw [List.length_drop]; omega⟩, fun i h0 h1 => ?_, ?_⟩
  · by_cases hj : j < (l1.length : Int)
    · obtain ⟨q0, q1, q2, q3⟩ := hv j h0 hj
      rw [rd_app_lt h0 hj, rd_app_lt h0 (by omega)]
      refine ⟨q0, q1, ?_⟩
      have : l0.length ≤ (placeP l0 seq).1.length := by rw [hp, List.length_append]; omega
      omega
    · have e : j = (l1.length : Int) := by rw [List.length_append, List.length_singleton] at h1; omega
      rw [rd_app_eq e, rd_app_eq (by omega)]
      exact ⟨ha.1, by omega, hc.1⟩
  · obtain ⟨q0, q1, q2, q3⟩ := hv i h0 h1
    rw [rd_app_lt h0 h1, rd_app_lt h0 (by omega), hp]
    exact cut_app q0 q1 q3
  · rw [rd_app_eq rfl, rd_app_eq (by omega)]; exact hc.2
theorem packP_snoc (l : List (List Int)) (x : List Int) : packP (l ++ [x]) = addP (packP l) x := by unfold packP; rw [List.foldl_append]; rfl
theorem sumL_snoc (l : List (List Int)) (x : List Int) : sumL (l ++ [x]) = sumL l + x.length := by
  induction l with
  | nil => simp [sumL]
  | cons y l ih => simp only [List.cons_append, sumL, ih]; omega
/-- What packing brings. -/
theorem packP_spec (l : List (List Int)) : validB (packP l).1 (packP l).2.1 (packP l).2.2 = true ∧ (packP l).2.1.length = l.length ∧ (packP l).1.length ≤ sumL l ∧
    ∀ i : Int, 0 ≤ i → i < l.length → cut (packP l).1 (rd (packP l).2.1 i) (rd (packP l).2.2 i) = rd_L2 l i := by
  suffices H : ∀ (n : Nat) (l : List (List Int)), l.length = n → validB (packP l).1 (packP l).2.1 (packP l).2.2 = true ∧ (packP l).2.1.length = l.length ∧ (packP l).1.length ≤ sumL l ∧ ∀ i : Int, 0 ≤ i → i < l.length → cut (packP l).1 (rd (packP l).2.1 i) (rd (packP l).2.2 i) = rd_L2 l i from H _ l rfl
  intro n
  induction n with
  | zero =>
    intro l hl
    obtain rfl := List.length_eq_zero_iff.1 hl
    exact ⟨rfl, rfl, Nat.le_refl _, fun i h0 h1 => by simp only [List.length_nil] at h1; omega⟩
  | succ n ih =>
    intro l hl
    obtain ⟨l', x, rfl⟩ : ∃ l' x, l = l' ++ [x] := ⟨l.dropLast, l.getLast (by intro e; subst e; simp at hl), (List.dropLast_concat_getLast _).symm⟩
    obtain ⟨a, b, c, d⟩ := ih l' (by simpa using hl)
    obtain ⟨A, B, C, ⟨t, D, D'⟩, E, F⟩ := addP_spec x a
    rw [packP_snoc]
    refine ⟨A, by rw [B, b]; simp, ?_, fun i h0 h1 => ?_⟩
    · rw [D, sumL_snoc, List.length_append]; omega
    · by_cases hj : i < (l'.length : Int)
      · rw [E i h0 (by omega), d i h0 hj, rdL_app_lt h0 hj]
      · have e : i = (l'.length : Int) := by rw [List.length_append, List.length_singleton] at h1; omega
        rw [rdL_app_eq e, e, ← b]; exact F
theorem AddPure_valid {l0 l1 l2 seq : List Int} (h : validB l0 l1 l2 = true) : AddPure (validB l0 l1 l2) l0 l1 l2 seq = addP (l0, l1, l2) seq := by rw [h]; rfl
/-- Finding, told by its first place. -/
theorem findF_spec (l0 l1 l2 seq : List Int) : ∀ (d : Nat) (i j : Int), i ≤ j → j < i + d → cut l0 (rd l1 j) (rd l2 j) = seq → ∃ k, findF l0 l1 l2 seq d i = (k, true) ∧ i ≤ k ∧ k ≤ j ∧ cut l0 (rd l1 k) (rd l2 k) = seq := by
  intro d
  induction d with
  | zero => intro i j h1 h2; omega
  | succ d ih =>
    intro i j h1 h2 hc
    simp only [findF]
    by_cases e : cut l0 (rd l1 i) (rd l2 i) = seq
    · rw [if_pos e]; exact ⟨i, rfl, Int.le_refl _, h1, e⟩
    · rw [if_neg e]
      have : i ≠ j := fun h => e (h ▸ hc)
      obtain ⟨k, k1, k2, k3, k4⟩ := ih (i + 1) j (by omega) (by omega) hc
      exact ⟨k, k1, by omega, k3, k4⟩
end Go.Proofs.Ytdlijioedokgjaa.Q

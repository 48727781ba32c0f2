/- Plain laws: reading numbers and lists. -/
import Derived.Test.YtdlijioedokgjaaMInts
namespace Go.Proofs.Ytdlijioedokgjaa.Q
open Go.RowKit Go.Proofs.YtdlijioedokgjaaW.PrintWords Go.Proofs.YtdlijioedokgjaaW.PrintLast Go.Proofs.YtdlijioedokgjaaW.PrintMore
set_option linter.unusedVariables false
set_option linter.unusedSimpArgs false

/-- rdn over what is left of the bytes. -/
def rdnL : Nat → Int → Int → List Int → Except Int (Int × List Int)
  | 0, _, u, l => .ok (rdFin u, l)
  | _ + 1, _, _, [] => .error 2
  | n + 1, k, u, b :: l =>
    if (k = 9 ∧ b ≠ 1) ∨ (0 < k ∧ b = 0) then .error 3
    else if b < 128 then .ok (rdFin (rdOr u b k), l) else rdnL n (k + 1) (rdOr u b k) l
def rdElemsL : Nat → List Int → List Int → Except Int (List Int × List Int)
  | 0, l, acc => .ok (acc, l)
  | n + 1, l, acc => match rdnL 10 0 0 l with
    | .error c => .error c
    | .ok p => rdElemsL n p.2 (acc ++ [p.1])
def rdListL (l : List Int) : Except Int (List Int × List Int) :=
  match rdnL 10 0 0 l with
  | .error c => .error c
  | .ok p => if p.1 < 0 ∨ p.1 > p.2.length then .error 1 else rdElemsL p.1.toNat p.2 []

def toPos {α : Type} (s : ByteArray) : Except Int (α × List Int) → Except Int (α × Int)
  | .error c => .error c
  | .ok p => .ok (p.1, (s.size : Int) - p.2.length)
theorem bt_drop (s : ByteArray) (x : Int) (h0 : 0 ≤ x) (h1 : x < s.size) : (bytesOf s).drop x.toNat = bt s x :: (bytesOf s).drop (x + 1).toNat := by
  have := drop_rd (bytesOf s) x h0 (by rw [bytesOf_length]; exact h1)
  rw [this, rd_bytesOf]
theorem rdn_L (s : ByteArray) (n : Nat) : ∀ (k u x : Int), 0 ≤ x → x ≤ s.size → rdn s n k u x = toPos s (rdnL n k u ((bytesOf s).drop x.toNat)) := by
  induction n with
  | zero =>
    intro k u x h0 h1
    simp only [rdn, rdnL, toPos]
    rw [List.length_drop, bytesOf_length]; congr 2; omega
  | succ n ih =>
    intro k u x h0 h1
    rw [rdn]
    by_cases h : x < s.size
    · rw [if_pos h, bt_drop s x h0 h, rdnL]
      split
      · rfl
      · split
        · simp only [toPos]; rw [List.length_drop, bytesOf_length]; congr 2; omega
        · exact ih _ _ _ (by omega) (by omega)
    · rw [if_neg h, List.drop_eq_nil_of_le (by rw [bytesOf_length]; omega), rdnL]; rfl
theorem rdnL_rest (n : Nat) : ∀ (k u : Int) (l : List Int) (v : Int) (r : List Int), rdnL n k u l = .ok (v, r) → ∃ m, l = m ++ r := by
  induction n with
  | zero => intro k u l v r h; simp [rdnL] at h; exact ⟨[], by rw [h.2]; rfl⟩
  | succ n ih =>
    intro k u l v r h
    cases l with
    | nil => simp [rdnL] at h
    | cons b l =>
      rw [rdnL] at h
      split at h
      · simp at h
      · split at h
        · simp at h; exact ⟨[b], by rw [h.2]; rfl⟩
        · obtain ⟨m, hm⟩ := ih _ _ _ _ _ h
          exact ⟨b :: m, by rw [hm]; rfl⟩
theorem drop_of_suffix (s : ByteArray) (x : Nat) (m r : List Int) (h : (bytesOf s).drop x = m ++ r) : (bytesOf s).drop (((s.size : Int) - r.length).toNat) = r ∧ 0 ≤ (s.size : Int) - r.length ∧ (s.size : Int) - r.length ≤ s.size := by
  have hl : ((bytesOf s).drop x).length = m.length + r.length := by rw [h, List.length_append]
  rw [List.length_drop, bytesOf_length] at hl
  refine ⟨?_, by omega, by omega⟩
  by_cases hx : x ≤ s.size
  · rw [show (((s.size : Int) - r.length).toNat) = x + m.length by omega, ← List.drop_drop, h, List.drop_left]
  · have : r = [] := List.eq_nil_of_length_eq_zero (by omega)
    subst this
    rw [List.drop_eq_nil_of_le (by rw [bytesOf_length]; simp)]
theorem rdElems_L (s : ByteArray) (n : Nat) : ∀ (x : Int) (acc : List Int), 0 ≤ x → x ≤ s.size → rdElems s n x acc = toPos s (rdElemsL n ((bytesOf s).drop x.toNat) acc) := by
  induction n with
  | zero =>
    intro x acc h0 h1
    simp only [rdElems, rdElemsL, toPos]
    rw [List.length_drop, bytesOf_length]; congr 2; omega
  | succ n ih =>
    intro x acc h0 h1
    rw [rdElems, rdElemsL, rdn_L s 10 0 0 x h0 h1]
    cases h : rdnL 10 0 0 ((bytesOf s).drop x.toNat) with
    | error c => rfl
    | ok p =>
      obtain ⟨v, r⟩ := p
      obtain ⟨m, hm⟩ := rdnL_rest _ _ _ _ _ _ h
      obtain ⟨e1, e2, e3⟩ := drop_of_suffix s _ m r hm
      simp only [toPos]
      rw [ih _ _ e2 e3, e1]; rfl
theorem rdList_L (s : ByteArray) (x : Int) (h0 : 0 ≤ x) (h1 : x ≤ s.size) : rdList s x = toPos s (rdListL ((bytesOf s).drop x.toNat)) := by
  rw [rdList, rdListL, rdn_L s 10 0 0 x h0 h1]
  cases h : rdnL 10 0 0 ((bytesOf s).drop x.toNat) with
  | error c => rfl
  | ok p =>
    obtain ⟨v, r⟩ := p
    obtain ⟨m, hm⟩ := rdnL_rest _ _ _ _ _ _ h
    obtain ⟨e1, e2, e3⟩ := drop_of_suffix s _ m r hm
    simp only [toPos]
    have e : ((s.size : Int) - ((s.size : Int) - r.length)) = r.length := by omega
    rw [e]
    by_cases hc : v < 0 ∨ v > r.length
    · rw [if_pos hc, if_pos hc]
    · rw [if_neg hc, if_neg hc, rdElems_L s _ _ _ e2 e3, e1]; rfl

/-! ### what is written is read -/
theorem pow_succ7 (k : Nat) : (2 : Int) ^ (7 * (k + 1)) = 2 ^ (7 * k) * 128 := by rw [show 7 * (k + 1) = 7 * k + 7 by omega, Int.pow_add]; rfl

/-- One group: the sum goes on. -/
theorem group_step {u v : Int} {k : Nat} (hk : k ≤ 9) (hu0 : 0 ≤ u) (hu : u < 2 ^ (7 * k)) (hv0 : 0 ≤ v) (hv : u + v * 2 ^ (7 * k) < 18446744073709551616) (b : Int) (hb0 : 0 ≤ b) (hb : b < 256) (hbv : b % 128 = v % 128) :
    rdOr u b (k : Int) = u + v % 128 * 2 ^ (7 * k) ∧ u + v % 128 * 2 ^ (7 * k) + v / 128 * 2 ^ (7 * (k + 1)) = u + v * 2 ^ (7 * k) ∧ u + v % 128 * 2 ^ (7 * k) < 2 ^ (7 * (k + 1)) ∧ 0 ≤ u + v % 128 * 2 ^ (7 * k) := by
  obtain ⟨hp, hp2⟩ := pow7_le k hk
  rw [pow_succ7]
  have hm0 : 0 ≤ v % 128 * 2 ^ (7 * k) := Int.mul_nonneg (by omega) (by omega)
  have hle : v % 128 * 2 ^ (7 * k) ≤ v * 2 ^ (7 * k) := Int.mul_le_mul_of_nonneg_right (by omega) (by omega)
  have hle2 : v % 128 * 2 ^ (7 * k) ≤ 127 * 2 ^ (7 * k) := Int.mul_le_mul_of_nonneg_right (by omega) (by omega)
  have e : v / 128 * (2 ^ (7 * k) * 128) = v * 2 ^ (7 * k) - v % 128 * 2 ^ (7 * k) := by
    have h1 : v / 128 * (2 ^ (7 * k) * 128) = (v / 128 * 128) * 2 ^ (7 * k) := by rw [Int.mul_comm (2 ^ (7 * k)) 128, Int.mul_assoc]
    have h2 : v / 128 * 128 = v - v % 128 := by omega
    rw [h1, h2, Int.sub_mul]
  refine ⟨?_, by omega, by omega, by omega⟩
  rw [rdOr_eq u b k hk hu0 hu hb0 hb (by rw [hbv]; omega), hbv]

theorem rdnL_vb (n : Nat) : ∀ (k : Nat) (u v : Int) (rest : List Int), k + n = 9 → 0 ≤ u → u < 2 ^ (7 * k) → 0 ≤ v → u + v * 2 ^ (7 * k) < 18446744073709551616 → (k = 0 ∨ 0 < v) → rdnL (n + 1) k u (vb n v ++ rest) = .ok (rdFin (u + v * 2 ^ (7 * k)), rest) := by
  have h63 : (2 : Int) ^ (7 * 9) = 9223372036854775808 := by decide
  induction n with
  | zero =>
    intro k u v rest hk hu0 hu hv0 hv hkv
    obtain rfl : k = 9 := by omega
    rw [h63] at hv
    have hv1 : v = 1 := by omega
    subst hv1
    obtain ⟨e1, e2, e3, e4⟩ := group_step (k := 9) (by omega) hu0 hu (v := 1) (by omega) (by rw [h63]; exact hv) 1 (by omega) (by omega) rfl
    simp only [vb, List.cons_append, List.nil_append, rdnL]
    rw [if_neg (by omega), if_pos (by omega)]
    have e5 : rdOr u 1 9 = u + 1 * 2 ^ (7 * 9) := by exact_mod_cast e1
    rw [show ((9 : Nat) : Int) = 9 from rfl, e5]
  | succ n ih =>
    intro k u v rest hk hu0 hu hv0 hv hkv
    by_cases h : v ≥ 128
    · obtain ⟨e1, e2, e3, e4⟩ := group_step (by omega) hu0 hu hv0 hv (v % 128 + 128) (by omega) (by omega) (by omega)
      rw [vb, if_pos h, List.cons_append, rdnL, if_neg (by omega), if_neg (by omega), e1]
      have := ih (k + 1) (u + v % 128 * 2 ^ (7 * k)) (v / 128) rest (by omega) e4 e3 (by omega) (by rw [e2]; exact hv) (by omega)
      rw [e2] at this
      rw [← this]; rfl
    · obtain ⟨e1, e2, e3, e4⟩ := group_step (by omega) hu0 hu hv0 hv v (by omega) (by omega) rfl
      rw [vb, if_neg h, List.cons_append, List.nil_append, rdnL, if_neg (by omega), if_pos (by omega), e1, show v % 128 = v by omega]
theorem rdnL_numB {n : Int} (h : i64ok n) (rest : List Int) : rdnL 10 0 0 (numB n ++ rest) = .ok (n, rest) := by
  obtain ⟨h1, h2⟩ := zz_range h
  have := rdnL_vb 9 0 0 (zz n) rest (by omega) (by omega) (by decide) h1 (by simpa using h2) (.inl rfl)
  simp only [Nat.mul_zero, Int.pow_zero, Int.mul_one, Int.zero_add, rdFin_zz h] at this
  exact this
theorem rdElemsL_numsB {l : List Int} (h : okInts l) (rest : List Int) : ∀ acc, rdElemsL l.length (numsB l ++ rest) acc = .ok (acc ++ l, rest) := by
  induction l with
  | nil => intro acc; simp [rdElemsL, numsB]
  | cons x l ih =>
    intro acc
    rw [List.length_cons, rdElemsL, numsB_cons, List.append_assoc, rdnL_numB (h x (by simp))]
    simp only
    rw [ih (fun y hy => h y (by simp [hy]))]; simp
theorem numsB_length_ge (l : List Int) : l.length ≤ (numsB l).length := by
  induction l with
  | nil => simp
  | cons x l ih => rw [numsB_cons, List.length_append, List.length_cons]; have := numB_length_pos x; omega
theorem rdListL_intsB {l : List Int} (h : okInts l) (hl : l.length ≤ 9223372036854775807) (rest : List Int) : rdListL (intsB l ++ rest) = .ok (l, rest) := by
  rw [rdListL, intsB, List.append_assoc, rdnL_numB ⟨by omega, by omega⟩]
  simp only
  have := numsB_length_ge l
  rw [if_neg (by rw [List.length_append]; omega), Int.toNat_natCast, rdElemsL_numsB h]; rfl
/-! ### a part is too short -/
/-! ### what is read is the one form -/
theorem rdnL_form (n : Nat) : ∀ (k : Nat) (u : Int) (l : List Int) (x : Int) (rest : List Int), k + n = 9 → 0 ≤ u → u < 2 ^ (7 * k) → (∀ b ∈ l, 0 ≤ b ∧ b < 256) → rdnL (n + 1) k u l = .ok (x, rest) →
    ∃ v, 0 ≤ v ∧ u + v * 2 ^ (7 * k) < 18446744073709551616 ∧ (k = 0 ∨ 0 < v) ∧ l = vb n v ++ rest ∧ x = rdFin (u + v * 2 ^ (7 * k)) := by
  have h63 : (2 : Int) ^ (7 * 9) = 9223372036854775808 := by decide
  induction n with
  | zero =>
    intro k u l x rest hk hu0 hu hb h
    obtain rfl : k = 9 := by omega
    cases l with
    | nil => simp [rdnL] at h
    | cons b l =>
      rw [rdnL] at h
      split at h
      · simp at h
      · rename_i hc
        have hb1 : b = 1 := by omega
        subst hb1
        rw [if_pos (by omega)] at h
        simp at h
        obtain ⟨h1, rfl⟩ := h
        rw [h63] at hu
        obtain ⟨e1, e2, e3, e4⟩ := group_step (k := 9) (u := u) (by omega) hu0 (by rw [h63]; exact hu) (v := 1) (by omega) (by rw [h63]; omega) 1 (by omega) (by omega) rfl
        refine ⟨1, by omega, by rw [h63]; omega, .inr (by omega), rfl, ?_⟩
        have e5 : rdOr u 1 9 = u + 1 * 2 ^ (7 * 9) := by exact_mod_cast e1
        rw [← h1, e5]
  | succ n ih =>
    intro k u l x rest hk hu0 hu hb h
    have hk8 : k ≤ 8 := by omega
    have hp8 : (2 : Int) ^ (7 * k) * 128 ≤ 9223372036854775808 := by rw [← pow_succ7]; exact (pow7_le (k + 1) (by omega)).2
    have hp0 := (pow7_le k (by omega)).1
    cases l with
    | nil => simp [rdnL] at h
    | cons b l =>
      obtain ⟨hb0, hb1⟩ := hb b (by simp)
      rw [rdnL] at h
      split at h
      · simp at h
      · rename_i hc
        have hm0 : 0 ≤ b % 128 * 2 ^ (7 * k) := Int.mul_nonneg (by omega) (by omega)
        have hm1 : b % 128 * 2 ^ (7 * k) ≤ 127 * 2 ^ (7 * k) := Int.mul_le_mul_of_nonneg_right (by omega) (by omega)
        have e1 := rdOr_eq u b k (by omega) hu0 hu hb0 hb1 (by omega)
        split at h
        · rename_i h128
          simp at h
          obtain ⟨h1, rfl⟩ := h
          have eb : b % 128 = b := by omega
          rw [eb] at e1 hm0 hm1
          exact ⟨b, hb0, by omega, by omega, by rw [vb, if_neg (by omega)]; rfl, by rw [← h1, e1]⟩
        · rename_i h128
          rw [e1] at h
          have h' : rdnL (n + 1) ((k + 1 : Nat) : Int) (u + b % 128 * 2 ^ (7 * k)) l = .ok (x, rest) := by rw [← h]; rfl
          obtain ⟨v, hv0, hv1, hv2, hl, hx⟩ := ih (k + 1) _ l x rest (by omega) (by omega) (by rw [pow_succ7]; omega) (fun c hc => hb c (by simp [hc])) h'
          rw [pow_succ7] at hv1 hx
          have ev : v * (2 ^ (7 * k) * 128) = (v * 128) * 2 ^ (7 * k) := by rw [Int.mul_comm (2 ^ (7 * k)) 128, Int.mul_assoc]
          have es : (v * 128 + b % 128) * 2 ^ (7 * k) = (v * 128) * 2 ^ (7 * k) + b % 128 * 2 ^ (7 * k) := Int.add_mul _ _ _
          refine ⟨v * 128 + b % 128, by omega, by rw [es]; omega, .inr (by omega), ?_, ?_⟩
          · rw [vb, if_pos (by omega), show (v * 128 + b % 128) % 128 + 128 = b by omega, show (v * 128 + b % 128) / 128 = v by omega, hl]; rfl
          · rw [hx, es]; congr 1; omega
theorem rdnL_canon {l : List Int} {x : Int} {rest : List Int} (hb : ∀ b ∈ l, 0 ≤ b ∧ b < 256) (h : rdnL 10 0 0 l = .ok (x, rest)) : i64ok x ∧ l = numB x ++ rest := by
  obtain ⟨v, hv0, hv1, _, hl, hx⟩ := rdnL_form 9 0 0 l x rest (by omega) (by omega) (by decide) hb h
  simp only [Nat.mul_zero, Int.pow_zero, Int.mul_one, Int.zero_add] at hv1 hx
  obtain ⟨hz, hi⟩ := zz_rdFin v hv0 hv1
  rw [hx]
  exact ⟨hi, by rw [numB, hz]; exact hl⟩
theorem rdElemsL_canon (n : Nat) : ∀ {l acc out rest : List Int}, (∀ b ∈ l, 0 ≤ b ∧ b < 256) → rdElemsL n l acc = .ok (out, rest) → ∃ xs, out = acc ++ xs ∧ okInts xs ∧ xs.length = n ∧ l = numsB xs ++ rest := by
  induction n with
  | zero => intro l acc out rest hb h; simp [rdElemsL] at h; exact ⟨[], by simp [h.1], fun x hx => by simp at hx, rfl, by simp [numsB, h.2]⟩
  | succ n ih =>
    intro l acc out rest hb h
    rw [rdElemsL] at h
    cases hr : rdnL 10 0 0 l with
    | error c => rw [hr] at h; simp at h
    | ok p =>
      obtain ⟨x, r⟩ := p
      rw [hr] at h
      obtain ⟨hi, hl⟩ := rdnL_canon hb hr
      obtain ⟨xs, h1, h2, h3, h4⟩ := ih (fun b hb' => hb b (by rw [hl]; simp [hb'])) h
      refine ⟨x :: xs, by rw [h1]; simp, ?_, by simp [h3], by dsimp only at h4; rw [hl, h4, numsB_cons]; simp⟩
      intro y hy
      rcases List.mem_cons.1 hy with rfl | hy
      · exact hi
      · exact h2 y hy
theorem rdListL_canon {l xs rest : List Int} (hb : ∀ b ∈ l, 0 ≤ b ∧ b < 256) (h : rdListL l = .ok (xs, rest)) : okInts xs ∧ l = intsB xs ++ rest := by
  rw [rdListL] at h
  cases hr : rdnL 10 0 0 l with
  | error c => rw [hr] at h; simp at h
  | ok p =>
    obtain ⟨x, r⟩ := p
    rw [hr] at h
    obtain ⟨hi, hl⟩ := rdnL_canon hb hr
    simp only at h
    split at h
    · simp at h
    · rename_i hc
      obtain ⟨ys, h1, h2, h3, h4⟩ := rdElemsL_canon x.toNat (fun b hb' => hb b (by rw [hl]; simp [hb'])) h
      simp at h1
      subst h1
      refine ⟨h2, ?_⟩
      rw [hl, h4, intsB, show (xs.length : Int) = x by omega]; simp
end Go.Proofs.Ytdlijioedokgjaa.Q

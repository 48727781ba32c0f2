/- ref15.read and ref15.ReadInts, plainly: what the program's reader answers. -/
import Derived.Test.YtdlijioedokgjaaMRead
import Derived.Test.YtdlijioedokgjaaQRRead
namespace Go.Proofs.Ytdlijioedokgjaa.Q
open Go.RowKit Go.Proofs.YtdlijioedokgjaaW.PrintWords Go.Proofs.YtdlijioedokgjaaW.PrintLast Go.Proofs.YtdlijioedokgjaaW.PrintMore
set_option linter.unusedVariables false
set_option linter.unusedSimpArgs false

theorem wu64 {x : Int} (h0 : 0 ≤ x) (h1 : x < 18446744073709551616) : IntKind.u64.wrap x = x := by
  simp [IntKind.wrap, IntKind.bits, IntKind.signed]; omega
theorem ww64 {x : Int} (h : -9223372036854775808 ≤ x) (h2 : x ≤ 9223372036854775807) : wrap64 x = x := by unfold wrap64; omega
theorem step_fit {u b : Int} {k : Nat} (hk : k ≤ 9) (hu0 : 0 ≤ u) (hu : u < 2 ^ (7 * k)) (hb0 : 0 ≤ b) (hb : b < 256) (h9 : k = 9 → b = 1) :
    rdOr u b (k : Int) = u + b % 128 * 2 ^ (7 * k) ∧ 0 ≤ b % 128 * 2 ^ (7 * k) ∧ u + b % 128 * 2 ^ (7 * k) < 18446744073709551616 ∧ (k < 9 → u + b % 128 * 2 ^ (7 * k) < 2 ^ (7 * (k + 1))) := by
  obtain ⟨hp, hp2⟩ := pow7_le k hk
  have hm0 : 0 ≤ b % 128 * 2 ^ (7 * k) := Int.mul_nonneg (by omega) (by omega)
  have hle2 : b % 128 * 2 ^ (7 * k) ≤ 127 * 2 ^ (7 * k) := Int.mul_le_mul_of_nonneg_right (by omega) (by omega)
  by_cases h : k = 9
  · have hb1 := h9 h
    subst hb1 h
    have h63 : (2 : Int) ^ (7 * 9) = 9223372036854775808 := by decide
    rw [h63] at hu hp hp2 hm0 hle2
    obtain ⟨e1, e2, e3, e4⟩ := group_step (k := 9) (u := u) (by omega) hu0 (by rw [h63]; exact hu) (v := 1) (by omega) (by rw [h63]; omega) 1 (by omega) (by omega) rfl
    refine ⟨e1, by rw [h63]; omega, by rw [h63]; omega, fun h => by omega⟩
  · have hp3 := (pow7_le (k + 1) (by omega)).2
    have hfit : b % 128 * 2 ^ (7 * k) < 18446744073709551616 := by rw [pow_succ7] at hp3; omega
    refine ⟨rdOr_eq u b k hk hu0 hu hb0 hb hfit, hm0, ?_, fun _ => ?_⟩
    · rw [pow_succ7] at hp3; omega
    · rw [pow_succ7]; omega
theorem rdnL_err (n : Nat) : ∀ (k u : Int) (l : List Int) (c : Int), rdnL n k u l = .error c → c = 2 ∨ c = 3 := by
  induction n with
  | zero => intro k u l c h; simp [rdnL] at h
  | succ n ih =>
    intro k u l c h
    cases l with
    | nil => simp [rdnL] at h; omega
    | cons b l =>
      rw [rdnL] at h
      split at h
      · injection h with h; omega
      · split at h
        · cases h
        · exact ih _ _ _ _ h
def rdOut (n : Int) : Except Int (Int × List Int) → Int × Int × Int
  | .error c => (0, 0, c)
  | .ok p => (p.1, n - p.2.length, 0)
theorem bt_range (s : ByteArray) (x : Int) (h0 : 0 ≤ x) (h1 : x < s.size) : 0 ≤ bt s x ∧ bt s x < 256 := by
  rw [← rd_bytesOf]
  exact bytesOf_range s _ (rd_mem _ _ h0 (by rw [bytesOf_length]; exact h1))
theorem RefRead_step (s : ByteArray) (hs : s.size ≤ 9000000000000000000) (n k : Nat) (u : Int) (hk : k + n = 9) (hu0 : 0 ≤ u) (hu : u < 2 ^ (7 * k)) (hks : k ≤ s.size)
    (next : k < 9 → ∀ u' : Int, 0 ≤ u' → u' < 2 ^ (7 * (k + 1)) → k + 1 ≤ s.size → EvR (fun K => unicodetextref15_read.l0 K s u' (2 ^ (7 * (k + 1))) ((k + 1 : Nat) : Int)) (rdOut s.size (rdnL n ((k + 1 : Nat) : Int) u' ((bytesOf s).drop (k + 1))))) :
    EvR (fun K => unicodetextref15_read.l0 K s u (2 ^ (7 * k)) (k : Int)) (rdOut s.size (rdnL (n + 1) k u ((bytesOf s).drop k))) := by
  refine EvR.succ ?_
  simp only [unicodetextref15_read.l0]
  refine EvR.pos (by omega) ?_
  by_cases he : k = s.size
  · refine EvR.pos (by omega) ((EvR.const _).cast ?_)
    rw [List.drop_eq_nil_of_le (by rw [bytesOf_length]; omega), rdnL]; rfl
  · have hd := bt_drop s (k : Int) (by omega) (by omega)
    rw [Int.toNat_natCast, show ((k : Int) + 1).toNat = k + 1 by omega] at hd
    rw [hd]
    obtain ⟨b0, b1⟩ := bt_range s (k : Int) (by omega) (by omega)
    generalize bt s (k : Int) = b at b0 b1
    refine EvR.neg (by omega) (EvR.pos (by omega) (EvR.pos (by omega) ?_))
    rw [wu64 (x := b) b0 (by omega)]
    have hj : ∀ t : Bool, t = decide ((k : Int) = 9 ∧ b ≠ 1) → EvR (fun K => unicodetextref15_read.j1 K s u (2 ^ (7 * k)) (k : Int) b t) (rdOut s.size (rdnL (n + 1) k u (b :: (bytesOf s).drop (k + 1)))) := by
      intro t ht
      refine EvR.succ ?_
      simp only [unicodetextref15_read.j1]
      rw [rdnL]
      by_cases hbad : (k : Int) = 9 ∧ b ≠ 1
      · rw [ht, decide_eq_true hbad, if_pos (.inl hbad)]
        exact EvR.pos rfl (EvR.const _)
      · rw [ht, decide_eq_false hbad]
        refine EvR.neg (by simp) ?_
        obtain ⟨f1, f2, f3, f4⟩ := step_fit (k := k) (b := b) (by omega) hu0 hu b0 b1 (fun h => by omega)
        obtain ⟨hp, hp2⟩ := pow7_le k (by omega)
        have hm : Int.tmod b 128 = b % 128 := Int.tmod_eq_emod_of_nonneg b0
        rw [hm, wu64 (x := b % 128 * 2 ^ (7 * k)) f2 (by omega), wu64 (x := u + b % 128 * 2 ^ (7 * k)) (by omega) f3, f1]
        generalize hU : u + b % 128 * 2 ^ (7 * k) = U at f3 f4
        have hU0 : 0 ≤ U := by omega
        by_cases hb : b ≥ 128
        · refine EvR.pos hb ?_
          rw [if_neg (by omega), if_neg (by omega)]
          have h9 : k < 9 := by omega
          have hq := (pow7_le (k + 1) (by omega)).2
          rw [pow_succ7] at hq
          rw [wu64 (x := 2 ^ (7 * k) * 128) (by omega) (by omega), ← pow_succ7, ww64 (x := (k : Int) + 1) (by omega) (by omega)]
          exact next h9 U hU0 (f4 h9) (by omega)
        · refine EvR.neg hb ?_
          have hfin : ∀ t : Bool, t = decide (0 < (k : Int) ∧ b = 0) → EvR (fun K => unicodetextref15_read.j2 K U (k : Int) t) (rdOut s.size (if (k : Int) = 9 ∧ b ≠ 1 ∨ 0 < (k : Int) ∧ b = 0 then .error 3 else if b < 128 then .ok (rdFin U, (bytesOf s).drop (k + 1)) else rdnL n ((k : Int) + 1) U ((bytesOf s).drop (k + 1)))) := by
            intro t ht
            refine EvR.succ ?_
            simp only [unicodetextref15_read.j2]
            by_cases hz : 0 < (k : Int) ∧ b = 0
            · rw [ht, decide_eq_true hz]
              refine EvR.pos rfl ((EvR.const _).cast ?_)
              rw [if_pos (.inr hz)]; rfl
            · rw [ht, decide_eq_false hz]
              have hQ : (if (k : Int) = 9 ∧ b ≠ 1 ∨ 0 < (k : Int) ∧ b = 0 then Except.error 3 else if b < 128 then Except.ok (rdFin U, (bytesOf s).drop (k + 1)) else rdnL n ((k : Int) + 1) U ((bytesOf s).drop (k + 1))) = Except.ok (rdFin U, (bytesOf s).drop (k + 1)) := by
                rw [if_neg (fun h => h.elim hbad hz), if_pos (by omega)]
              rw [hQ]
              refine EvR.neg (by simp) ?_
              have e2 : Int.tmod U 2 = U % 2 := Int.tmod_eq_emod_of_nonneg hU0
              have e3 : Int.tdiv U 2 = U / 2 := Int.tdiv_eq_ediv_of_nonneg hU0
              rw [e2, e3, wu64 (x := U / 2) (by omega) (by omega), ww64 (x := U / 2) (by omega) (by omega), ww64 (x := -(U / 2)) (by omega) (by omega), ww64 (x := -(U / 2) - 1) (by omega) (by omega), ww64 (x := (k : Int) + 1) (by omega) (by omega)]
              have hpos : (s.size : Int) - (((bytesOf s).drop (k + 1)).length : Int) = (k : Int) + 1 := by rw [List.length_drop, bytesOf_length]; omega
              simp only [rdOut, hpos]
              rw [rdFin_eq U hU0 f3]
              by_cases ho : U % 2 = 1
              · exact EvR.pos ho ((EvR.const _).cast (by rw [if_pos ho]))
              · exact EvR.neg ho ((EvR.const _).cast (by rw [if_neg ho]))
          by_cases hb0 : b = 0
          · refine EvR.pos hb0 (hfin _ ?_)
            simp [hb0]
          · refine EvR.neg hb0 (hfin _ ?_)
            simp [hb0]
    by_cases h9 : (k : Int) = 9
    · refine EvR.pos h9 (hj _ ?_)
      by_cases hb : b = 1 <;> simp [h9, hb]
    · refine EvR.neg h9 (hj _ ?_)
      simp [h9]
theorem RefRead_l0 (s : ByteArray) (hs : s.size ≤ 9000000000000000000) : ∀ (n k : Nat) (u : Int), k + n = 9 → 0 ≤ u → u < 2 ^ (7 * k) → k ≤ s.size →
    EvR (fun K => unicodetextref15_read.l0 K s u (2 ^ (7 * k)) (k : Int)) (rdOut s.size (rdnL (n + 1) k u ((bytesOf s).drop k))) := by
  intro n
  induction n with
  | zero => exact fun k u hk hu0 hu hks => RefRead_step s hs 0 k u hk hu0 hu hks (fun h => by omega)
  | succ n ih => exact fun k u hk hu0 hu hks => RefRead_step s hs (n + 1) k u hk hu0 hu hks (fun h u' h0 h1 h2 => ih (k + 1) u' (by omega) h0 h1 h2)
theorem RefRead_ev (s : ByteArray) (hs : s.size ≤ 9000000000000000000) : EvR (fun K => unicodetextref15_read.f K s) (rdOut s.size (rdnL 10 0 0 (bytesOf s))) := by
  have h := RefRead_l0 s hs 9 0 0 rfl (by omega) (by decide) (Nat.zero_le _)
  exact h
def rlOut (n : Int) : Except Int (List Int × List Int) → List Int × Int × Int
  | .error c => ([], 0, c)
  | .ok p => (p.1, n - p.2.length, 0)
theorem rdnL_le {l : List Int} {v : Int} {r : List Int} (h : rdnL 10 0 0 l = .ok (v, r)) : r.length ≤ l.length := by
  obtain ⟨m, hm⟩ := rdnL_rest 10 0 0 l v r h
  rw [hm, List.length_append]; omega
theorem RefReadInts_l0 (s : ByteArray) (hs : s.size ≤ 1099511627776) (n : Int) (hn : n ≤ 1099511627776) : ∀ (d : Nat) (at_ i : Int) (acc : List Int), 0 ≤ at_ → at_ ≤ s.size → 0 ≤ i → i + d = n → (acc.length : Int) = i →
    EvR (fun K => unicodetextref15_ReadInts.l0 K s n at_ acc i) (rlOut s.size (rdElemsL d ((bytesOf s).drop at_.toNat) acc)) := by
  intro d
  induction d with
  | zero =>
    intro at_ i acc h0 h1 hi he ha
    refine EvR.succ ?_
    simp only [unicodetextref15_ReadInts.l0]
    refine EvR.neg (by omega) ((EvR.const _).cast ?_)
    simp only [rdElemsL, rlOut, List.length_drop, bytesOf_length]
    congr 2; omega
  | succ d ih =>
    intro at_ i acc h0 h1 hi he ha
    refine EvR.succ ?_
    simp only [unicodetextref15_ReadInts.l0]
    have hz : (s.extract at_.toNat s.size).size = s.size - at_.toNat := by simp
    have hb : bytesOf (s.extract at_.toNat s.size) = (bytesOf s).drop at_.toNat := by
      rw [bytesOf_extract, List.take_of_length_le (by rw [bytesOf_length]; omega)]
    have hR := RefRead_ev (s.extract at_.toNat s.size) (by omega)
    rw [hb, hz] at hR
    refine EvR.pos (by omega) (EvR.pos h0 (EvR.pos h1 (EvR.bind hR ?_)))
    rw [rdElemsL]
    have hlen : ((bytesOf s).drop at_.toNat).length = s.size - at_.toNat := by rw [List.length_drop, bytesOf_length]
    cases hr : rdnL 10 0 0 ((bytesOf s).drop at_.toNat) with
    | error c =>
      have hc := rdnL_err _ _ _ _ _ hr
      exact EvR.neg (by simp only [rdOut]; omega) (EvR.const _)
    | ok q =>
      obtain ⟨v, r⟩ := q
      have hle := rdnL_le hr
      obtain ⟨m, hm⟩ := rdnL_rest 10 0 0 _ _ _ hr
      obtain ⟨g1, g2, g3⟩ := drop_of_suffix s at_.toNat m r hm
      simp only [rdOut]
      refine EvR.pos (by simp) (EvR.pos (by omega) ?_)
      rw [ww64 (x := at_ + (((s.size - at_.toNat : Nat) : Int) - (r.length : Int))) (by omega) (by omega), ww64 (x := i + 1) (by omega) (by omega)]
      have hpos : at_ + (((s.size - at_.toNat : Nat) : Int) - (r.length : Int)) = (s.size : Int) - r.length := by omega
      rw [hpos]
      have := ih ((s.size : Int) - r.length) (i + 1) (acc ++ [v]) g2 g3 (by omega) (by omega) (by rw [List.length_append, List.length_singleton]; omega)
      rw [g1] at this
      exact this
theorem RefReadInts_ev (s : ByteArray) (hs : s.size ≤ 1099511627776) : EvR (fun K => unicodetextref15_ReadInts.f K s) (rlOut s.size (rdListL (bytesOf s))) := by
  unfold unicodetextref15_ReadInts.f
  refine EvR.bind (RefRead_ev s (by omega)) ?_
  rw [rdListL]
  cases hr : rdnL 10 0 0 (bytesOf s) with
  | error c =>
    have hc := rdnL_err _ _ _ _ _ hr
    exact EvR.neg (by simp only [rdOut]; omega) (EvR.const _)
  | ok q =>
    obtain ⟨v, r⟩ := q
    obtain ⟨m, hm⟩ := rdnL_rest 10 0 0 _ _ _ hr
    obtain ⟨g1, g2, g3⟩ := drop_of_suffix s 0 m r (by rw [List.drop_zero]; exact hm)
    simp only [rdOut]
    refine EvR.pos (by simp) ?_
    have jt : EvR (fun K => unicodetextref15_ReadInts.j0 K s v ((s.size : Int) - r.length) true) ([], 0, 1) := by
      refine EvR.succ ?_
      simp only [unicodetextref15_ReadInts.j0]
      exact EvR.pos (by simp) (EvR.const _)
    by_cases h0 : v < 0
    · rw [if_pos (.inl h0)]
      exact EvR.pos h0 jt
    · refine EvR.neg h0 ?_
      have e : wrap64 ((s.size : Int) - ((s.size : Int) - r.length)) = r.length := by rw [ww64 (by omega) (by omega)]; omega
      have hj : ∀ t : Bool, t = decide (v > (r.length : Int)) → EvR (fun K => unicodetextref15_ReadInts.j0 K s v ((s.size : Int) - r.length) t) (rlOut s.size (if v < 0 ∨ v > (r.length : Int) then Except.error 1 else rdElemsL v.toNat r [])) := by
        intro t ht
        by_cases h1 : v > (r.length : Int)
        · rw [if_pos (.inr h1), ht, decide_eq_true h1]; exact jt
        · rw [if_neg (fun h => h.elim h0 h1), ht, decide_eq_false h1]
          refine EvR.succ ?_
          simp only [unicodetextref15_ReadInts.j0]
          refine EvR.neg (by simp) ?_
          have := RefReadInts_l0 s hs v (by omega) v.toNat ((s.size : Int) - r.length) 0 [] g2 g3 (by omega) (by omega) rfl
          rw [g1] at this
          exact this
      exact hj _ (decide_eq_decide.2 (by rw [e]))
end Go.Proofs.Ytdlijioedokgjaa.Q

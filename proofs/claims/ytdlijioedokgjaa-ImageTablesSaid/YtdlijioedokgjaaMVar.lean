/- Plain laws: the groups of seven bits of a number, written and read; no program but the printed functions. -/
import Derived.Test.YtdlijioedokgjaaHReadInts
import Derived.Test.YtdlijioedokgjaaQInts
import Derived.Test.YtdlijioedokgjaaQRInts
namespace Go.Proofs.Ytdlijioedokgjaa.Q
open Go.RowKit Go.Proofs.YtdlijioedokgjaaW.PrintWords Go.Proofs.YtdlijioedokgjaaW.PrintLast Go.Proofs.YtdlijioedokgjaaW.PrintMore
set_option linter.unusedVariables false
set_option linter.unusedSimpArgs false

/-! ### bits -/
theorem wraps_u64 (n : Int) (h0 : 0 ≤ n) (h1 : n < 18446744073709551616) : IntKind.u64.wrap n = n := by rw [IntKind.wrap_u64]; omega
theorem two64 : (2 : Int) ^ 64 = 18446744073709551616 := by decide
theorem two8 : (2 : Int) ^ 8 = 256 := by decide
theorem wraps_u64' (n : Int) (h0 : 0 ≤ n) (h1 : n < 2 ^ 64) : IntKind.u64.wrap n = n := wraps_u64 n h0 (by rw [two64] at h1; exact h1)
theorem or128 (b : Int) (h0 : 0 ≤ b) (h1 : b < 256) : bits .or .u8 b 128 = b % 128 + 128 := by
  have key : ∀ a : Fin 256, bits .or .u8 ((a.val : Nat) : Int) 128 = ((a.val % 128 + 128 : Nat) : Int) := by decide +kernel
  have h : bits .or .u8 ((b.toNat : Nat) : Int) 128 = ((b.toNat % 128 + 128 : Nat) : Int) := key ⟨b.toNat, by omega⟩
  have hc : ((b.toNat : Nat) : Int) = b := by omega
  rw [hc] at h
  rw [h]; omega
theorem and127 (b : Int) (h0 : 0 ≤ b) (h1 : b < 256) : bits .and .u8 b 127 = b % 128 := bits_mask .u8 8 (by decide) wraps_u8 7 (by decide) b h0 (by rw [two8]; exact h1)
theorem and1 (u : Int) (h0 : 0 ≤ u) (h1 : u < 18446744073709551616) : bits .and .u64 u 1 = u % 2 := bits_mask .u64 64 (by decide) wraps_u64' 1 (by decide) u h0 (by rw [two64]; exact h1)
theorem xor0_u64 (x : Int) (h0 : 0 ≤ x) (h1 : x < 18446744073709551616) : bits .xor .u64 x 0 = x := by
  obtain ⟨a, rfl⟩ := Int.eq_ofNat_of_zero_le h0
  simp only [bits, BitVec.ofInt_natCast]
  rw [show BitVec.ofInt IntKind.u64.bits 0 = 0#_ from rfl, BitVec.xor_zero, BitVec.toNat_ofNat]
  rw [show (2 : Nat) ^ IntKind.u64.bits = 18446744073709551616 from rfl, Nat.mod_eq_of_lt (by omega)]
  exact wraps_u64 _ (by omega) h1
theorem xor1_u64 (x : Int) (h0 : 0 ≤ x) (h1 : x < 18446744073709551616) : bits .xor .u64 x 18446744073709551615 = 18446744073709551615 - x := by
  obtain ⟨a, rfl⟩ := Int.eq_ofNat_of_zero_le h0
  simp only [bits, BitVec.ofInt_natCast]
  rw [show BitVec.ofInt IntKind.u64.bits 18446744073709551615 = BitVec.allOnes _ from by decide +kernel, BitVec.xor_allOnes, BitVec.toNat_not, BitVec.toNat_ofNat]
  rw [show (2 : Nat) ^ IntKind.u64.bits = 18446744073709551616 from rfl, Nat.mod_eq_of_lt (by omega)]
  rw [wraps_u64 _ (by omega) (by omega)]; omega
theorem xor0_i64 (x : Int) (h0 : 0 ≤ x) (h1 : x < 9223372036854775808) : bits .xor .i64 x 0 = x := by
  obtain ⟨a, rfl⟩ := Int.eq_ofNat_of_zero_le h0
  simp only [bits, BitVec.ofInt_natCast]
  rw [show BitVec.ofInt IntKind.i64.bits 0 = 0#_ from rfl, BitVec.xor_zero, BitVec.toNat_ofNat]
  rw [show (2 : Nat) ^ IntKind.i64.bits = 18446744073709551616 from rfl, Nat.mod_eq_of_lt (by omega), IntKind.wrap_i64]
  omega
theorem xor1_i64 (x : Int) (h0 : 0 ≤ x) (h1 : x < 9223372036854775808) : bits .xor .i64 x (-1) = -x - 1 := by
  obtain ⟨a, rfl⟩ := Int.eq_ofNat_of_zero_le h0
  simp only [bits, BitVec.ofInt_natCast]
  rw [show BitVec.ofInt IntKind.i64.bits (-1) = BitVec.allOnes _ from by decide +kernel, BitVec.xor_allOnes, BitVec.toNat_not, BitVec.toNat_ofNat]
  rw [show (2 : Nat) ^ IntKind.i64.bits = 18446744073709551616 from rfl, Nat.mod_eq_of_lt (by omega), IntKind.wrap_i64]
  omega
theorem pow7_le (k : Nat) (hk : k ≤ 9) : (0 : Int) < 2 ^ (7 * k) ∧ (2 : Int) ^ (7 * k) ≤ 9223372036854775808 := by
  have key : ∀ j : Fin 10, (0 : Int) < 2 ^ (7 * j.val) ∧ (2 : Int) ^ (7 * j.val) ≤ 9223372036854775808 := by decide +kernel
  exact key ⟨k, by omega⟩
theorem rdOr_eq (u b : Int) (k : Nat) (hk : k ≤ 9) (hu0 : 0 ≤ u) (hu : u < 2 ^ (7 * k)) (hb0 : 0 ≤ b) (hb : b < 256) (hfit : b % 128 * 2 ^ (7 * k) < 18446744073709551616) : rdOr u b (k : Int) = u + b % 128 * 2 ^ (7 * k) := by
  unfold rdOr
  rw [and127 b hb0 hb, wraps_u64 (b % 128) (by omega) (by omega), show (7 * (k : Int)).toNat = 7 * k by omega]
  obtain ⟨hp, hp2⟩ := pow7_le k hk
  generalize hq : (2 : Int) ^ (7 * k) = q at *
  have hn : 0 ≤ b % 128 * q := Int.mul_nonneg (by omega) (by omega)
  rw [wraps_u64 _ hn hfit]
  have hj := bits_join .u64 64 (by decide) wraps_u64' (7 * k) (b % 128 * q) u hn (by rw [hq]; exact Int.mul_emod_left _ _) (by rw [two64]; exact hfit) hu0 (by rw [hq]; exact hu) (by rw [two64]; omega)
  have hcomm : bits .or .u64 u (b % 128 * q) = bits .or .u64 (b % 128 * q) u := by simp only [bits, BitVec.or_comm]
  rw [hcomm, hj]; omega
theorem rdFin_eq (u : Int) (h0 : 0 ≤ u) (h1 : u < 18446744073709551616) : rdFin u = if u % 2 = 1 then -(u / 2) - 1 else u / 2 := by
  unfold rdFin
  rw [and1 u h0 h1]
  have e1 : wrap64 (u / 2) = u / 2 := by unfold wrap64; omega
  rw [e1]
  rcases (show u % 2 = 0 ∨ u % 2 = 1 by omega) with h | h
  · rw [h, if_neg (by decide), show wrap64 (-wrap64 0) = 0 by unfold wrap64; omega]
    exact xor0_i64 _ (by omega) (by omega)
  · rw [h, if_pos rfl, show wrap64 (-wrap64 1) = -1 by unfold wrap64; omega]
    exact xor1_i64 _ (by omega) (by omega)

/-! ### the groups of a number -/
def vb : Nat → Int → List Int
  | 0, u => [u]
  | n + 1, u => if u ≥ 128 then (u % 128 + 128) :: vb n (u / 128) else [u]
def zz (n : Int) : Int := if n < 0 then -2 * n - 1 else 2 * n
def numB (n : Int) : List Int := vb 9 (zz n)
def i64ok (n : Int) : Prop := -9223372036854775808 ≤ n ∧ n ≤ 9223372036854775807
theorem zz_range {n : Int} (h : i64ok n) : 0 ≤ zz n ∧ zz n < 18446744073709551616 := by unfold zz; obtain ⟨h1, h2⟩ := h; split <;> omega
theorem rdFin_zz {n : Int} (h : i64ok n) : rdFin (zz n) = n := by
  obtain ⟨h1, h2⟩ := zz_range h
  rw [rdFin_eq _ h1 h2]
  unfold zz
  split <;> split <;> omega
theorem zz_rdFin (u : Int) (h0 : 0 ≤ u) (h1 : u < 18446744073709551616) : zz (rdFin u) = u ∧ i64ok (rdFin u) := by
  rw [rdFin_eq u h0 h1]
  unfold zz i64ok
  split <;> split <;> omega
theorem vb_length_pos (n : Nat) (u : Int) : 1 ≤ (vb n u).length := by cases n <;> simp [vb]; split <;> simp
theorem vb_length_le (n : Nat) : ∀ u : Int, (vb n u).length ≤ n + 1 := by
  induction n with
  | zero => intro u; simp [vb]
  | succ n ih => intro u; rw [vb]; split
                 · simp only [List.length_cons]; have := ih (u / 128); omega
                 · simp
theorem vb_bytes (n : Nat) : ∀ u : Int, 0 ≤ u → u < 2 ^ (7 * (n + 1)) → ∀ b ∈ vb n u, 0 ≤ b ∧ b < 256 := by
  induction n with
  | zero => intro u h0 h1 b hb; simp [vb] at hb; subst hb; have : (2 : Int) ^ (7 * (0 + 1)) = 128 := by decide
            omega
  | succ n ih =>
    intro u h0 h1 b hb
    rw [vb] at hb
    split at hb
    · rcases List.mem_cons.1 hb with rfl | hb
      · omega
      · refine ih (u / 128) (by omega) ?_ b hb
        have : (2 : Int) ^ (7 * (n + 1 + 1)) = 2 ^ (7 * (n + 1)) * 128 := by rw [show 7 * (n + 1 + 1) = 7 * (n + 1) + 7 by omega, Int.pow_add]; rfl
        rw [this] at h1
        exact Int.ediv_lt_of_lt_mul (by decide) h1
    · simp at hb; subst hb; omega
theorem numB_bytes {n : Int} (h : i64ok n) : ∀ b ∈ numB n, 0 ≤ b ∧ b < 256 := by
  obtain ⟨h1, h2⟩ := zz_range h
  refine vb_bytes 9 _ h1 ?_
  have : (2 : Int) ^ (7 * (9 + 1)) = 1180591620717411303424 := by decide
  omega

/-! ### the program's and the reference's number -/
theorem image_number_l0 (n : Nat) : ∀ (k : Nat) (acc : List Int) (u : Int), n < k → 0 ≤ u → u < 2 ^ (7 * (n + 1)) → acc.length + n < 140737488355328 → image_number.l0 k acc u = some (acc ++ vb n u) := by
  induction n with
  | zero =>
    intro k acc u hk h0 h1 hl
    obtain ⟨k, rfl⟩ : ∃ m, k = m + 1 := ⟨k - 1, by omega⟩
    have : (2 : Int) ^ (7 * (0 + 1)) = 128 := by decide
    simp only [image_number.l0]
    rw [if_neg (by omega), if_pos (by omega), vb]
    congr 3; omega
  | succ n ih =>
    intro k acc u hk h0 h1 hl
    obtain ⟨k, rfl⟩ : ∃ m, k = m + 1 := ⟨k - 1, by omega⟩
    simp only [image_number.l0]
    have hp : (2 : Int) ^ (7 * (n + 1 + 1)) = 2 ^ (7 * (n + 1)) * 128 := by rw [show 7 * (n + 1 + 1) = 7 * (n + 1) + 7 by omega, Int.pow_add]; rfl
    rw [hp] at h1
    by_cases h : u ≥ 128
    · rw [if_pos h, if_pos (by omega), or128 _ (by omega) (by omega), ih k _ _ (by omega) (by omega) (Int.ediv_lt_of_lt_mul (by decide) h1) (by simp; omega), vb, if_pos h]
      simp
    · rw [if_neg h, if_pos (by omega), vb, if_neg h]
      congr 3; omega
theorem two70 : (2 : Int) ^ (7 * (9 + 1)) = 1180591620717411303424 := by decide
theorem zz_image {n : Int} (h : i64ok n) : bits .xor .u64 (IntKind.u64.wrap (IntKind.u64.wrap n * 2)) (IntKind.u64.wrap (n / 9223372036854775808)) = zz n := by
  obtain ⟨h1, h2⟩ := h
  unfold zz
  simp only [IntKind.wrap_u64]
  split
  · rw [show n / 9223372036854775808 % 18446744073709551616 = 18446744073709551615 by omega, xor1_u64 _ (by omega) (by omega)]; omega
  · rw [show n / 9223372036854775808 % 18446744073709551616 = 0 by omega, xor0_u64 _ (by omega) (by omega)]; omega
theorem image_number_f {k : Nat} {acc : List Int} {n : Int} (h : i64ok n) (hk : 10 ≤ k) (hl : acc.length + 9 < 140737488355328) : image_number.f k acc n = some (acc ++ numB n) := by
  unfold image_number.f
  rw [zz_image h]
  obtain ⟨h1, h2⟩ := zz_range h
  exact image_number_l0 9 k acc (zz n) (by omega) h1 (by rw [two70]; omega) hl
theorem ref_folded {n : Int} (h : i64ok n) : unicodetextref15_folded.f n = some (zz n) := by
  obtain ⟨h1, h2⟩ := h
  unfold unicodetextref15_folded.f zz
  split
  · rw [show wrap64 (n + 1) = n + 1 by unfold wrap64; omega, show wrap64 (-(n + 1)) = -(n + 1) by unfold wrap64; omega]
    simp only [IntKind.wrap_u64]; congr 1; omega
  · simp only [IntKind.wrap_u64]; congr 1; omega
end Go.Proofs.Ytdlijioedokgjaa.Q

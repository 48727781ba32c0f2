/- Plain laws: a change of one byte of a sealed string is found. -/
import Derived.Test.YtdlijioedokgjaaMSeal
import Derived.Laws.BitsLemmas
namespace Go.Proofs.Ytdlijioedokgjaa.Q
open Go.RowKit Go.Proofs.YtdlijioedokgjaaW.PrintWords Go.Proofs.YtdlijioedokgjaaW.PrintLast Go.Proofs.YtdlijioedokgjaaW.PrintMore
set_option linter.unusedVariables false
set_option linter.unusedSimpArgs false

theorem xor32 (a b : Int) (ha : 0 ≤ a) (ha2 : a < 4294967296) (hb : 0 ≤ b) (hb2 : b < 4294967296) : bits .xor .u32 a b = ((a.toNat ^^^ b.toNat : Nat) : Int) := by
  obtain ⟨x, rfl⟩ := Int.eq_ofNat_of_zero_le ha
  obtain ⟨y, rfl⟩ := Int.eq_ofNat_of_zero_le hb
  have ha' : x % 2 ^ IntKind.u32.bits = x := Nat.mod_eq_of_lt (by show x < 2 ^ 32; omega)
  have hb' : y % 2 ^ IntKind.u32.bits = y := Nat.mod_eq_of_lt (by show y < 2 ^ 32; omega)
  have hc : x ^^^ y < 2 ^ 32 := Nat.xor_lt_two_pow (by omega) (by omega)
  simp only [bits, BitVec.ofInt_natCast, BitVec.toNat_xor, BitVec.toNat_ofNat, ha', hb', IntKind.wrap_u32, Int.toNat_natCast]
  omega
theorem xor8 (a b : Int) (ha : 0 ≤ a) (ha2 : a < 256) (hb : 0 ≤ b) (hb2 : b < 256) : bits .xor .u8 a b = ((a.toNat ^^^ b.toNat : Nat) : Int) ∧ a.toNat ^^^ b.toNat < 256 := by
  obtain ⟨x, rfl⟩ := Int.eq_ofNat_of_zero_le ha
  obtain ⟨y, rfl⟩ := Int.eq_ofNat_of_zero_le hb
  have ha' : x % 2 ^ IntKind.u8.bits = x := Nat.mod_eq_of_lt (by show x < 2 ^ 8; omega)
  have hb' : y % 2 ^ IntKind.u8.bits = y := Nat.mod_eq_of_lt (by show y < 2 ^ 8; omega)
  have hc : x ^^^ y < 2 ^ 8 := Nat.xor_lt_two_pow (by omega) (by omega)
  refine ⟨?_, by simpa using hc⟩
  simp only [bits, BitVec.ofInt_natCast, BitVec.toNat_xor, BitVec.toNat_ofNat, ha', hb', IntKind.wrap_u8, Int.toNat_natCast]
  omega
theorem mul_inj32 {x y : Int} (hx : 0 ≤ x) (hx2 : x < 4294967296) (hy : 0 ≤ y) (hy2 : y < 4294967296) (h : x * 16777619 % 4294967296 = y * 16777619 % 4294967296) : x = y := by
  have h1 : (4294967296 : Int) ∣ x * 16777619 - y * 16777619 := Int.dvd_of_emod_eq_zero (Int.emod_eq_emod_iff_emod_sub_eq_zero.1 h)
  rw [← Int.sub_mul] at h1
  have h2 : (4294967296 : Int) ∣ 899433627 * ((x - y) * 16777619) := Int.dvd_trans h1 (Int.dvd_mul_left _ _)
  have h3 : (4294967296 : Int) ∣ 4294967296 * (3513497 * (x - y)) := Int.dvd_mul_right _ _
  have h4 := Int.dvd_sub h2 h3
  have e : 899433627 * ((x - y) * 16777619) - 4294967296 * (3513497 * (x - y)) = x - y := by
    rw [Int.mul_comm (x - y), ← Int.mul_assoc, ← Int.mul_assoc, ← Int.sub_mul, show (899433627 * 16777619 - 4294967296 * 3513497 : Int) = 1 from by decide, Int.one_mul]
  rw [e] at h4
  clear h h1 h2 h3 e
  obtain ⟨z, hz⟩ := h4
  omega
theorem sumStep_range (n b : Int) : 0 ≤ sumStep n b ∧ sumStep n b < 4294967296 := by unfold sumStep; omega
theorem xor_inj_l {a b c : Nat} (h : a ^^^ b = a ^^^ c) : b = c := by have := congrArg (a ^^^ ·) h; simpa [← Nat.xor_assoc] using this
theorem xor_inj_r {a b c : Nat} (h : b ^^^ a = c ^^^ a) : b = c := by have := congrArg (· ^^^ a) h; simpa [Nat.xor_assoc] using this
theorem lt_xor {x y : Nat} (hx : x < 4294967296) (hy : y < 4294967296) : ((x ^^^ y : Nat) : Int) < 4294967296 := by
  have : x ^^^ y < 2 ^ 32 := Nat.xor_lt_two_pow hx hy
  omega
theorem mod_lo (b : Int) : 0 ≤ b % 4294967296 := by omega
theorem mod_hi (b : Int) : b % 4294967296 < 4294967296 := by omega
theorem nat_lt {b : Int} (h : b < 4294967296) : b.toNat < 4294967296 := by omega
theorem toNat_inj {a b : Int} (ha : 0 ≤ a) (hb : 0 ≤ b) (h : a.toNat = b.toNat) : a = b := by omega
theorem mod_id {b : Int} (h : 0 ≤ b) (h2 : b < 256) : b % 4294967296 = b := by omega
theorem sumStep_inj_n {n m b : Int} (hn : 0 ≤ n) (hn2 : n < 4294967296) (hm : 0 ≤ m) (hm2 : m < 4294967296) (h : sumStep n b = sumStep m b) : n = m := by
  unfold sumStep at h
  rw [xor32 n _ hn hn2 (mod_lo _) (mod_hi _), xor32 m _ hm hm2 (mod_lo _) (mod_hi _)] at h
  have := mul_inj32 (Int.natCast_nonneg _) (lt_xor (nat_lt hn2) (nat_lt (mod_hi b))) (Int.natCast_nonneg _) (lt_xor (nat_lt hm2) (nat_lt (mod_hi b))) h
  exact toNat_inj hn hm (xor_inj_r (Int.ofNat.inj this))
theorem sumStep_inj_b {n b c : Int} (hn : 0 ≤ n) (hn2 : n < 4294967296) (hb : 0 ≤ b) (hb2 : b < 256) (hc : 0 ≤ c) (hc2 : c < 256) (h : sumStep n b = sumStep n c) : b = c := by
  unfold sumStep at h
  rw [xor32 n _ hn hn2 (mod_lo _) (mod_hi _), xor32 n _ hn hn2 (mod_lo _) (mod_hi _)] at h
  have := mul_inj32 (Int.natCast_nonneg _) (lt_xor (nat_lt hn2) (nat_lt (mod_hi b))) (Int.natCast_nonneg _) (lt_xor (nat_lt hn2) (nat_lt (mod_hi c))) h
  have := toNat_inj (mod_lo _) (mod_lo _) (xor_inj_l (Int.ofNat.inj this))
  rw [mod_id hb hb2, mod_id hc hc2] at this
  exact this
theorem foldl_inj (t : List Int) : ∀ (n m : Int), 0 ≤ n → n < 4294967296 → 0 ≤ m → m < 4294967296 → t.foldl sumStep n = t.foldl sumStep m → n = m := by
  induction t with
  | nil => intro n m _ _ _ _ h; exact h
  | cons b t ih =>
    intro n m h0 h1 h2 h3 h
    exact sumStep_inj_n h0 h1 h2 h3 (ih _ _ (sumStep_range n b).1 (sumStep_range n b).2 (sumStep_range m b).1 (sumStep_range m b).2 h)
theorem foldl_range (t : List Int) : ∀ n : Int, 0 ≤ n → n < 4294967296 → 0 ≤ t.foldl sumStep n ∧ t.foldl sumStep n < 4294967296 := by
  induction t with
  | nil => intro n h0 h1; exact ⟨h0, h1⟩
  | cons b t ih => intro n _ _; exact ih _ (sumStep_range n b).1 (sumStep_range n b).2
theorem sumB_range (l : List Int) : 0 ≤ sumB l ∧ sumB l < 4294967296 := foldl_range l _ (by omega) (by omega)
/-- A change of one byte changes the sum. -/
theorem sumB_set {l : List Int} (hl : ∀ b ∈ l, 0 ≤ b ∧ b < 256) {p : Nat} {c : Int} (hp : p < l.length) (hc : 0 ≤ c) (hc2 : c < 256) (hne : c ≠ l[p]) : sumB (l.set p c) ≠ sumB l := by
  intro h
  have e1 : l = l.take p ++ l[p] :: l.drop (p + 1) := by rw [List.getElem_cons_drop, List.take_append_drop]
  have e2 : l.set p c = l.take p ++ c :: l.drop (p + 1) := by rw [List.set_eq_take_append_cons_drop, if_pos hp]
  have hb := hl _ (List.getElem_mem hp)
  generalize l[p] = b at e1 hne hb
  rw [e2] at h
  have h : sumB (l.take p ++ c :: l.drop (p + 1)) = sumB (l.take p ++ b :: l.drop (p + 1)) := h.trans (congrArg sumB e1)
  unfold sumB at h
  rw [List.foldl_append, List.foldl_append, List.foldl_cons, List.foldl_cons] at h
  have hr := foldl_range (l.take p) 2166136261 (by omega) (by omega)
  generalize (l.take p).foldl sumStep 2166136261 = n at h hr
  have := foldl_inj _ _ _ (sumStep_range n c).1 (sumStep_range n c).2 (sumStep_range n b).1 (sumStep_range n b).2 h
  exact hne (sumStep_inj_b hr.1 hr.2 hc hc2 hb.1 hb.2 this)
theorem sum4_inj {n m : Int} (hn : 0 ≤ n) (hn2 : n < 4294967296) (hm : 0 ≤ m) (hm2 : m < 4294967296) (h : sum4 n = sum4 m) : n = m := by
  simp only [sum4, List.cons.injEq, and_true] at h
  obtain ⟨h1, h2, h3, h4⟩ := h
  omega
theorem open_changed (s : ByteArray) (L : List Int) (hL : L = bytesOf (sealB s)) (p : Nat) (c : Int) (hp : p < L.length) (hc : 0 ≤ c) (hc2 : c < 256) (hne : c ≠ L[p]) : openS (strOfNums (L.set p c)) = (⟨#[]⟩, 14) := by
  have hb : bytesOf (strOfNums (L.set p c)) = L.set p c := by
    apply bytesOf_sN
    intro b hb
    rcases List.mem_or_eq_of_mem_set hb with h | h
    · rw [hL] at h; exact bytesOf_range _ b h
    · subst h; exact ⟨hc, hc2⟩
  have hs : (strOfNums (L.set p c)).size = L.length := by rw [sN_size, List.length_set]
  have hl : L.length = s.size + 4 := by rw [hL, bytesOf_length, sealB_size]
  have hL2 := bytesOf_sealB s
  rw [← hL] at hL2
  have h4 : (sum4 (sumB (bytesOf s))).length = 4 := rfl
  have hB : L.drop 4 = bytesOf s := by rw [hL2]; exact List.drop_left' h4
  have hS : L.take 4 = sum4 (sumB (bytesOf s)) := by rw [hL2]; exact List.take_left' h4
  unfold openS
  rw [if_neg (by rw [hs]; omega), if_neg]
  intro he
  have he := congrArg bytesOf he
  rw [bytesOf_sealB, bytesOf_extract, hb, hs, List.take_of_length_le (by rw [List.length_set]; omega)] at he
  have ht := congrArg (List.take 4) he
  rw [List.take_left' (by rfl)] at ht
  by_cases h : p < 4
  · rw [List.drop_set_of_lt h, hB] at ht
    have := congrArg (fun l => l[p]?) (hS.trans ht)
    simp only [List.getElem?_take_of_lt h] at this
    rw [List.getElem?_set_self hp, List.getElem?_eq_getElem hp] at this
    injection this with this
    exact hne this.symm
  · rw [List.take_set_of_le (by omega), hS, List.drop_set, if_neg h, hB] at ht
    have := sum4_inj (sumB_range _).1 (sumB_range _).2 (sumB_range _).1 (sumB_range _).2 ht
    refine sumB_set (bytesOf_range s) (by rw [← hB, List.length_drop]; omega) hc hc2 ?_ this
    have e : (bytesOf s)[p - 4]'(by rw [← hB, List.length_drop]; omega) = L[p] := by
      have : (bytesOf s)[p - 4]? = L[p]? := by rw [← hB, List.getElem?_drop]; congr 1; omega
      rw [List.getElem?_eq_getElem (by rw [← hB, List.length_drop]; omega), List.getElem?_eq_getElem hp] at this
      injection this
    rw [e]; exact hne
end Go.Proofs.Ytdlijioedokgjaa.Q

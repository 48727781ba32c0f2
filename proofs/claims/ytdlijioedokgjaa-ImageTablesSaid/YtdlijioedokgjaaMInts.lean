/- Plain laws: lists as bytes, the program's and the reference's writers. -/
import Derived.Test.YtdlijioedokgjaaMVar
import Derived.Test.YtdlijioedokgjaaMStr
import Derived.Test.YtdlijioedokgjaaMEv
namespace Go.Proofs.Ytdlijioedokgjaa.Q
open Go.RowKit Go.Proofs.YtdlijioedokgjaaW.PrintWords Go.Proofs.YtdlijioedokgjaaW.PrintLast Go.Proofs.YtdlijioedokgjaaW.PrintMore
set_option linter.unusedVariables false
set_option linter.unusedSimpArgs false

def numsB (l : List Int) : List Int := l.flatMap numB
/-- The bytes of a list. -/
def intsB (l : List Int) : List Int := numB l.length ++ numsB l
def listsB (ls : List (List Int)) : List Int := ls.flatMap intsB
theorem numsB_cons (x : Int) (l : List Int) : numsB (x :: l) = numB x ++ numsB l := rfl
theorem listsB_cons (x : List Int) (l : List (List Int)) : listsB (x :: l) = intsB x ++ listsB l := rfl
theorem numB_length_le (n : Int) : (numB n).length ≤ 10 := vb_length_le 9 (zz n)
theorem numB_length_pos (n : Int) : 1 ≤ (numB n).length := vb_length_pos 9 (zz n)
theorem numsB_length_le (l : List Int) : (numsB l).length ≤ 10 * l.length := by
  induction l with
  | nil => simp [numsB]
  | cons x l ih => rw [numsB_cons, List.length_append, List.length_cons]; have := numB_length_le x; omega
theorem intsB_length_le (l : List Int) : (intsB l).length ≤ 10 * l.length + 10 := by
  unfold intsB; rw [List.length_append]; have := numB_length_le l.length; have := numsB_length_le l; omega
def okInts (l : List Int) : Prop := ∀ x ∈ l, i64ok x
theorem numsB_bytes {l : List Int} (h : okInts l) : ∀ b ∈ numsB l, 0 ≤ b ∧ b < 256 := by
  intro b hb
  obtain ⟨x, hx, hb⟩ := List.mem_flatMap.1 hb
  exact numB_bytes (h x hx) b hb
theorem intsB_bytes {l : List Int} (h : okInts l) (hl : l.length ≤ 9223372036854775807) : ∀ b ∈ intsB l, 0 ≤ b ∧ b < 256 := by
  intro b hb
  rcases List.mem_append.1 hb with hb | hb
  · exact numB_bytes ⟨by omega, by omega⟩ b hb
  · exact numsB_bytes h b hb
theorem image_number_ev {acc : List Int} {n : Int} (h : i64ok n) (hl : acc.length + 9 < 140737488355328) : EvR (fun k => image_number.f k acc n) (acc ++ numB n) := ⟨10, fun k hk => image_number_f h hk hl⟩

/-- The inner loop of write: the rest of a list, then what follows. -/
theorem write_l1 {r : ByteArray} {ls : List (List Int)} {n i : Int} {row : List Int} (hrow : okInts row) (hlen : row.length ≤ 1000000000000) (d : Nat) : ∀ (acc : List Int) (j : Int), 0 ≤ j → j ≤ row.length → (row.length : Int) - j = d → acc.length + 10 * d < 100000000000000 →
    EvR (fun k => image_write.l0 k (acc ++ numsB (row.drop j.toNat)) ls n (wrap64 (i + 1))) r → EvR (fun k => image_write.l1 k acc ls n i row (row.length : Int) j) r := by
  induction d with
  | zero =>
    intro acc j h0 h1 hd hl he
    refine EvR.succ ?_
    simp only [image_write.l1]
    refine EvR.neg (by omega) ?_
    rw [List.drop_eq_nil_of_le (by omega)] at he
    simpa [numsB] using he
  | succ d ih =>
    intro acc j h0 h1 hd hl he
    refine EvR.succ ?_
    simp only [image_write.l1]
    refine EvR.pos (by omega) (EvR.pos h0 (EvR.pos (by omega) ?_))
    refine EvR.bind (image_number_ev (hrow _ (rd_mem row j h0 (by omega))) (by omega)) ?_
    rw [wrap_succ h0 (n := row.length) (by omega) (by omega)]
    have hnl := numB_length_le (rd row j)
    refine ih _ (j + 1) (by omega) (by omega) (by omega) (by rw [List.length_append]; omega) ?_
    rw [drop_rd row j h0 (by omega), numsB_cons] at he
    simpa [List.append_assoc] using he
theorem write_l0 {ls : List (List Int)} (hok : ∀ l ∈ ls, okInts l ∧ l.length ≤ 1000000000000) (hn : ls.length ≤ 1000000) (d : Nat) : ∀ (acc : List Int) (i : Int), 0 ≤ i → i ≤ ls.length → (ls.length : Int) - i = d → acc.length + (listsB (ls.drop i.toNat)).length < 90000000000000 →
    (∀ l ∈ ls, 10 * l.length + 20 ≤ 9000000000000) →
    EvR (fun k => image_write.l0 k acc ls (ls.length : Int) i) (strOfNums (acc ++ listsB (ls.drop i.toNat))) := by
  induction d with
  | zero =>
    intro acc i h0 h1 hd hl hb
    refine EvR.succ ?_
    simp only [image_write.l0]
    refine EvR.neg (by omega) ?_
    rw [List.drop_eq_nil_of_le (by omega)]
    simpa [listsB] using EvR.const _
  | succ d ih =>
    intro acc i h0 h1 hd hl hb
    refine EvR.succ ?_
    simp only [image_write.l0]
    refine EvR.pos (by omega) (EvR.pos h0 (EvR.pos (by omega) ?_))
    have hm := rd_L2_mem ls i h0 (by omega)
    obtain ⟨hr, hrl⟩ := hok _ hm
    have hbb := hb _ hm
    rw [drop_rd_L2 ls i h0 (by omega), listsB_cons, List.length_append] at hl
    refine EvR.bind (image_number_ev (n := ((rd_L2 ls i).length : Int)) ⟨by omega, by omega⟩ (by omega)) ?_
    have hnl := numB_length_le ((rd_L2 ls i).length : Int)
    refine write_l1 hr hrl (rd_L2 ls i).length _ 0 (by omega) (by omega) (by omega) (by rw [List.length_append]; omega) ?_
    rw [wrap_succ h0 (n := ls.length) (by omega) (by omega)]
    rw [drop_rd_L2 ls i h0 (by omega), listsB_cons]
    have e : acc ++ numB ((rd_L2 ls i).length : Int) ++ numsB ((rd_L2 ls i).drop (0 : Int).toNat) = acc ++ intsB (rd_L2 ls i) := by simp [intsB]
    rw [e]
    have := ih (acc ++ intsB (rd_L2 ls i)) (i + 1) (by omega) (by omega) (by omega) (by rw [List.length_append]; omega) hb
    simpa [List.append_assoc] using this
/-- image.write of lists that are not too long. -/
theorem write_ev {ls : List (List Int)} (hok : ∀ l ∈ ls, okInts l) (hn : ls.length ≤ 1000000) (hl : (listsB ls).length < 90000000000000) (hb : ∀ l ∈ ls, 10 * l.length + 20 ≤ 9000000000000) :
    EvR (fun k => image_write.f k ls) (strOfNums (listsB ls)) := by
  unfold image_write.f
  have := write_l0 (ls := ls) (fun l h => ⟨hok l h, by have := hb l h; omega⟩) hn ls.length [] 0 (by omega) (by omega) (by omega) (by simpa using hl) hb
  simpa using this
theorem Ints_ev {l : List Int} (h : okInts l) (hl : l.length ≤ 100000000000) : EvR (fun k => image_Ints.f k l) (strOfNums (intsB l)) := by
  unfold image_Ints.f
  refine EvR.bind (x := strOfNums (listsB [l])) (write_ev (by simpa using h) (by simp) ?_ (by simp; omega)) ?_
  · have := intsB_length_le l; simp [listsB]; omega
  · simpa [listsB] using EvR.const _

/-! ### the reference's -/
theorem ref_number_l0 (n : Nat) : ∀ (acc : ByteArray) (u : Int), 0 ≤ u → u < 2 ^ (7 * (n + 1)) → n ≤ 9 → u < 18446744073709551616 → acc.size + n < 9000000000000000000 → EvR (fun k => unicodetextref15_number.l0 k u acc) (acc ++ strOfNums (vb n u)) := by
  induction n with
  | zero =>
    intro acc u h0 h1 hn h2 hl
    have : (2 : Int) ^ (7 * (0 + 1)) = 128 := by decide
    refine EvR.succ ?_
    simp only [unicodetextref15_number.l0]
    refine (EvR.neg (by omega) (EvR.bindc rfl (EvR.pos ?_ ?_)))
    · rw [sN_size]; simp; omega
    · rw [vb, show u % 256 = u by omega]; exact EvR.const _
  | succ n ih =>
    intro acc u h0 h1 hn h2 hl
    have hp : (2 : Int) ^ (7 * (n + 1 + 1)) = 2 ^ (7 * (n + 1)) * 128 := by rw [show 7 * (n + 1 + 1) = 7 * (n + 1) + 7 by omega, Int.pow_add]; rfl
    rw [hp] at h1
    refine EvR.succ ?_
    simp only [unicodetextref15_number.l0]
    by_cases h : u > 127
    · refine EvR.pos h (EvR.bindc rfl (EvR.pos ?_ ?_))
      · rw [sN_size]; simp; omega
      · rw [Int.tmod_eq_emod_of_nonneg h0, Int.tdiv_eq_ediv_of_nonneg h0, IntKind.wrap_u64, IntKind.wrap_u64, show u / 128 % 18446744073709551616 = u / 128 by omega, show (128 + u % 128) % 18446744073709551616 % 256 = u % 128 + 128 by omega]
        have := ih (acc ++ strOfNums [u % 128 + 128]) (u / 128) (by omega) (Int.ediv_lt_of_lt_mul (by decide) h1) (by omega) (by omega) (by rw [ByteArray.size_append, sN_size]; simp; omega)
        rw [vb, if_pos (by omega)]
        rw [ByteArray.append_assoc, ← sN_append] at this
        exact this
    · refine EvR.neg h (EvR.bindc rfl (EvR.pos ?_ ?_))
      · rw [sN_size]; simp; omega
      · rw [vb, if_neg (by omega), show u % 256 = u by omega]; exact EvR.const _
theorem ref_number_ev {n : Int} (h : i64ok n) : EvR (fun k => unicodetextref15_number.f k n) (strOfNums (numB n)) := by
  unfold unicodetextref15_number.f
  obtain ⟨h1, h2⟩ := zz_range h
  refine EvR.bindc (ref_folded h) ?_
  have := ref_number_l0 9 (⟨#[]⟩ : ByteArray) (zz n) h1 (by rw [two70]; omega) (by omega) h2 (by decide)
  refine this.cast ?_
  rw [← sN_nil, ← sN_append]; rfl
theorem ref_Ints_l0 {l : List Int} (hok : okInts l) (hlen : l.length ≤ 100000000000) (d : Nat) : ∀ (acc : ByteArray) (j : Int), 0 ≤ j → j ≤ l.length → (l.length : Int) - j = d → acc.size + 10 * d < 100000000000000 →
    EvR (fun k => unicodetextref15_Ints.l0 k l acc j) (acc ++ strOfNums (numsB (l.drop j.toNat))) := by
  induction d with
  | zero =>
    intro acc j h0 h1 hd hl
    refine EvR.succ ?_
    simp only [unicodetextref15_Ints.l0]
    refine (EvR.neg (by omega) ?_)
    rw [List.drop_eq_nil_of_le (by omega)]
    refine (EvR.const _).cast ?_
    show acc = acc ++ strOfNums []
    rw [sN_nil]; exact (ByteArray.append_empty).symm
  | succ d ih =>
    intro acc j h0 h1 hd hl
    have hnl := numB_length_le (rd l j)
    refine EvR.succ ?_
    simp only [unicodetextref15_Ints.l0]
    refine (EvR.pos (by omega) (EvR.pos h0 (EvR.bind (ref_number_ev (hok _ (rd_mem l j h0 (by omega)))) (EvR.pos ?_ ?_))))
    · rw [sN_size]; omega
    · rw [wrap_succ h0 (n := l.length) (by omega) (by omega), drop_rd l j h0 (by omega), numsB_cons, sN_append, ← ByteArray.append_assoc]
      exact ih _ (j + 1) (by omega) (by omega) (by omega) (by rw [ByteArray.size_append, sN_size]; omega)
theorem ref_Ints_ev {l : List Int} (h : okInts l) (hl : l.length ≤ 100000000000) : EvR (fun k => unicodetextref15_Ints.f k l) (strOfNums (intsB l)) := by
  unfold unicodetextref15_Ints.f
  have hnl := numB_length_le (l.length : Int)
  refine EvR.bind (ref_number_ev (n := (l.length : Int)) ⟨by omega, by omega⟩) ?_
  have := ref_Ints_l0 h hl l.length (strOfNums (numB (l.length : Int))) 0 (by omega) (by omega) (by omega) (by rw [sN_size]; omega)
  refine this.cast ?_
  rw [← sN_append]; rfl
end Go.Proofs.Ytdlijioedokgjaa.Q

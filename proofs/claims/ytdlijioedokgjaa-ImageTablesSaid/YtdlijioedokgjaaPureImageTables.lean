/- Proved: image.Table answers as specified, and ReadTable restores the table, for tables of at most 5000 numbers; the arguments are as they were. Conditions: none. -/
import Derived.Test.YtdlijioedokgjaaSImageTables
import Derived.Test.YtdlijioedokgjaaMReadTable
import Derived.Test.YtdlijioedokgjaaMInts
namespace Go.Proofs.Ytdlijioedokgjaa.Pure
open Go.RowKit Go.Proofs.Ytdlijioedokgjaa.Q Go.Proofs.YtdlijioedokgjaaW.PrintWords Go.Proofs.YtdlijioedokgjaaW.PrintLast
set_option linter.unusedVariables false

theorem rdListT_at {s : ByteArray} {x : Int} {l rest : List Int} (hl : okInts l) (hn : l.length ≤ 9223372036854775807) (h0 : 0 ≤ x) (h1 : x ≤ s.size) (hd : (bytesOf s).drop x.toNat = intsB l ++ rest) : rdList s x = .ok (l, (s.size : Int) - rest.length) ∧ (bytesOf s).drop ((s.size : Int) - rest.length).toNat = rest ∧ 0 ≤ (s.size : Int) - rest.length ∧ (s.size : Int) - rest.length ≤ s.size := by
  obtain ⟨g1, g2, g3⟩ := drop_of_suffix s x.toNat (intsB l) rest hd
  refine ⟨?_, g1, g2, g3⟩
  rw [rdList_L s x h0 h1, hd, rdListL_intsB hl hn]
  rfl
theorem rdRest_at {s : ByteArray} : ∀ (S : List (List Int)) (x : Int) (acc : List (List Int)), (∀ l ∈ S, okInts l ∧ l.length ≤ 9223372036854775807) → 0 ≤ x → x ≤ s.size → (bytesOf s).drop x.toNat = listsB S → rdRest s S.length x acc = .ok (acc ++ S, (s.size : Int))
  | [], x, acc, _, h0, h1, hd => by
    have h2 := congrArg List.length hd
    rw [List.length_drop, bytesOf_length] at h2
    simp [listsB] at h2
    simp only [List.length_nil, rdRest, List.append_nil]
    rw [show x = (s.size : Int) by omega]
  | l :: S, x, acc, hok, h0, h1, hd => by
    rw [listsB_cons] at hd
    obtain ⟨e, f, g, h⟩ := rdListT_at (hok l (by simp)).1 (hok l (by simp)).2 h0 h1 hd
    rw [List.length_cons, rdRest, e]
    simp only
    rw [rdRest_at S _ (acc ++ [l]) (fun m hm => hok m (by simp [hm])) g h f]
    simp
theorem validT_len {W : List Int} {S : List (List Int)} (h : validT W S = true) : S.length = W.length + 1 ∧ W.length ≤ 3 := by
  unfold validT at h
  split at h
  · cases h
  · rename_i hb
    split at h
    · rename_i hl; exact ⟨hl, (bitsP_ne hb).2.1⟩
    · cases h
theorem listsB_bytes {ls : List (List Int)} (h : ∀ l ∈ ls, okInts l ∧ l.length ≤ 9223372036854775807) : ∀ b ∈ listsB ls, 0 ≤ b ∧ b < 256 := by
  intro b hb
  obtain ⟨l, hl, hb⟩ := List.mem_flatMap.1 hb
  exact intsB_bytes (h l hl).1 (h l hl).2 b hb
theorem listsB_len {n : Nat} : ∀ {ls : List (List Int)}, (∀ l ∈ ls, l.length ≤ n) → (listsB ls).length ≤ ls.length * (10 * n + 10)
  | [], _ => by simp [listsB]
  | l :: ls, h => by
    rw [listsB_cons, List.length_append, List.length_cons, Nat.succ_mul]
    have h1 := intsB_length_le l
    have h2 := h l (by simp)
    have h3 := listsB_len (ls := ls) (fun m hm => h m (by simp [hm]))
    omega
theorem read_backT {W : List Int} {S : List (List Int)} (hW : okInts W) (hS : ∀ l ∈ S, okInts l) (nW : W.length ≤ 5000) (nS : ∀ l ∈ S, l.length ≤ 5000) (hv : validT W S = true) : readTableP (sealB (strOfNums (listsB (W :: S)))) = (W, S, 0) := by
  have hok : ∀ l ∈ W :: S, okInts l ∧ l.length ≤ 9223372036854775807 := fun l hl => by
    rcases List.mem_cons.1 hl with rfl | hl
    · exact ⟨hW, by omega⟩
    · exact ⟨hS l hl, by have := nS l hl; omega⟩
  have hb : bytesOf (strOfNums (listsB (W :: S))) = listsB (W :: S) := bytesOf_sN (listsB_bytes hok)
  generalize strOfNums (listsB (W :: S)) = bd at hb
  obtain ⟨h1, h2⟩ := validT_len hv
  rw [readTableP_eq (openS_sealB bd), if_pos rfl]
  obtain ⟨e1, f1, g1, k1⟩ := rdListT_at (s := bd) (x := 0) hW (by omega) (by omega) (by omega) (by rw [show (0 : Int).toNat = 0 from rfl, List.drop_zero, hb, listsB_cons])
  rw [e1]
  simp only
  rw [wantT_small (by omega), show ((W.length : Int) + 2 - 1).toNat = S.length by omega]
  rw [rdRest_at S _ [W] (fun l hl => hok l (by simp [hl])) g1 k1 f1]
  simp only [rtOut, List.cons_append, List.nil_append, List.headD_cons, List.tail_cons]
  rw [if_neg (by omega)]
  exact if_pos hv
theorem few_any (W : List Int) (S : List (List Int)) : ∀ (d : Nat) (i x3 : Int), 0 ≤ i → i + d = 100 → ∃ b, EvR (fun k => unicodetextlaw15_few.l0 k x3 i W S) b := by
  intro d
  induction d with
  | zero =>
    intro i x3 h0 hd
    have he : ∃ b, EvR (fun k => if x3 ≤ 5000 then some (decide ((S.length : Int) < 100)) else some false) b := by
      by_cases c : x3 ≤ 5000
      · exact ⟨_, EvR.pos c (EvR.const _)⟩
      · exact ⟨_, EvR.neg c (EvR.const _)⟩
    obtain ⟨b, hb⟩ := he
    refine ⟨b, EvR.succ ?_⟩
    simp only [unicodetextlaw15_few.l0]
    by_cases c : i < (S.length : Int)
    · exact EvR.pos c (EvR.neg (by omega) hb)
    · exact EvR.neg c hb
  | succ d ih =>
    intro i x3 h0 hd
    by_cases c : i < (S.length : Int)
    · obtain ⟨b, hb⟩ := ih (i + 1) (wrap64 (x3 + (mn ((rd_L2 S i).length : Int) 10000))) (by omega) (by omega)
      refine ⟨b, EvR.succ ?_⟩
      simp only [unicodetextlaw15_few.l0]
      refine EvR.pos c (EvR.pos (by omega) (EvR.pos h0 ?_))
      rw [ww64 (x := i + 1) (by omega) (by omega)]
      exact hb
    · have he : ∃ b, EvR (fun k => if x3 ≤ 5000 then some (decide ((S.length : Int) < 100)) else some false) b := by
        by_cases c : x3 ≤ 5000
        · exact ⟨_, EvR.pos c (EvR.const _)⟩
        · exact ⟨_, EvR.neg c (EvR.const _)⟩
      obtain ⟨b, hb⟩ := he
      refine ⟨b, EvR.succ ?_⟩
      simp only [unicodetextlaw15_few.l0]
      exact EvR.neg c hb
theorem few_fin (S : List (List Int)) (x3 : Int) (h : x3 ≤ 5000 → (S.length : Int) < 100 → ∀ j : Int, 0 ≤ j → j < S.length → (rd_L2 S j).length ≤ 5000) : ∃ b, EvR (fun k => if x3 ≤ 5000 then some (decide ((S.length : Int) < 100)) else some false) b ∧ (b = true → (S.length : Int) < 100 ∧ ∀ j : Int, 0 ≤ j → j < S.length → (rd_L2 S j).length ≤ 5000) := by
  by_cases c : x3 ≤ 5000
  · refine ⟨_, EvR.pos c (EvR.const _), fun hb => ?_⟩
    have hb := of_decide_eq_true hb
    exact ⟨hb, h c hb⟩
  · exact ⟨_, EvR.neg c (EvR.const _), fun hb => by cases hb⟩
theorem few_small (W : List Int) (S : List (List Int)) : ∀ (d : Nat) (i x3 : Int), 0 ≤ i → i + d = 100 → 0 ≤ x3 → x3 ≤ 3 + 10000 * i → (∀ j : Int, 0 ≤ j → j < i → j < S.length → (rd_L2 S j).length ≤ 5000 ∨ 5000 < x3) →
    ∃ b, EvR (fun k => unicodetextlaw15_few.l0 k x3 i W S) b ∧ (b = true → (S.length : Int) < 100 ∧ ∀ j : Int, 0 ≤ j → j < S.length → (rd_L2 S j).length ≤ 5000) := by
  intro d
  induction d with
  | zero =>
    intro i x3 h0 hd h3 h3' hall
    obtain ⟨b, hb, hs⟩ := few_fin S x3 (fun c hS j j0 j1 => (hall j j0 (by omega) j1).resolve_right (by omega))
    refine ⟨b, EvR.succ ?_, hs⟩
    simp only [unicodetextlaw15_few.l0]
    by_cases c : i < (S.length : Int)
    · exact EvR.pos c (EvR.neg (by omega) hb)
    · exact EvR.neg c hb
  | succ d ih =>
    intro i x3 h0 hd h3 h3' hall
    by_cases c : i < (S.length : Int)
    · have hm : 0 ≤ mn ((rd_L2 S i).length : Int) 10000 ∧ mn ((rd_L2 S i).length : Int) 10000 ≤ 10000 ∧ ((rd_L2 S i).length ≤ 5000 ∨ 5000 < mn ((rd_L2 S i).length : Int) 10000) := by
        unfold mn
        split <;> omega
      have e3 : wrap64 (x3 + mn ((rd_L2 S i).length : Int) 10000) = x3 + mn ((rd_L2 S i).length : Int) 10000 := ww64 (by omega) (by omega)
      obtain ⟨b, hb, hs⟩ := ih (i + 1) (x3 + mn ((rd_L2 S i).length : Int) 10000) (by omega) (by omega) (by omega) (by omega) (fun j j0 j1 j2 => by
        by_cases e : j = i
        · subst e
          rcases hm.2.2 with h | h
          · exact .inl h
          · exact .inr (by omega)
        · rcases hall j j0 (by omega) j2 with h | h
          · exact .inl h
          · exact .inr (by omega))
      refine ⟨b, EvR.succ ?_, hs⟩
      simp only [unicodetextlaw15_few.l0]
      refine EvR.pos c (EvR.pos (by omega) (EvR.pos h0 ?_))
      rw [ww64 (x := i + 1) (by omega) (by omega), e3]
      exact hb
    · obtain ⟨b, hb, hs⟩ := few_fin S x3 (fun c2 hS j j0 j1 => (hall j j0 (by omega) j1).resolve_right (by omega))
      refine ⟨b, EvR.succ ?_, hs⟩
      simp only [unicodetextlaw15_few.l0]
      exact EvR.neg c hb
def tabOut (W : List Int) (S : List (List Int)) : ByteArray × Int := if validT W S = true then (sealB (strOfNums (listsB (W :: S))), 0) else ((⟨#[]⟩ : ByteArray), 11)
theorem ok_in {l : List Int} (h : okInts l) : l.all i64in = true := by
  rw [List.all_eq_true]
  intro x hx
  exact decide_eq_true (by have := h x hx; unfold i64ok at this; omega)
theorem Table_ev {W : List Int} {S : List (List Int)} (hW : okInts W) (hS : ∀ l ∈ S, okInts l ∧ l.length ≤ 5000) : EvR (fun k => image_Table.f k W S) (tabOut W S) := by
  unfold image_Table.f tabOut
  refine EvR.bind (validT_ev W S (fun l hl => ⟨by have := (hS l hl).2; omega, ok_in (hS l hl).1⟩)) ?_
  by_cases hv : validT W S = true
  · rw [if_pos hv]
    obtain ⟨n1, n2⟩ := validT_len hv
    have hlen := listsB_len (n := 5000) (ls := W :: S) (fun l hl => by
      rcases List.mem_cons.1 hl with rfl | hl
      · omega
      · exact (hS l hl).2)
    rw [List.length_cons] at hlen
    refine EvR.pos hv (EvR.bindc rfl (EvR.pos (by simp; omega) ?_))
    have hw := write_ev (ls := W :: S) (fun l hl => by
      rcases List.mem_cons.1 hl with rfl | hl
      · exact hW
      · exact (hS l hl).1) (by rw [List.length_cons]; omega) (by omega) (fun l hl => by
      rcases List.mem_cons.1 hl with rfl | hl
      · omega
      · have := (hS l hl).2; omega)
    exact EvR.bind hw (EvR.bind (image_Seal_ev _ (by rw [sN_size]; omega)) (EvR.const _))
  · rw [if_neg hv]
    exact EvR.neg hv (EvR.const _)
theorem RefTable_l0 {W : List Int} {S : List (List Int)} (hn : S.length ≤ 1000000) (hS : ∀ l ∈ S, okInts l ∧ l.length ≤ 5000) (d : Nat) : ∀ (a : List Int) (i : Int), 0 ≤ i → i ≤ S.length → (S.length : Int) - i = d → a.length + d * 60000 ≤ 1000000000 →
    EvR (fun k => unicodetextref15_Table.l0 k (strOfNums a) i W S) (sealB (strOfNums (a ++ listsB (S.drop i.toNat))), 0) := by
  induction d with
  | zero =>
    intro a i h0 h1 hd hl
    refine EvR.succ ?_
    simp only [unicodetextref15_Table.l0]
    rw [List.drop_eq_nil_of_le (by omega)]
    refine EvR.neg (by omega) (EvR.bind (ref_Seal_ev _ (by rw [sN_size]; omega)) ?_)
    simpa [listsB] using EvR.const _
  | succ d ih =>
    intro a i h0 h1 hd hl
    have hm := rd_L2_mem S i h0 (by omega)
    obtain ⟨g1, g2⟩ := hS _ hm
    have g3 := intsB_length_le (rd_L2 S i)
    rw [Nat.succ_mul] at hl
    refine EvR.succ ?_
    simp only [unicodetextref15_Table.l0]
    refine EvR.pos (by omega) (EvR.pos h0 (EvR.bind (ref_Ints_ev g1 (by omega)) (EvR.pos (by rw [sN_size, sN_size]; omega) ?_)))
    rw [ww64 (x := i + 1) (by omega) (by omega), ← sN_append, drop_rd_L2 S i h0 (by omega), listsB_cons, ← List.append_assoc]
    exact ih _ (i + 1) (by omega) (by omega) (by omega) (by rw [List.length_append]; omega)
theorem RefTable_ev {W : List Int} {S : List (List Int)} (hW : okInts W) (hS : ∀ l ∈ S, okInts l ∧ l.length ≤ 5000) : EvR (fun k => unicodetextref15_Table.f k W S) (tabOut W S) := by
  unfold unicodetextref15_Table.f tabOut
  refine EvR.bind (refValid_ev W S (fun l hl => by have := (hS l hl).2; omega)) ?_
  by_cases hv : validT W S = true
  · rw [if_pos hv]
    obtain ⟨n1, n2⟩ := validT_len hv
    have g3 := intsB_length_le W
    refine EvR.pos hv (EvR.bind (ref_Ints_ev hW (by omega)) ?_)
    have := RefTable_l0 (W := W) (by omega) hS S.length (intsB W) 0 (by omega) (by omega) (by omega) (by omega)
    rw [show (0 : Int).toNat = 0 from rfl, List.drop_zero, ← listsB_cons] at this
    exact this
  · rw [if_neg hv]
    exact EvR.neg hv (EvR.const _)
theorem Table_zero {W : List Int} {S : List (List Int)} (h : bitsP W = 0) : EvR (fun k => image_Table.f k W S) ((⟨#[]⟩ : ByteArray), 11) := by
  unfold image_Table.f
  refine EvR.bind (x := false) ?_ (EvR.neg (by simp) (EvR.const _))
  unfold multistage_Valid.f
  refine EvR.bind (bits_ev W) ?_
  exact EvR.pos h (EvR.step (h := fun _ => some _) (fun k => rfl) (EvR.const _))
theorem RefTable_zero {W : List Int} {S : List (List Int)} (h : bitsP W = 0) : EvR (fun k => unicodetextref15_Table.f k W S) ((⟨#[]⟩ : ByteArray), 11) := by
  unfold unicodetextref15_Table.f
  refine EvR.bind (x := false) ?_ (EvR.neg (by simp) (EvR.const _))
  unfold unicodetextref13_Valid.f
  refine EvR.bind (x := false) ?_ (EvR.neg (by simp) (EvR.const _))
  unfold unicodetextref13_Formed.f
  refine EvR.bind (refBits_ev W) ?_
  exact EvR.pos h (EvR.step (h := fun _ => some _) (fun k => rfl) (EvR.const _))
theorem ImageTables : ImageTables.Pure := by
  intro W S oW oS
  have hW := okInts_of_wf oW.2
  have hS0 : ∀ l ∈ S, okInts l := fun l hl => okInts_of_wf (oS.2 l hl).2
  refine EvR.exists_ ?_
  unfold unicodetextlaw15_ImageTables.f
  have al : EvR (fun k => (unicodetextlaw15_alive.f k).bind fun t => some t) true := EvR.bind alive15 (EvR.const _)
  have hbad : EvR (fun k => unicodetextlaw15_ImageTables.j0 k (⟨#[]⟩ : ByteArray) 11 ((11 : Int) != 11) W S) true := by
    refine EvR.succ ?_
    simp only [unicodetextlaw15_ImageTables.j0]
    exact EvR.neg (by simp) (EvR.neg (by simp) al)
  by_cases hw : W.length ≤ 3
  · obtain ⟨b, hb, hs⟩ := few_small W S 100 0 (W.length : Int) (by omega) (by omega) (by omega) (by omega) (fun j j0 j1 => by omega)
    refine EvR.bind (f := fun k => unicodetextlaw15_few.f k W S) hb ?_
    cases b with
    | false => exact EvR.neg (by simp) al
    | true =>
      obtain ⟨h1, h2⟩ := hs rfl
      have hS : ∀ l ∈ S, okInts l ∧ l.length ≤ 5000 := fun l hl => by
        refine ⟨hS0 l hl, ?_⟩
        obtain ⟨n, hn, rfl⟩ := List.mem_iff_getElem.1 hl
        have := h2 n (by omega) (by omega)
        rw [rd_L2_eq _ _ (by omega) (by omega)] at this
        simpa using this
      refine EvR.pos rfl (EvR.bind (Table_ev hW hS) (EvR.bind (RefTable_ev hW hS) (EvR.pos rfl ?_)))
      by_cases hv : validT W S = true
      · have hlen := listsB_len (n := 5000) (ls := W :: S) (fun l hl => by
          rcases List.mem_cons.1 hl with rfl | hl
          · omega
          · exact (hS l hl).2)
        obtain ⟨n1, n2⟩ := validT_len hv
        rw [List.length_cons] at hlen
        have hR : image_ReadTable.f (sealB (strOfNums (listsB (W :: S)))) = some (W, S, 0) := by
          unfold image_ReadTable.f
          rw [if_pos (by rw [sealB_size, sN_size]; omega), read_backT hW hS0 (by omega) (fun l hl => (hS l hl).2) hv]
        unfold tabOut
        rw [if_pos hv]
        refine EvR.succ ?_
        simp only [unicodetextlaw15_ImageTables.j0]
        refine EvR.neg (by simp) (EvR.pos trivial (EvR.bindc hR (EvR.bind (SameTables_refl (W := W) (S := S) (by omega) (fun l hl => by have := (hS l hl).2; omega) (by omega)) (EvR.pos rfl (EvR.pos rfl al)))))
      · unfold tabOut
        rw [if_neg hv]
        exact hbad
  · have h0 : bitsP W = 0 := Classical.byContradiction fun h => hw (bitsP_ne h).2.1
    obtain ⟨b, hb⟩ := few_any W S 100 0 (W.length : Int) (by omega) (by omega)
    refine EvR.bind (f := fun k => unicodetextlaw15_few.f k W S) hb ?_
    cases b with
    | false => exact EvR.neg (by simp) al
    | true => exact EvR.pos rfl (EvR.bind (Table_zero h0) (EvR.bind (RefTable_zero h0) (EvR.pos rfl hbad)))
end Go.Proofs.Ytdlijioedokgjaa.Pure

import Derived.Test.YtdlijioedokgjaaMSeen
import Derived.Test.YtdlijioedokgjaaMRefTab
import Derived.Test.YtdlijioedokgjaaQF56
import Derived.Test.YtdlijioedokgjaaQF77
import Derived.Test.YtdlijioedokgjaaQF78
import Derived.Test.YtdlijioedokgjaaQF79
import Derived.Test.YtdlijioedokgjaaQF43
/- The value of a table at a place, plainly: the program's Get and the reference's. -/
namespace Go.Proofs.Ytdlijioedokgjaa.Q
open Go.RowKit Go.Proofs.YtdlijioedokgjaaW.PrintWords Go.Proofs.YtdlijioedokgjaaW.PrintLast Go.Proofs.YtdlijioedokgjaaW.PrintMore
set_option linter.unusedVariables false
set_option linter.unusedSimpArgs false

theorem gw64 {x : Int} (h0 : -9223372036854775808 ≤ x) (h1 : x < 9223372036854775808) : wrap64 x = x := by unfold wrap64; omega
def lookG (c : Nat) : List Int → List (List Int) → Int → Int
  | w :: ws, s :: ss, n => lookG c ws ss (s.getD (n.toNat * pw w + c / szW ws % pw w) 0)
  | _, _, n => n
def getT (W : List Int) (S : List (List Int)) (c : Int) : Int :=
  if c < 0 then 0 else if c > 1114111 then 0 else if validT W S = true then lookG c.toNat W S.tail ((S.headD []).getD (c.toNat / szW W) 0) else 0
def sumW : List Int → Int
  | [] => 0
  | w :: r => w + sumW r
theorem bitsGo_sum : ∀ {W : List Int} {s : Int}, bitsGo s W ≠ 0 → bitsGo s W = s + sumW W
  | [], s, h => by
    simp only [bitsGo] at h ⊢
    split at h
    · exact absurd rfl h
    · split at h
      · exact absurd rfl h
      · rename_i h1 h2
        rw [if_neg h1, if_neg h2]; simp [sumW]
  | w :: r, s, h => by
    simp only [bitsGo] at h ⊢
    split at h
    · exact absurd rfl h
    · split at h
      · exact absurd rfl h
      · rename_i h1 h2
        rw [if_neg h1, if_neg h2, bitsGo_sum h, sumW]; omega
theorem bitsP_sum {W : List Int} (h : bitsP W ≠ 0) : bitsP W = sumW W := by
  unfold bitsP at h ⊢
  split at h
  · exact absurd rfl h
  · split at h
    · exact absurd rfl h
    · rename_i h1 h2
      rw [if_neg h1, if_neg h2, bitsGo_sum h]; omega
theorem sumW_le : ∀ {ws : List Int}, (∀ w ∈ ws, 1 ≤ w ∧ w ≤ 12) → 0 ≤ sumW ws ∧ sumW ws ≤ 12 * ws.length
  | [], _ => by simp [sumW]
  | w :: ws, h => by
    have h1 := sumW_le (ws := ws) (fun x hx => h x (by simp [hx]))
    have h2 := h w (by simp)
    rw [sumW, List.length_cons]; omega
theorem sumW_sz : ∀ {ws : List Int}, (∀ w ∈ ws, 1 ≤ w ∧ w ≤ 12) → pw (sumW ws) = szW ws
  | [], _ => rfl
  | w :: ws, h => by
    have h1 := sumW_le (ws := ws) (fun x hx => h x (by simp [hx]))
    have h2 := h w (by simp)
    rw [sumW, pw_add (by omega) h1.1, sumW_sz (fun x hx => h x (by simp [hx])), szW]
theorem bits_and_i64 (a b : Nat) (ha : a < 9223372036854775808) (hb : b < 9223372036854775808) : bits .and .i64 (a : Int) (b : Int) = ((a &&& b : Nat) : Int) := by
  have hx : a &&& b < 2 ^ 63 := Nat.and_lt_two_pow _ (by omega)
  have h1 : (BitVec.ofInt 64 (a : Int)).toNat = a := by
    rw [BitVec.ofInt_natCast, BitVec.toNat_ofNat]; exact Nat.mod_eq_of_lt (by omega)
  have h2 : (BitVec.ofInt 64 (b : Int)).toNat = b := by
    rw [BitVec.ofInt_natCast, BitVec.toNat_ofNat]; exact Nat.mod_eq_of_lt (by omega)
  show IntKind.i64.wrap ((BitVec.ofInt 64 (a : Int) &&& BitVec.ofInt 64 (b : Int)).toNat : Int) = _
  rw [BitVec.toNat_and, h1, h2, IntKind.wrap_i64]
  omega
theorem shl_n {w : Int} (n : Nat) (h0 : 1 ≤ w) (h1 : w ≤ 12) (hn : n ≤ 2000000) : shl .i64 (n : Int) w = ((n * pw w : Nat) : Int) := by
  have hp := pw_le h1
  have hm : n * pw w ≤ 2000000 * 4096 := Nat.mul_le_mul hn hp
  have e : shl .i64 (n : Int) w = wrap64 ((n : Int) * 2 ^ min w.toNat 64) := by simp [shl, IntKind.bits, i64_w]
  rw [e, Nat.min_eq_left (by omega), show ((2 : Int) ^ w.toNat) = ((pw w : Nat) : Int) by unfold pw; rw [Int.natCast_pow]; rfl, ← Int.natCast_mul]
  exact gw64 (by omega) (by omega)
theorem idx_facts {w left : Int} (n c : Nat) (h0 : 1 ≤ w) (h1 : w ≤ 12) (hn : n ≤ 2000000) (hc : c ≤ 1114111) (hl : 0 ≤ left) (hl2 : left ≤ 60) :
    wrap64 (shl .i64 (n : Int) w + bits .and .i64 (shr .i64 (c : Int) left) (wrap64 (shl .i64 1 w - 1))) = ((n * pw w + c / pw left % pw w : Nat) : Int) ∧
    wrap64 (shl .i64 (n : Int) w + Int.tmod (shr .i64 (c : Int) left) (shl .i64 1 w)) = ((n * pw w + c / pw left % pw w : Nat) : Int) := by
  have hp := pw_le h1
  have hpp := pw_pos w
  have hm : n * pw w ≤ 2000000 * 4096 := Nat.mul_le_mul hn hp
  have hd : c / pw left ≤ c := Nat.div_le_self _ _
  have hr := Nat.mod_lt (c / pw left) hpp
  rw [shl_n n h0 h1 hn, shr_w c hl2, shl_w h0 h1]
  have e1 : wrap64 ((pw w : Int) - 1) = ((pw w - 1 : Nat) : Int) := by rw [gw64 (by omega) (by omega)]; omega
  constructor
  · rw [e1, bits_and_i64 _ _ (by omega) (by omega)]
    have : c / pw left &&& (pw w - 1) = c / pw left % pw w := by unfold pw; exact Nat.and_two_pow_sub_one_eq_mod _ _
    rw [this, ← Int.natCast_add]
    exact gw64 (by omega) (by omega)
  · rw [Int.tmod_eq_emod_of_nonneg (Int.natCast_nonneg _), ← Int.natCast_emod, ← Int.natCast_add]
    exact gw64 (by omega) (by omega)
theorem rd_nat (l : List Int) (i : Nat) : rd l (i : Int) = l.getD i 0 := by
  unfold rd
  rw [Int.toNat_natCast]
theorem stage_step {prev s : List Int} {w : Int} {ws : List Int} {ss : List (List Int)} (h : stagesP prev (w :: ws) (s :: ss) = true) {n : Int} (hn : n ∈ prev) : stagesP s ws ss = true ∧ 0 ≤ n ∧ n < ((s.length / pw w : Nat) : Int) ∧ s.length = s.length / pw w * pw w := by
  rw [stagesP] at h
  split at h
  · cases h
  · split at h
    · rename_i h2
      split at h
      · rename_i h3
        split at h
        · have := freshP_all h3 n hn
          exact ⟨h, this.1, this.2, whole_eq h2⟩
        · cases h
      · cases h
    · cases h
theorem get_l0 {W : List Int} {S : List (List Int)} (hW : ∀ w ∈ W, 1 ≤ w ∧ w ≤ 12) (hl : S.length = W.length + 1) (hn : W.length ≤ 3) (hS : ∀ l ∈ S, l.length ≤ 2000000) {c : Nat} (hc : c ≤ 1114111) (d : Nat) : ∀ (i n : Int), 0 ≤ i → i ≤ W.length → (W.length : Int) - i = d → n ∈ rd_L2 S i → stagesP (rd_L2 S i) (W.drop i.toNat) (S.drop (i + 1).toNat) = true →
    EvR (fun k => multistage_Get.l0 k (c : Int) (sumW (W.drop i.toNat)) n W (W.length : Int) i W S) (lookG c (W.drop i.toNat) (S.drop (i + 1).toNat) n) := by
  induction d with
  | zero =>
    intro i n h0 h1 hd hm hs
    rw [List.drop_eq_nil_of_le (by omega)]
    exact EvR.step (fun k => rfl) (EvR.neg (by omega) (EvR.const _))
  | succ d ih =>
    intro i n h0 h1 hd hm hs
    have e2 : wrap64 (i + 1) = i + 1 := by unfold wrap64; omega
    have hsd : S.drop (i + 1).toNat = rd_L2 S (i + 1) :: S.drop (i + 1 + 1).toNat := drop_rd_L2 S (i + 1) (by omega) (by omega)
    have hwd := drop_rd W i h0 (by omega)
    obtain ⟨w1, w2⟩ := hW _ (rd_mem W i h0 (by omega))
    have s1 := hS _ (rd_L2_mem S (i + 1) (by omega) (by omega))
    rw [hsd, hwd] at hs ⊢
    obtain ⟨t1, t2, t3, t4⟩ := stage_step hs hm
    have hrest : ∀ w ∈ W.drop (i + 1).toNat, 1 ≤ w ∧ w ≤ 12 := fun w hw => hW w (List.mem_of_mem_drop hw)
    have hsum := sumW_le hrest
    have hlen : (W.drop (i + 1).toNat).length ≤ 3 := by rw [List.length_drop]; omega
    have hsz := sumW_sz hrest
    have e3 : wrap64 (sumW (rd W i :: W.drop (i + 1).toNat) - rd W i) = sumW (W.drop (i + 1).toNat) := by rw [sumW]; rw [gw64 (by omega) (by omega)]; omega
    obtain ⟨nn, rfl⟩ : ∃ nn : Nat, n = (nn : Int) := ⟨n.toNat, by omega⟩
    have hq : (rd_L2 S (i + 1)).length / pw (rd W i) ≤ (rd_L2 S (i + 1)).length := Nat.div_le_self _ _
    have hidx := (idx_facts nn c w1 w2 (by omega) hc hsum.1 (by omega) (left := sumW (W.drop (i + 1).toNat))).1
    have hlt : nn * pw (rd W i) + c / szW (W.drop (i + 1).toNat) % pw (rd W i) < (rd_L2 S (i + 1)).length := by
      have h3 := Nat.mod_lt (c / szW (W.drop (i + 1).toNat)) (pw_pos (rd W i))
      have h4 := Nat.mul_le_mul_right (pw (rd W i)) (show nn + 1 ≤ (rd_L2 S (i + 1)).length / pw (rd W i) by omega)
      rw [Nat.succ_mul] at h4
      omega
    rw [hsz] at hidx
    refine EvR.succ ?_
    simp only [multistage_Get.l0]
    rw [e2, e3, hidx]
    refine EvR.pos (by omega) (EvR.pos h0 (EvR.pos (by omega) (EvR.pos (by omega) (EvR.pos (by omega) (EvR.pos (by omega) (EvR.pos (by omega) (EvR.pos (Int.natCast_nonneg _) (EvR.pos (Int.ofNat_lt.2 hlt) ?_))))))))
    rw [rd_nat, lookG, Int.toNat_natCast]
    exact ih (i + 1) _ (by omega) (by omega) (by omega) (getD_mem hlt) t1
theorem valid_parts {W : List Int} {S : List (List Int)} (h : validT W S = true) : bitsP W ≠ 0 ∧ S.length = W.length + 1 ∧ (S.headD []).length = 1114112 / szW W ∧ stagesP (S.headD []) W S.tail = true := by
  unfold validT at h
  split at h
  · cases h
  · rename_i hb
    split at h
    · rename_i hl
      split at h
      · rename_i h0
        rw [bitsP_sz hb] at h0
        exact ⟨hb, hl, h0, h⟩
      · cases h
    · cases h
theorem top_facts {W : List Int} {S : List (List Int)} (h : validT W S = true) {c : Nat} (hc : c ≤ 1114111) : shr .i64 (c : Int) (bitsP W) = ((c / szW W : Nat) : Int) ∧ c / szW W < (S.headD []).length := by
  obtain ⟨hb, hl, h0, _⟩ := valid_parts h
  have hb2 := (bitsP_ne hb).2.2.2
  obtain ⟨s1, s2, s3, s4⟩ := sz_cover hb
  refine ⟨by rw [shr_w c (by omega), bitsP_sz hb], ?_⟩
  rw [h0]
  exact (Nat.div_lt_iff_lt_mul (szW_pos W)).2 (by omega)
theorem Get_ev (W : List Int) (S : List (List Int)) (hS : ∀ l ∈ S, l.length ≤ 2000000 ∧ l.all i64in = true) (c : Int) : EvR (fun k => multistage_Get.f k W S c) (getT W S c) := by
  unfold multistage_Get.f getT
  have hz : EvR (fun k => multistage_Get.j0 k c true W S) 0 := EvR.step (h := fun _ => some _) (fun k => rfl) (EvR.const _)
  by_cases c1 : c < 0
  · rw [if_pos c1]; exact EvR.pos c1 hz
  · rw [if_neg c1]
    refine EvR.neg c1 ?_
    by_cases c2 : c > 1114111
    · rw [if_pos c2]; exact EvR.pos c2 hz
    · rw [if_neg c2]
      refine EvR.neg c2 (EvR.bind (validT_ev W S hS) ?_)
      by_cases hv : validT W S = true
      · rw [if_pos hv, hv]
        obtain ⟨hb, hl, h0, hst⟩ := valid_parts hv
        obtain ⟨g1, g2, g3, g4, g5⟩ := bitsP_ne hb
        obtain ⟨cc, rfl⟩ : ∃ cc : Nat, c = (cc : Int) := ⟨c.toNat, by omega⟩
        obtain ⟨t1, t2⟩ := top_facts hv (c := cc) (by omega)
        refine EvR.succ ?_
        simp only [multistage_Get.j0, Bool.not_true]
        refine EvR.neg (by simp) (EvR.bind (bits_ev W) ?_)
        rw [t1, rd_L2_zero, rd_nat]
        refine EvR.pos (by omega) (EvR.pos (by omega) (EvR.pos (Int.natCast_nonneg _) (EvR.pos (Int.ofNat_lt.2 t2) ?_)))
        have hdrop : S.drop 1 = S.tail := List.drop_one
        have := get_l0 (W := W) (S := S) g3 hl g2 (fun l hl => (hS l hl).1) (c := cc) (by omega) W.length 0 ((S.headD []).getD (cc / szW W) 0) (by omega) (by omega) (by omega) (by rw [rd_L2_zero]; exact getD_mem t2) (by rw [rd_L2_zero]; simpa [hdrop] using hst)
        rw [bitsP_sum hb, Int.toNat_natCast]
        simpa [hdrop] using this
      · rw [if_neg hv, Bool.not_eq_true] at *
        rw [hv]
        exact hz
theorem look_l0 {W : List Int} {S : List (List Int)} (hW : ∀ w ∈ W, 1 ≤ w ∧ w ≤ 12) (hl : S.length = W.length + 1) (hn : W.length ≤ 3) (hS : ∀ l ∈ S, l.length ≤ 2000000) {c : Nat} (hc : c ≤ 1114111) (d : Nat) : ∀ (i n : Int), 0 ≤ i → i ≤ W.length → (W.length : Int) - i = d → n ∈ rd_L2 S i → stagesP (rd_L2 S i) (W.drop i.toNat) (S.drop (i + 1).toNat) = true →
    EvR (fun k => unicodetextref13_look.l0 k (c : Int) (sumW (W.drop i.toNat)) n (i + 1) W S) (lookG c (W.drop i.toNat) (S.drop (i + 1).toNat) n) := by
  induction d with
  | zero =>
    intro i n h0 h1 hd hm hs
    rw [List.drop_eq_nil_of_le (show W.length ≤ i.toNat by omega)]
    exact EvR.step (fun k => rfl) (EvR.neg (by omega) (EvR.const _))
  | succ d ih =>
    intro i n h0 h1 hd hm hs
    have e1 : wrap64 (i + 1 - 1) = i := by unfold wrap64; omega
    have e2 : wrap64 (i + 1 + 1) = i + 1 + 1 := by unfold wrap64; omega
    have hsd : S.drop (i + 1).toNat = rd_L2 S (i + 1) :: S.drop (i + 1 + 1).toNat := drop_rd_L2 S (i + 1) (by omega) (by omega)
    have hwd := drop_rd W i h0 (by omega)
    obtain ⟨w1, w2⟩ := hW _ (rd_mem W i h0 (by omega))
    have s1 := hS _ (rd_L2_mem S (i + 1) (by omega) (by omega))
    rw [hsd, hwd] at hs ⊢
    obtain ⟨t1, t2, t3, t4⟩ := stage_step hs hm
    have hrest : ∀ w ∈ W.drop (i + 1).toNat, 1 ≤ w ∧ w ≤ 12 := fun w hw => hW w (List.mem_of_mem_drop hw)
    have hsum := sumW_le hrest
    have hlen : (W.drop (i + 1).toNat).length ≤ 3 := by rw [List.length_drop]; omega
    have hsz := sumW_sz hrest
    have e3 : wrap64 (sumW (rd W i :: W.drop (i + 1).toNat) - rd W i) = sumW (W.drop (i + 1).toNat) := by rw [sumW]; rw [gw64 (by omega) (by omega)]; omega
    obtain ⟨nn, rfl⟩ : ∃ nn : Nat, n = (nn : Int) := ⟨n.toNat, by omega⟩
    have hq : (rd_L2 S (i + 1)).length / pw (rd W i) ≤ (rd_L2 S (i + 1)).length := Nat.div_le_self _ _
    have hidx := (idx_facts nn c w1 w2 (by omega) hc hsum.1 (by omega) (left := sumW (W.drop (i + 1).toNat))).2
    have hlt : nn * pw (rd W i) + c / szW (W.drop (i + 1).toNat) % pw (rd W i) < (rd_L2 S (i + 1)).length := by
      have h3 := Nat.mod_lt (c / szW (W.drop (i + 1).toNat)) (pw_pos (rd W i))
      have h4 := Nat.mul_le_mul_right (pw (rd W i)) (show nn + 1 ≤ (rd_L2 S (i + 1)).length / pw (rd W i) by omega)
      rw [Nat.succ_mul] at h4
      omega
    have hpp := pw_pos (rd W i)
    have hne : ¬ shl .i64 1 (rd W i) = 0 := by rw [shl_w w1 w2]; omega
    rw [hsz] at hidx
    refine EvR.succ ?_
    simp only [unicodetextref13_look.l0]
    rw [e1, e2, e3, hidx]
    refine EvR.pos (by omega) (EvR.pos (by omega) (EvR.pos (by omega) (EvR.pos (by omega) (EvR.pos (by omega) (EvR.pos (by omega) (EvR.neg hne (EvR.pos (Int.natCast_nonneg _) (EvR.pos (Int.ofNat_lt.2 hlt) ?_))))))))
    rw [rd_nat, lookG, Int.toNat_natCast]
    exact ih (i + 1) _ (by omega) (by omega) (by omega) (getD_mem hlt) t1
theorem RefGet_ev (W : List Int) (S : List (List Int)) (hS : ∀ l ∈ S, l.length ≤ 2000000) (c : Int) : EvR (fun k => unicodetextref13_Get.f k W S c) (getT W S c) := by
  unfold unicodetextref13_Get.f getT
  by_cases c1 : c < 0
  · rw [if_pos c1]; exact EvR.pos c1 (EvR.const _)
  · rw [if_neg c1]
    refine EvR.neg c1 ?_
    by_cases c2 : c > 1114111
    · rw [if_pos c2]; exact EvR.pos c2 (EvR.const _)
    · rw [if_neg c2]
      refine EvR.neg c2 (EvR.bind (refValid_ev W S hS) ?_)
      by_cases hv : validT W S = true
      · refine EvR.cast (EvR.pos hv ?_) (if_pos hv).symm
        refine EvR.bind (x := lookG c.toNat W S.tail ((S.headD []).getD (c.toNat / szW W) 0)) ?_ (EvR.const _)
        obtain ⟨hb, hl, h0, hst⟩ := valid_parts hv
        obtain ⟨g1, g2, g3, g4, g5⟩ := bitsP_ne hb
        obtain ⟨cc, rfl⟩ : ∃ cc : Nat, c = (cc : Int) := ⟨c.toNat, by omega⟩
        obtain ⟨t1, t2⟩ := top_facts hv (c := cc) (by omega)
        unfold unicodetextref13_look.f
        refine EvR.bind (refBits_ev W) ?_
        rw [t1, rd_L2_zero, rd_nat]
        refine EvR.pos (by omega) (EvR.pos (by omega) (EvR.pos (Int.natCast_nonneg _) (EvR.pos (Int.ofNat_lt.2 t2) ?_)))
        have hdrop : S.drop 1 = S.tail := List.drop_one
        have := look_l0 (W := W) (S := S) g3 hl g2 hS (c := cc) (by omega) W.length 0 ((S.headD []).getD (cc / szW W) 0) (by omega) (by omega) (by omega) (by rw [rd_L2_zero]; exact getD_mem t2) (by rw [rd_L2_zero]; simpa [hdrop] using hst)
        rw [bitsP_sum hb, Int.toNat_natCast]
        simpa [hdrop] using this
      · refine EvR.cast (EvR.neg hv (EvR.const _)) (if_neg hv).symm
/-! ### Size -/
def sumLen (S : List (List Int)) : Nat := (S.map List.length).sum
theorem sumLen_drop {S : List (List Int)} {i : Int} (h0 : 0 ≤ i) (h1 : i < S.length) : sumLen (S.drop i.toNat) = (rd_L2 S i).length + sumLen (S.drop (i + 1).toNat) := by
  rw [drop_rd_L2 S i h0 h1]
  simp [sumLen]
theorem size_l0 {S : List (List Int)} (hn : S.length ≤ 1000) (hS : ∀ l ∈ S, l.length ≤ 1000000000) (d : Nat) : ∀ (i s : Int), 0 ≤ i → i ≤ S.length → (S.length : Int) - i = d → 0 ≤ s → s ≤ 1000000000 * i → EvR (fun k => multistage_Size.l0 k s S (S.length : Int) i) (s + sumLen (S.drop i.toNat)) := by
  induction d with
  | zero =>
    intro i s h0 h1 hd hs0 hs1
    rw [List.drop_eq_nil_of_le (by omega)]
    refine EvR.step (fun k => rfl) (EvR.neg (by omega) ?_)
    simpa [sumLen] using EvR.const s
  | succ d ih =>
    intro i s h0 h1 hd hs0 hs1
    have hm := hS _ (rd_L2_mem S i h0 (by omega))
    refine EvR.step (fun k => rfl) (EvR.pos (by omega) (EvR.pos h0 (EvR.pos (by omega) ?_)))
    rw [gw64 (x := i + 1) (by omega) (by omega), gw64 (x := s + _) (by omega) (by omega)]
    refine (ih (i + 1) _ (by omega) (by omega) (by omega) (by omega) (by omega)).cast ?_
    rw [sumLen_drop h0 (by omega), Int.natCast_add, Int.add_assoc]
theorem Size_ev (W : List Int) {S : List (List Int)} (hn : S.length ≤ 1000) (hS : ∀ l ∈ S, l.length ≤ 1000000000) : EvR (fun k => multistage_Size.f k W S) (sumLen S : Int) := by
  unfold multistage_Size.f
  have := size_l0 hn hS S.length 0 0 (by omega) (by omega) (by omega) (by omega) (by omega)
  simpa using this
theorem refSize_l0 (W : List Int) {S : List (List Int)} (hn : S.length ≤ 1000) (hS : ∀ l ∈ S, l.length ≤ 1000000000) (d : Nat) : ∀ (i s : Int), 0 ≤ i → i ≤ S.length → (S.length : Int) - i = d → 0 ≤ s → s ≤ 1000000000 * i → EvR (fun k => unicodetextref13_Size.l0 k s i W S) (s + sumLen (S.drop i.toNat)) := by
  induction d with
  | zero =>
    intro i s h0 h1 hd hs0 hs1
    rw [List.drop_eq_nil_of_le (by omega)]
    refine EvR.step (fun k => rfl) (EvR.neg (by omega) ?_)
    simpa [sumLen] using EvR.const s
  | succ d ih =>
    intro i s h0 h1 hd hs0 hs1
    have hm := hS _ (rd_L2_mem S i h0 (by omega))
    refine EvR.step (fun k => rfl) (EvR.pos (by omega) (EvR.pos h0 ?_))
    rw [gw64 (x := i + 1) (by omega) (by omega), gw64 (x := s + _) (by omega) (by omega)]
    refine (ih (i + 1) _ (by omega) (by omega) (by omega) (by omega) (by omega)).cast ?_
    rw [sumLen_drop h0 (by omega), Int.natCast_add, Int.add_assoc]
theorem RefSize_ev (W : List Int) {S : List (List Int)} (hn : S.length ≤ 1000) (hS : ∀ l ∈ S, l.length ≤ 1000000000) : EvR (fun k => unicodetextref13_Size.f k W S) (sumLen S : Int) := by
  unfold unicodetextref13_Size.f
  have := refSize_l0 W hn hS S.length 0 0 (by omega) (by omega) (by omega) (by omega) (by omega)
  simpa using this
/-! ### small -/
theorem small_l0 (W : List Int) {S : List (List Int)} (hn : S.length ≤ 6) (d : Nat) : ∀ i : Int, 0 ≤ i → i ≤ S.length → (S.length : Int) - i = d → (∀ j : Int, 0 ≤ j → j < i → (rd_L2 S j).length ≤ 12000) →
    ∃ b, EvR (fun k => unicodetextlaw13_small.l0 k i W S) b ∧ (b = true → ∀ l ∈ S, l.length ≤ 12000) := by
  induction d with
  | zero =>
    intro i h0 h1 hd hall
    have hS : ∀ l ∈ S, l.length ≤ 12000 := fun l hl => by
      obtain ⟨n, hn', rfl⟩ := List.mem_iff_getElem.1 hl
      have := hall n (by omega) (by omega)
      rw [rd_L2_eq _ _ (by omega) (by omega)] at this
      simpa using this
    refine ⟨_, EvR.step (fun k => rfl) (EvR.neg (by omega) (EvR.bind (RefSize_ev W (by omega) (fun l hl => by have := hS l hl; omega)) (EvR.const _))), fun _ => hS⟩
  | succ d ih =>
    intro i h0 h1 hd hall
    by_cases c : ((rd_L2 S i).length : Int) > 12000
    · exact ⟨false, EvR.step (fun k => rfl) (EvR.pos (by omega) (EvR.pos h0 (EvR.pos c (EvR.const _)))), fun h => by cases h⟩
    · obtain ⟨b, hb, hs⟩ := ih (i + 1) (by omega) (by omega) (by omega) (fun j j0 j1 => by
        by_cases e : j = i
        · subst e; omega
        · exact hall j j0 (by omega))
      refine ⟨b, EvR.step (fun k => rfl) (EvR.pos (by omega) (EvR.pos h0 (EvR.neg c ?_))), hs⟩
      rw [gw64 (x := i + 1) (by omega) (by omega)]
      exact hb
theorem small_ev (W : List Int) (S : List (List Int)) : ∃ b, EvR (fun k => unicodetextlaw13_small.f k W S) b ∧ (b = true → W.length ≤ 6 ∧ S.length ≤ 6 ∧ ∀ l ∈ S, l.length ≤ 12000) := by
  unfold unicodetextlaw13_small.f
  have hf : EvR (fun k => unicodetextlaw13_small.j0 k true W S) false := by
    refine EvR.succ ?_
    simp only [unicodetextlaw13_small.j0]
    first | exact EvR.pos rfl (EvR.const _) | exact EvR.const _
  by_cases c : (W.length : Int) > 6
  · exact ⟨false, EvR.pos c hf, fun h => by cases h⟩
  · by_cases c2 : (S.length : Int) > 6
    · exact ⟨false, EvR.neg c (by rw [decide_eq_true c2]; exact hf), fun h => by cases h⟩
    · obtain ⟨b, hb, hs⟩ := small_l0 W (S := S) (by omega) S.length 0 (by omega) (by omega) (by omega) (fun j j0 j1 => by omega)
      refine ⟨b, EvR.neg c ?_, fun h => ⟨by omega, by omega, hs h⟩⟩
      rw [decide_eq_false c2]
      refine EvR.succ ?_
      simp only [unicodetextlaw13_small.j0]
      first | exact EvR.neg (by simp) hb | exact hb
end Go.Proofs.Ytdlijioedokgjaa.Q

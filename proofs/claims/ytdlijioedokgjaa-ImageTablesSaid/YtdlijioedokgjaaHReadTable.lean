/- Several texts in one file (mergeq.py): HTail, MTable, HReadTable. -/
import Derived.Test.YtdlijioedokgjaaHUnseal
import Derived.Test.YtdlijioedokgjaaMRead
import Derived.Test.YtdlijioedokgjaaQF76
/- Rows of rows of which the first one is cut off: l[1:] of a row of one's own. -/
namespace Go.Proofs.Ytdlijioedokgjaa.Q
open Go.RowKit Go.Proofs.YtdlijioedokgjaaW.PrintWords Go.Proofs.YtdlijioedokgjaaW.PrintLast Go.Proofs.YtdlijioedokgjaaW.PrintMore
set_option linter.unusedVariables false
set_option linter.unusedSimpArgs false

abbrev S26 (w : World) (B : Nat) (ok : Nat → Prop) (v : Value) (ls : List (List Int)) : Prop := Kd.S (Kd.slice 3 (Kd.int .i64)) 26 w B ok v ls
/-- A row of rows, whole, or what is left of one behind its first row. -/
def TS (w : World) (B : Nat) (ok : Nat → Prop) (v : Value) (ls : List (List Int)) : Prop :=
  S26 w B ok v ls ∨ ∃ gv c x, S26 w B ok (.slice (some ⟨gv, 0, none⟩) (ls.length + 1) c) (x :: ls) ∧ v = .slice (some ⟨gv, 1, none⟩) ls.length (c - 1) ∧ ls ≠ []
section
variable {w w1 W : World} {B : Nat} {ok ok' : Nat → Prop} {u v : Value} {ls : List (List Int)}
theorem TS.of (h : S26 w B ok v ls) : TS w B ok v ls := .inl h
theorem TS_map {w1 : World} {B1 : Nat} {ok1 : Nat → Prop} (h : TS w B ok v ls) (f : ∀ v xs, S26 w B ok v xs → S26 w1 B1 ok1 v xs) : TS w1 B1 ok1 v ls := by
  rcases h with h | ⟨gv, c, x, h, e⟩
  · exact .inl (f _ _ h)
  · exact .inr ⟨gv, c, x, f _ _ h, e⟩
theorem TS_mono (h : TS w B ok v ls) (hok : ∀ k, ok k → ok' k) : TS w B ok' v ls := TS_map h (fun _ _ h => Kd.S_mono h hok)
theorem TS_lower {B' : Nat} (h : TS w B ok v ls) (hb : B' ≤ B) : TS w B' ok v ls := TS_map h (fun _ _ h => Kd.S_lower h hb)
theorem TS_below (h : TS w B ok v ls) (hb : Below w.heap.size w w1) : TS w1 B ok v ls := TS_map h (fun _ _ h => Kd.S_below h hb)
theorem TS_alloc (h : TS w B ok v ls) (o : Obj) : TS (w.alloc o) B ok v ls := TS_map h (fun _ _ h => Kd.S_alloc h o)
theorem TS_drew (h : TS w B ok v ls) : TS w.drew B ok v ls := TS_map h (fun _ _ h => Kd.S_drew h)
theorem TS_drewN (h : TS w B ok v ls) (m : Nat) : TS (w.drewN m) B ok v ls := TS_map h (fun _ _ h => Kd.S_drewN h m)
theorem TS_far (h : TS w B ok v ls) {p : Addr} (hok : ∀ k, ok k → k ≠ p.block) (u : Value) : TS (w.setCell p u) B ok v ls := TS_map h (fun _ _ h => Kd.S_far h hok u)
theorem TS_types (h : TS w B ok v ls) {g t : Nat} {cells : Array Value} (hb : w.heap[g]? = some (.cells cells t (0, 0))) (ht : ∀ q, q ∈ 26 :: (Kd.slice 3 (Kd.int .i64)).E → q ≠ t) : TS w B (fun k => ok k ∧ k ≠ g) v ls := TS_map h (fun _ _ h => Kd.S_types h hb ht)
theorem TS_slice (h : TS w B ok v ls) : ∃ A c, v = .slice A ls.length c := by
  rcases h with h | ⟨gv, c, x, h, rfl, _⟩
  · exact Kd.S_slice h
  · exact ⟨_, _, rfl⟩
theorem TS_reads' {A : Option Addr} {n c : Nat} (h : TS w B ok (.slice A n c) ls) : n = ls.length ∧ n ≤ c ∧ Kd.C (Kd.slice 3 (Kd.int .i64)) w A ls.length ls := by
  rcases h with h | ⟨gv, c, x, h, e, hne⟩
  · exact Kd.S_reads' h
  · injection e with e1 e2 e3
    subst e1 e2 e3
    obtain ⟨h1, h2, h3⟩ := Kd.S_reads' h
    have hp := List.length_pos_iff.2 hne
    refine ⟨rfl, by omega, ?_⟩
    have := Kd.C_drop (m := 1) h3 (by simp) (c := c) (by simpa using h2)
    rw [if_neg (by omega)] at this
    exact this
end
/-- A row of rows, its first row, and its first row's header. -/
structure RT (W : World) (B gv c : Nat) (A0 : Option Addr) (q0 : Nat) (l0 : List Int) (rows : List (List Int)) : Prop where
  S : LS W B (.slice (some ⟨gv, 0, none⟩) (rows.length + 1) c) (l0 :: rows)
  z : W.cell? ⟨gv, 0, none⟩ = some (.slice A0 l0.length q0)
  R : Kd.R (Kd.int .i64) 3 W B (fun _ => True) (.slice A0 l0.length q0) l0
section
variable {W W1 : World} {B gv c q0 : Nat} {A0 : Option Addr} {l0 : List Int} {rows : List (List Int)}
theorem LS.rt {n : Nat} {A : Option Addr} (h : LS W B (.slice A n c) (l0 :: rows)) : ∃ gv A0 q0, A = some ⟨gv, 0, none⟩ ∧ n = rows.length + 1 ∧ RT W B gv c A0 q0 l0 rows := by
  obtain ⟨hn, hcap, hC⟩ := Kd.S_reads' h
  simp only [List.length_cons] at hn
  subst hn
  obtain ⟨ad, cs, e, _⟩ := Kd.C_get hC [] 0 (by omega) (by simp)
  subst e
  have h' := h
  obtain ⟨f, hf⟩ := h
  obtain ⟨gv, rfl⟩ := Kd.R_head hf
  obtain ⟨x0, hx0, ⟨v0, rfl, m0⟩, k0⟩ := Kd.R_getA hf ([], 0) 0 (by omega) (by omega)
  have e0 := k0 0 _ rfl
  simp only [Kd.tag, Kd.slice, Go.Proofs.YtdlijioedokgjaaW.PrintWords.add_plain] at e0
  have m0 : Kd.R (Kd.int .i64) 3 W B (fun k => _ ∧ f k = 0) v0 l0 := m0
  obtain ⟨A0, c0, rfl⟩ := Kd.R_slice m0
  exact ⟨gv, A0, c0, rfl, rfl, h', e0, Kd.R_mono m0 (fun _ _ => trivial)⟩
theorem RT.below (h : RT W B gv c A0 q0 l0 rows) (hb : Below W.heap.size W W1) : RT W1 B gv c A0 q0 l0 rows :=
  ⟨LS.below h.S hb, (World.cell?_of_block (hb.block _ (World.block_lt_of_cell? W _ h.z))).trans h.z, Kd.R_below h.R hb⟩
theorem RT.lower {B' : Nat} (h : RT W B gv c A0 q0 l0 rows) (hb : B' ≤ B) : RT W B' gv c A0 q0 l0 rows := ⟨Kd.S_lower h.S hb, h.z, Kd.R_lower h.R hb⟩
theorem RT.drew (h : RT W B gv c A0 q0 l0 rows) : RT W.drew B gv c A0 q0 l0 rows := h.below (below_drew1 (Below.refl _ _))
theorem RT.ne (h : RT W B gv c A0 q0 l0 rows) {g : Nat} {cells : Array Value} (hb : W.heap[g]? = some (.cells cells 46 (0, 0))) : g ≠ gv := by
  intro e
  obtain ⟨cs, hc⟩ := Kd.S_typed h.S gv rfl
  rw [← e, hb] at hc
  injection hc with hc
  injection hc with _ hc _
  exact absurd hc (by decide)
theorem RT.set (h : RT W B gv c A0 q0 l0 rows) {g : Nat} {cells : Array Value} (hb : W.heap[g]? = some (.cells cells 46 (0, 0))) (j : Nat) (u : Value) : RT (W.setCell ⟨g, j, none⟩ u) B gv c A0 q0 l0 rows :=
  ⟨Kd.S_set h.S hb (by decide) j u, (World.cell?_of_block (Below.heap_setCell W ⟨g, j, none⟩ u gv (fun e => h.ne hb e.symm))).trans h.z, Kd.R_set h.R hb (by decide) j u⟩
/-- What is left behind the first row. -/
theorem RT.tail (h : RT W B gv c A0 q0 l0 rows) (hr : rows ≠ []) : TS W B (fun _ => True) (.slice (some ⟨gv, 1, none⟩) rows.length (c - 1)) rows := .inr ⟨gv, c, l0, h.S, rfl, hr⟩
end
/-- A block of two heads (a table). -/
structure Blk2 (w : World) (g : Nat) (a b : Value) : Prop where
  blk : w.heap[g]? = some (.cells #[a, b] 46 (0, 0))
section
variable {w w1 : World} {g : Nat} {a b : Value}
theorem Blk2.c0 (h : Blk2 w g a b) : w.cell? ⟨g, 0, none⟩ = some a := (blk_cell h.blk 0).trans rfl
theorem Blk2.c1 (h : Blk2 w g a b) : w.cell? ⟨g, 1, none⟩ = some b := (blk_cell h.blk 1).trans rfl
theorem Blk2.f (h : Blk2 w g a b) (i : Nat) : w.frozen? ⟨g, i, none⟩ = false := blk_frozen h.blk i
theorem Blk2.below (h : Blk2 w g a b) (hb : Below w.heap.size w w1) : Blk2 w1 g a b := ⟨blk_below h.blk hb⟩
theorem Blk2.put (h : Blk2 w g a b) (x y : Value) : Blk2 ((w.setCell ⟨g, 0, none⟩ x).setCell ⟨g, 1, none⟩ y) g x y := ⟨blk_put (blk_put h.blk 0 x rfl) 1 y rfl⟩
theorem Blk2.drew (h : Blk2 w g a b) : Blk2 w.drew g a b := ⟨h.blk⟩
theorem Blk2.far (h : Blk2 w g a b) {g2 : Nat} (hne : g ≠ g2) (x y : Value) : Blk2 ((w.setCell ⟨g2, 0, none⟩ x).setCell ⟨g2, 1, none⟩ y) g a b :=
  ⟨blk_far (blk_far h.blk (p := ⟨g2, 0, none⟩) hne x) (p := ⟨g2, 1, none⟩) hne y⟩
theorem below_put2 {w W : World} {g : Nat} (h : Below w.heap.size w W) (hg : w.heap.size ≤ g) (x y : Value) : Below w.heap.size w ((W.setCell ⟨g, 0, none⟩ x).setCell ⟨g, 1, none⟩ y) := below_set (below_set h hg) hg
theorem RT.put2 {W : World} {B gv c q0 : Nat} {A0 : Option Addr} {l0 : List Int} {rows : List (List Int)} (h : RT W B gv c A0 q0 l0 rows) (hk : Blk2 W g a b) (x y : Value) : RT ((W.setCell ⟨g, 0, none⟩ x).setCell ⟨g, 1, none⟩ y) B gv c A0 q0 l0 rows :=
  (h.set hk.blk 0 x).set (blk_put hk.blk 0 x rfl) 1 y
end
end Go.Proofs.Ytdlijioedokgjaa.Q
/- Plain laws of tables: which are canonical, as the program says it (multistage.Valid). -/
namespace Go.Proofs.Ytdlijioedokgjaa.Q
open Go.RowKit Go.Proofs.YtdlijioedokgjaaW.PrintWords Go.Proofs.YtdlijioedokgjaaW.PrintLast Go.Proofs.YtdlijioedokgjaaW.PrintMore
set_option linter.unusedVariables false

/-! ### The widths -/
def bitsGo (s : Int) : List Int → Int
  | [] => if s < 9 then 0 else if s > 16 then 0 else s
  | w :: r => if w < 1 then 0 else if w > 12 then 0 else bitsGo (s + w) r
def bitsP (W : List Int) : Int := if (W.length : Int) < 1 then 0 else if (W.length : Int) > 3 then 0 else bitsGo 0 W
theorem bitsGo_ne : ∀ {W : List Int} {s : Int}, bitsGo s W ≠ 0 → (∀ w ∈ W, 1 ≤ w ∧ w ≤ 12) ∧ 9 ≤ bitsGo s W ∧ bitsGo s W ≤ 16
  | [], s, h => by
    simp only [bitsGo] at h ⊢
    split at h
    · exact absurd rfl h
    · split at h
      · exact absurd rfl h
      · rename_i h1 h2; rw [if_neg h1, if_neg h2]; exact ⟨by simp, by omega, by omega⟩
  | w :: r, s, h => by
    simp only [bitsGo] at h ⊢
    split at h
    · exact absurd rfl h
    · split at h
      · exact absurd rfl h
      · rename_i h1 h2
        rw [if_neg h1, if_neg h2]
        obtain ⟨g1, g2⟩ := bitsGo_ne h
        refine ⟨fun x hx => ?_, g2⟩
        rcases List.mem_cons.1 hx with rfl | hx
        · omega
        · exact g1 x hx
theorem bitsP_ne {W : List Int} (h : bitsP W ≠ 0) : 1 ≤ W.length ∧ W.length ≤ 3 ∧ (∀ w ∈ W, 1 ≤ w ∧ w ≤ 12) ∧ 9 ≤ bitsP W ∧ bitsP W ≤ 16 := by
  unfold bitsP at h ⊢
  split at h
  · exact absurd rfl h
  · split at h
    · exact absurd rfl h
    · rename_i h1 h2
      rw [if_neg h1, if_neg h2]
      obtain ⟨g1, g2⟩ := bitsGo_ne h
      exact ⟨by omega, by omega, g1, g2⟩
theorem bits_l0 {W : List Int} (hn : W.length ≤ 3) (d : Nat) : ∀ (s i : Int), 0 ≤ i → i ≤ W.length → (W.length : Int) - i = d → 0 ≤ s → s ≤ 12 * i → EvR (fun k => multistage_bits.l0 k s W (W.length : Int) i) (bitsGo s (W.drop i.toNat)) := by
  induction d with
  | zero =>
    intro s i h0 h1 hd hs hs2
    refine EvR.step (fun k => rfl) (EvR.neg (by omega) ?_)
    rw [List.drop_eq_nil_of_le (by omega)]
    simp only [bitsGo]
    by_cases c1 : s < 9
    · exact EvR.cast (EvR.pos c1 (EvR.const _)) (if_pos c1).symm
    · refine EvR.cast (EvR.neg c1 ?_) (if_neg c1).symm
      by_cases c2 : s > 16
      · exact EvR.cast (EvR.pos c2 (EvR.const _)) (if_pos c2).symm
      · exact EvR.cast (EvR.neg c2 (EvR.const _)) (if_neg c2).symm
  | succ d ih =>
    intro s i h0 h1 hd hs hs2
    refine EvR.step (fun k => rfl) (EvR.pos (by omega) (EvR.pos h0 (EvR.pos (by omega) ?_)))
    rw [drop_rd W i h0 (by omega)]
    simp only [bitsGo]
    by_cases c1 : rd W i < 1
    · rw [if_pos c1]; exact EvR.pos c1 (EvR.const _)
    · rw [if_neg c1]
      refine EvR.neg c1 ?_
      by_cases c2 : rd W i > 12
      · rw [if_pos c2]; exact EvR.pos c2 (EvR.const _)
      · rw [if_neg c2]
        refine EvR.neg c2 ?_
        have e1 : wrap64 (s + rd W i) = s + rd W i := by unfold wrap64; omega
        have e2 : wrap64 (i + 1) = i + 1 := by unfold wrap64; omega
        rw [e1, e2]
        exact ih _ _ (by omega) (by omega) (by omega) (by omega) (by omega)
theorem bits_ev (W : List Int) : EvR (fun k => multistage_bits.f k W) (bitsP W) := by
  unfold multistage_bits.f bitsP
  by_cases c1 : (W.length : Int) < 1
  · rw [if_pos c1]
    exact EvR.pos c1 (EvR.step (h := fun _ => some _) (fun k => rfl) (EvR.const _))
  · rw [if_neg c1]
    refine EvR.neg c1 ?_
    by_cases c2 : (W.length : Int) > 3
    · rw [if_pos c2]
      exact EvR.step (fun k => rfl) (EvR.pos (decide_eq_true c2) (EvR.const _))
    · rw [if_neg c2]
      refine EvR.step (fun k => rfl) (EvR.neg (by rw [decide_eq_false c2]; decide) ?_)
      have := bits_l0 (W := W) (by omega) W.length 0 0 (by omega) (by omega) (by omega) (by omega) (by omega)
      simpa using this
/-- 1 << w. -/
def pw (w : Int) : Nat := 2 ^ w.toNat
theorem pw_pos (w : Int) : 0 < pw w := Nat.pow_pos (by omega)
theorem pw_le {w : Int} (h : w ≤ 12) : pw w ≤ 4096 := by
  have := Nat.pow_le_pow_right (n := 2) (by omega) (show w.toNat ≤ 12 by omega)
  unfold pw; omega
theorem shl_w {w : Int} (h0 : 1 ≤ w) (h1 : w ≤ 12) : shl .i64 1 w = (pw w : Int) := by
  have : w = 1 ∨ w = 2 ∨ w = 3 ∨ w = 4 ∨ w = 5 ∨ w = 6 ∨ w = 7 ∨ w = 8 ∨ w = 9 ∨ w = 10 ∨ w = 11 ∨ w = 12 := by omega
  rcases this with rfl | rfl | rfl | rfl | rfl | rfl | rfl | rfl | rfl | rfl | rfl | rfl <;> decide
theorem shr_w {w : Int} (n : Nat) (h1 : w ≤ 60) : shr .i64 (n : Int) w = ((n / pw w : Nat) : Int) := by
  unfold shr pw
  rw [Nat.min_eq_left (show w.toNat ≤ IntKind.bits .i64 by show w.toNat ≤ 64; omega)]
  simp
/-! ### Numbers in the order of their first occurrences -/
def freshP (lim next : Int) : List Int → Bool
  | [] => next == lim
  | x :: r => if x < 0 ∨ x > next then false else freshP lim (if x = next then next + 1 else next) r
theorem fresh_l0 {l : List Int} {lim : Int} (hn : l.length ≤ 1000000000) (d : Nat) : ∀ (next i : Int), 0 ≤ i → i ≤ l.length → (l.length : Int) - i = d → 0 ≤ next → next ≤ i → EvR (fun k => multistage_fresh.l0 k lim next l (l.length : Int) i) (freshP lim next (l.drop i.toNat)) := by
  induction d with
  | zero =>
    intro next i h0 h1 hd hs hs2
    rw [List.drop_eq_nil_of_le (by omega)]
    exact EvR.step (fun k => rfl) (EvR.neg (by omega) (EvR.const _))
  | succ d ih =>
    intro next i h0 h1 hd hs hs2
    rw [drop_rd l i h0 (by omega), freshP]
    refine EvR.step (fun k => rfl) (EvR.pos (by omega) (EvR.pos h0 (EvR.pos (by omega) ?_)))
    have e1 : wrap64 (next + 1) = next + 1 := by unfold wrap64; omega
    have e2 : wrap64 (i + 1) = i + 1 := by unfold wrap64; omega
    by_cases c1 : rd l i < 0
    · rw [if_pos (.inl c1)]
      exact EvR.pos c1 (EvR.step (h := fun _ => some _) (fun k => rfl) (EvR.const _))
    · refine EvR.neg c1 ?_
      by_cases c2 : rd l i > next
      · rw [if_pos (.inr c2)]
        exact EvR.step (fun k => rfl) (EvR.pos (decide_eq_true c2) (EvR.const _))
      · rw [if_neg (by omega)]
        refine EvR.step (fun k => rfl) (EvR.neg (by rw [decide_eq_false c2]; decide) ?_)
        by_cases c3 : rd l i = next
        · rw [if_pos c3]
          refine EvR.pos c3 ?_
          rw [e1, e2]
          exact ih _ _ (by omega) (by omega) (by omega) (by omega) (by omega)
        · rw [if_neg c3]
          refine EvR.neg c3 ?_
          rw [e2]
          exact ih _ _ (by omega) (by omega) (by omega) (by omega) (by omega)
theorem fresh_ev {l : List Int} (lim : Int) (hn : l.length ≤ 1000000000) : EvR (fun k => multistage_fresh.f k l lim) (freshP lim 0 l) := by
  unfold multistage_fresh.f
  have := fresh_l0 (lim := lim) hn l.length 0 0 (by omega) (by omega) (by omega) (by omega) (by omega)
  simpa using this
/-! ### The stages -/
def stagesP (prev : List Int) : List Int → List (List Int) → Bool
  | w :: ws, s :: ss => if s.length = 0 then false else if s.length % pw w = 0 then (if freshP ((s.length / pw w : Nat) : Int) 0 prev = true then (if apartB s (pw w) (s.length / pw w) = true then stagesP s ws ss else false) else false) else false
  | _, _ => true
def validT (W : List Int) (S : List (List Int)) : Bool :=
  if bitsP W = 0 then false else if S.length = W.length + 1 then (if (S.headD []).length = 1114112 / pw (bitsP W) then stagesP (S.headD []) W S.tail else false) else false
theorem rd_L2_zero (S : List (List Int)) : rd_L2 S 0 = S.headD [] := by cases S <;> rfl
theorem valid_l0 {W : List Int} {S : List (List Int)} (hW : ∀ w ∈ W, 1 ≤ w ∧ w ≤ 12) (hl : S.length = W.length + 1) (hn : W.length ≤ 3) (hS : ∀ l ∈ S, l.length ≤ 1000000 ∧ l.all i64in = true) (d : Nat) : ∀ (i : Int), 0 ≤ i → i ≤ W.length → (W.length : Int) - i = d →
    EvR (fun k => multistage_Valid.l0 k W (W.length : Int) i W S) (stagesP (rd_L2 S i) (W.drop i.toNat) (S.drop (i + 1).toNat)) := by
  induction d with
  | zero =>
    intro i h0 h1 hd
    rw [List.drop_eq_nil_of_le (by omega)]
    exact EvR.step (fun k => rfl) (EvR.neg (by omega) (EvR.const _))
  | succ d ih =>
    intro i h0 h1 hd
    have e2 : wrap64 (i + 1) = i + 1 := by unfold wrap64; omega
    have hs : S.drop (i + 1).toNat = rd_L2 S (i + 1) :: S.drop (i + 1 + 1).toNat := drop_rd_L2 S (i + 1) (by omega) (by omega)
    obtain ⟨w1, w2⟩ := hW _ (rd_mem W i h0 (by omega))
    obtain ⟨s1, s2⟩ := hS _ (rd_L2_mem S (i + 1) (by omega) (by omega))
    obtain ⟨p1, p2⟩ := hS _ (rd_L2_mem S i (by omega) (by omega))
    rw [hs, drop_rd W i h0 (by omega), stagesP]
    have hpp := pw_pos (rd W i)
    have hpl := pw_le w2
    refine EvR.step (fun k => rfl) (EvR.pos (by omega) (EvR.pos h0 (EvR.pos (by omega) ?_)))
    rw [e2, shl_w w1 w2, shr_w _ (by omega)]
    refine EvR.pos (by omega) (EvR.pos (by omega) ?_)
    have ih' := ih (i + 1) (by omega) (by omega) (by omega)
    generalize rd_L2 S (i + 1) = s at *
    generalize pw (rd W i) = n at *
    by_cases c1 : s.length = 0
    · rw [if_pos c1]; exact EvR.pos (by omega) (EvR.const _)
    rw [if_neg c1]
    refine EvR.neg (by omega) (EvR.pos (by omega) (EvR.neg (by omega) ?_))
    by_cases c2 : s.length % n = 0
    · rw [if_pos c2]
      refine EvR.pos (by exact_mod_cast c2) (EvR.pos (by omega) (EvR.bind (fresh_ev _ (by omega)) ?_))
      by_cases c3 : freshP ((s.length / n : Nat) : Int) 0 (rd_L2 S i) = true
      · rw [if_pos c3]
        refine EvR.pos c3 (EvR.bindc (x := apartB s n (s.length / n)) ?_ ?_)
        · unfold multistage_differ.f
          rw [Int.toNat_natCast, if_pos ⟨by omega, c2, by omega, s2⟩]
        · by_cases c4 : apartB s n (s.length / n) = true
          · rw [if_pos c4]; exact EvR.pos c4 ih'
          · rw [if_neg c4]; exact EvR.neg c4 (EvR.const _)
      · rw [if_neg c3]; exact EvR.neg c3 (EvR.const _)
    · rw [if_neg c2]
      exact EvR.neg (fun h => c2 (by exact_mod_cast h)) (EvR.const _)
theorem validT_ev (W : List Int) (S : List (List Int)) (hS : ∀ l ∈ S, l.length ≤ 1000000 ∧ l.all i64in = true) : EvR (fun k => multistage_Valid.f k W S) (validT W S) := by
  unfold multistage_Valid.f validT
  refine EvR.bind (bits_ev W) ?_
  by_cases c1 : bitsP W = 0
  · rw [if_pos c1]
    exact EvR.pos c1 (EvR.step (h := fun _ => some _) (fun k => rfl) (EvR.const _))
  rw [if_neg c1]
  obtain ⟨g1, g2, g3, g4, g5⟩ := bitsP_ne c1
  have e1 : wrap64 ((W.length : Int) + 1) = (W.length : Int) + 1 := by unfold wrap64; omega
  refine EvR.neg c1 ?_
  rw [e1]
  by_cases c2 : S.length = W.length + 1
  · rw [if_pos c2]
    refine EvR.pos (by omega) (EvR.pos (by omega) (EvR.pos (by omega) ?_))
    have e3 : shr .i64 1114112 (bitsP W) = ((1114112 / pw (bitsP W) : Nat) : Int) := shr_w 1114112 (by omega)
    rw [e3, rd_L2_zero]
    by_cases c3 : (S.headD []).length = 1114112 / pw (bitsP W)
    · rw [if_pos c3]
      refine EvR.step (fun k => rfl) (EvR.neg (by rw [c3]; simp) ?_)
      have := valid_l0 g3 c2 g2 hS W.length 0 (by omega) (by omega) (by omega)
      rw [rd_L2_zero] at this
      simpa using this
    · rw [if_neg c3]
      refine EvR.step (fun k => rfl) (EvR.pos ?_ (EvR.const _))
      rw [bne_iff_ne]
      exact fun h => c3 (by exact_mod_cast h)
  · rw [if_neg c2]
    exact EvR.neg (by omega) (EvR.step (h := fun _ => some _) (fun k => rfl) (EvR.const _))
/-! ### What is read is in range -/
theorem rdList_facts {s : ByteArray} {x : Int} {p : List Int × Int} (h0 : 0 ≤ x) (h1 : x ≤ s.size) (h : rdList s x = .ok p) : okInts p.1 ∧ p.1.length ≤ s.size ∧ 0 ≤ p.2 ∧ p.2 ≤ s.size := by
  rw [rdList_L s x h0 h1] at h
  cases hr : rdListL ((bytesOf s).drop x.toNat) with
  | error c => rw [hr] at h; cases h
  | ok q =>
    rw [hr] at h
    obtain ⟨xs, rest⟩ := q
    obtain ⟨g1, g2⟩ := rdListL_canon (fun b hb => bytesOf_range s b (List.mem_of_mem_drop hb)) hr
    obtain ⟨_, g3, g4⟩ := drop_of_suffix s x.toNat _ _ g2
    simp only [toPos] at h
    injection h with h
    subst h
    refine ⟨g1, ?_, g3, g4⟩
    have hl := congrArg List.length g2
    rw [List.length_drop, bytesOf_length, List.length_append] at hl
    have h5 : xs.length ≤ (intsB xs).length := by
      unfold intsB
      rw [List.length_append]
      have : ∀ l : List Int, l.length ≤ (numsB l).length := by
        intro l
        induction l with
        | nil => simp
        | cons a l ih => rw [numsB_cons, List.length_append, List.length_cons]; have := numB_length_pos a; omega
      have := this xs
      omega
    show xs.length ≤ s.size
    omega
def goodL (N : Nat) (l : List Int) : Prop := okInts l ∧ l.length ≤ N
theorem rdRest_good (s : ByteArray) : ∀ (n : Nat) (x : Int) (acc : List (List Int)) (p : List (List Int) × Int), 0 ≤ x → x ≤ s.size → (∀ l ∈ acc, goodL s.size l) → rdRest s n x acc = .ok p → ∀ l ∈ p.1, goodL s.size l := by
  intro n
  induction n with
  | zero => intro x acc p h0 h1 ha h; simp only [rdRest] at h; injection h with h; subst h; exact ha
  | succ n ih =>
    intro x acc p h0 h1 ha h
    rw [rdRest] at h
    cases hr : rdList s x with
    | error d => rw [hr] at h; cases h
    | ok q =>
      rw [hr] at h
      obtain ⟨g1, g2, g3, g4⟩ := rdList_facts h0 h1 hr
      refine ih _ _ _ g3 g4 (fun l hl => ?_) h
      rcases List.mem_append.1 hl with hl | hl
      · exact ha l hl
      · rw [List.mem_singleton.1 hl]; exact ⟨g1, g2⟩
theorem goodL_in {N : Nat} {l : List Int} (h : goodL N l) : l.all i64in = true := by
  rw [List.all_eq_true]
  intro x hx
  obtain ⟨h1, h2⟩ := h.1 x hx
  exact decide_eq_true ⟨h1, by omega⟩
theorem openS_le (a0 : ByteArray) : (openS a0).1.size ≤ a0.size := by
  unfold openS
  split
  · exact Nat.zero_le _
  · split
    · rw [ByteArray.size_extract]; omega
    · exact Nat.zero_le _
theorem unseal_good {a0 : ByteArray} {p : List (List Int) × Int} {want : List Int → Int} (hr : unsealP a0 want = .ok p) : ∀ l ∈ p.1, goodL a0.size l := by
  have hle := openS_le a0
  unfold unsealP at hr
  split at hr
  · rw [rdAll] at hr
    cases hm : rdMany (openS a0).1 want 0 with
    | error d => rw [hm] at hr; cases hr
    | ok q =>
      rw [hm] at hr
      simp only at hr
      split at hr
      · cases hr
      · injection hr with hr
        subst hr
        rw [rdMany] at hm
        cases h1 : rdList (openS a0).1 0 with
        | error d => rw [h1] at hm; cases hm
        | ok r =>
          rw [h1] at hm
          obtain ⟨g1, g2, g3, g4⟩ := rdList_facts (by omega) (by omega) h1
          intro l hl
          obtain ⟨k1, k2⟩ := rdRest_good _ _ _ _ _ g3 g4 (fun l hl => by rw [List.mem_singleton.1 hl]; exact ⟨g1, g2⟩) hm l hl
          exact ⟨k1, by omega⟩
  · cases hr
theorem unseal_small {a0 : ByteArray} {p : List (List Int) × Int} {want : List Int → Int} {l0 : List Int} {rows : List (List Int)} (hs : a0.size ≤ 1000000) (hr : unsealP a0 want = .ok p) (hp : p.1 = l0 :: rows) : ∀ l ∈ rows, l.length ≤ 1000000 ∧ l.all i64in = true := by
  intro l hl
  have := unseal_good hr l (by rw [hp]; exact List.mem_cons_of_mem _ hl)
  exact ⟨Nat.le_trans this.2 hs, goodL_in this⟩
end Go.Proofs.Ytdlijioedokgjaa.Q
/- image.ReadTable by hand. (Printed by genreadtable.py.) -/
namespace Go.Proofs.Ytdlijioedokgjaa.Q
open Go.RowKit Go.Proofs.YtdlijioedokgjaaW.PrintWords Go.Proofs.YtdlijioedokgjaaW.PrintLast Go.Proofs.YtdlijioedokgjaaW.PrintMore
set_option linter.unusedVariables false
set_option linter.unusedSimpArgs false

/-- What a reader of tables answers. -/
def RTPost (w : World) (r : List Int × List (List Int) × Int) (e : Ending) (w' : World) : Prop :=
  ∃ v0 v1, e = .returned (.tuple #[.agg #[v0, v1], .int .i64 r.2.2]) ∧ Kd.R (Kd.int .i64) 3 w' w.heap.size (fun _ => True) v0 r.1 ∧ TS w' w.heap.size (fun _ => True) v1 r.2.1 ∧ Below w.heap.size w w'
theorem nilR (W : World) (B : Nat) : Kd.R (Kd.int .i64) 3 W B (fun _ => True) (.slice none 0 0) [] := Kd.R_nil _ _ _ _ _
theorem nilT (W : World) (B : Nat) : TS W B (fun _ => True) (.slice none 0 0) [] := TS.of (Kd.S_nil _ _ _ _ _)
theorem rtRest_len (s : ByteArray) : ∀ (n : Nat) (x : Int) (acc : List (List Int)) (p : List (List Int) × Int), rdRest s n x acc = .ok p → p.1.length = acc.length + n ∧ ∃ t, p.1 = acc ++ t := by
  intro n
  induction n with
  | zero => intro x acc p h; simp only [rdRest] at h; injection h with h; subst h; exact ⟨rfl, [], by simp⟩
  | succ n ih =>
    intro x acc p h
    rw [rdRest] at h
    cases hr : rdList s x with
    | error d => rw [hr] at h; cases h
    | ok q =>
      rw [hr] at h
      obtain ⟨h1, t, h2⟩ := ih _ _ _ h
      refine ⟨by rw [h1, List.length_append, List.length_singleton]; omega, q.1 :: t, by rw [h2, List.append_assoc]; rfl⟩
theorem rtElems_len (s : ByteArray) : ∀ (n : Nat) (x : Int) (acc : List Int) (p : List Int × Int), rdElems s n x acc = .ok p → p.1.length = acc.length + n := by
  intro n
  induction n with
  | zero => intro x acc p h; simp only [rdElems] at h; injection h with h; subst h; rfl
  | succ n ih =>
    intro x acc p h
    rw [rdElems] at h
    cases hr : rdn s 10 0 0 x with
    | error d => rw [hr] at h; cases h
    | ok q => rw [hr] at h; have := ih _ _ _ h; rw [this, List.length_append, List.length_singleton]; omega
theorem rdn_ge (s : ByteArray) : ∀ (n : Nat) (k u x : Int) (q : Int × Int), rdn s n k u x = .ok q → x ≤ q.2 := by
  intro n
  induction n with
  | zero => intro k u x q h; simp only [rdn] at h; injection h with h; subst h; exact Int.le_refl _
  | succ n ih =>
    intro k u x q h
    rw [rdn] at h
    split at h
    · split at h
      · cases h
      · split at h
        · injection h with h; subst h; show x ≤ x + 1; omega
        · have := ih _ _ _ _ h; omega
    · cases h
theorem rtList_len {s : ByteArray} {p : List Int × Int} (h : rdList s 0 = .ok p) : p.1.length ≤ s.size := by
  rw [rdList] at h
  cases hr : rdn s 10 0 0 0 with
  | error d => rw [hr] at h; cases h
  | ok q =>
    rw [hr] at h
    simp only at h
    split at h
    · cases h
    · rename_i hn
      have := rtElems_len _ _ _ _ _ h
      have := rdn_ge _ _ _ _ _ _ hr
      rw [List.length_nil] at *
      omega
theorem openS_size (a0 : ByteArray) : (openS a0).1.size ≤ a0.size := by
  unfold openS
  split
  · exact Nat.zero_le _
  · split
    · rw [ByteArray.size_extract]; omega
    · exact Nat.zero_le _
def wantT (l : List Int) : Int := wrap64 ((l.length : Int) + 2)
theorem wantT_small {l : List Int} (h : l.length ≤ 1000000) : wantT l = (l.length : Int) + 2 := by unfold wantT wrap64; omega
theorem unsealT {a0 : ByteArray} {p : List (List Int) × Int} (hs : (openS a0).1.size ≤ 1000000) (h : unsealP a0 wantT = .ok p) : ∃ l0 rows, p.1 = l0 :: rows ∧ rows.length = l0.length + 1 := by
  unfold unsealP at h
  split at h
  · rw [rdAll] at h
    cases hm : rdMany (openS a0).1 wantT 0 with
    | error d => rw [hm] at h; cases h
    | ok q =>
      rw [hm] at h
      simp only at h
      split at h
      · cases h
      · injection h with h
        subst h
        rw [rdMany] at hm
        cases hr : rdList (openS a0).1 0 with
        | error d => rw [hr] at hm; cases hm
        | ok r =>
          rw [hr] at hm
          obtain ⟨h1, t, h2⟩ := rtRest_len _ _ _ _ _ hm
          refine ⟨r.1, t, h2, ?_⟩
          rw [h2] at h1
          have := rtList_len hr
          rw [wantT_small (by omega)] at h1
          simp at h1
          omega
  · cases h
def readTableP (a0 : ByteArray) : List Int × List (List Int) × Int :=
  match unsealP a0 wantT with
  | .error c => ([], [], c)
  | .ok p => if validT (p.1.headD []) p.1.tail = true then (p.1.headD [], p.1.tail, 0) else ([], [], 11)
theorem wants119 : Wants 119 wantT where
  run := by
    intro A c l w hC hc
    go_enter Try.func119, Try.ntmps119
    go_wp2
    go_ret
    exact ⟨rfl, 0, rfl⟩
  enter := fun args w => enters_ Try.func119 (by kernel_rfl) rfl args w
def rt73.T4 : Bool × List (List Nat × List Nat) := (true, [([], []), ([0], [0]), ([1], [1]), ([], []), ([3], [3]), ([2, 4], [2, 4]), ([], []), ([6, 5, 0, 1, 2, 3, 4, 5, 6], [5, 6])])
def rt73.B4 : List Nat := [0, 1, 3, 0, 8, 31, 0, 127]
theorem rt73.tab4 : rtab .any (opsOf Try.f73 4) = rt73.T4 := by kernel_rfl
theorem rt73.bits4 : waitsOk rt73.T4.2 rt73.B4 = true := by kernel_rfl
theorem cut1 (gv N c : Nat) (h1 : 1 ≤ N) (h2 : 2 ≤ c) (W : World) : (Instr.slice 35 (.slice (some ⟨gv, 0, none⟩) N c) (some (.int .i64 1)) none none).run Try.prog W = .ok (.slice (some ⟨gv, 1, none⟩) (N - 1) (c - 1)) W := by
  obtain ⟨i, hi, hz, hsz, hb⟩ := info_parts info26
  have hel : Try.prog.elem 35 = 26 := by simp [Program.elem, Try.underlying35]
  have hu : Try.prog.underlying 35 = some (.slice (Try.prog.elem 35)) := by rw [hel]; exact Try.underlying35
  rw [run_slice_l W 35 (some ⟨gv, 0, none⟩) N c hu .i64 1 (by omega) (by omega), hel]
  have hne : ¬ c = 1 := by omega
  simp [sizeOf, typeInfo, hi, hsz, sliced, Result.andThen, hne]
  rfl
set_option maxHeartbeats 4000000 in
set_option maxRecDepth 100000 in
theorem readTable_calls (a0 : ByteArray) (w : World) (hs : a0.size ≤ 1000000) : Calls Try.prog 73 #[.string a0] w (RTPost w (readTableP a0)) := by
  have hu46 := Try.underlying46
  have HB := Aside0.mk (Below.refl w.heap.size w)
  obtain ⟨T, hT⟩ : ∃ T, T = readTableP a0 := ⟨_, rfl⟩
  rw [← hT]
  have hu := fun W => unseal_calls a0 119 wantT W wants119 (fun s hs2 p hp => by have := rtList_len hp; rw [wantT_small (by omega)]; omega) (by omega)
  cases hr : unsealP a0 wantT with
  | error c =>
    have HT := Aside0.mk (show T = ([], [], c) by rw [hT, readTableP, hr])
    rw [hr] at hu
    have HU := Aside0.mk hu
    clear hu hr hT hs
    go_enter Try.func73, Try.ntmps73
    go_wp2_with (first | ((with_reducible refine gate_dst (N := 2) rfl ?_); refine box_event ?hg (N := 2) ?hd (cs := #[.slice none 0 0, .slice none 0 0]) (t := 46) ?hr ?_; (case hd => rfl); (case hg => rfl); (case hr => first | (go_simp; done) | (go_simp; rfl)); intro g2 hg w1 hbox hb; have BK2 := Aside0.mk (Blk2.mk hbox); have EG2 := Aside0.mk (show w.heap.size ≤ g2 by omega); have N_ := Aside0.mk (below_step HB.out hb); clear HB; have HB := N_; clear N_; clear hg hbox hb) | (go_at_call 111; refine (HU.out _).mono ?_; rintro e w2 ⟨rfl, hc0, hb⟩; have HC0 := Aside0.mk (show (c != 0) = true by simpa using hc0); have t1 := HC0.out; have N_ := Aside0.mk (BK2.out.below hb); clear BK2; have BK2 := N_; clear N_; have N_ := Aside0.mk (below_step HB.out hb); clear HB; have HB := N_; clear N_; clear hb hc0; have z0 := BK2.out.c0; have z1 := BK2.out.c1; have fz0 := BK2.out.f 0; have fz1 := BK2.out.f 1))
    have N1 := BK2.out.put (.slice none 0 0) (.slice none 0 0)
    have N2 := below_put2 HB.out EG2.out (.slice none 0 0) (.slice none 0 0)
    clear z0 z1 fz0 fz1
    have z0 := N1.c0
    have z1 := N1.c1
    refine bodyPost_ret (by simp [results, Try.results73, go_sem, z0, z1]; rfl) rfl ?_
    rw [HT.out]
    exact ⟨_, _, rfl, nilR _ _, nilT _ _, N2⟩
  | ok p =>
    obtain ⟨l0, rows, hp, hlen⟩ := unsealT (by have := openS_size a0; omega) hr
    obtain ⟨b, hb⟩ : ∃ b, validT l0 rows = b := ⟨_, rfl⟩
    obtain ⟨k, hk⟩ := (validT_ev l0 rows (unseal_small hs hr hp)).exists_
    rw [hb] at hk
    have HK0 := Aside0.mk hk
    have HNE := Aside0.mk (show rows ≠ [] by intro e; rw [e] at hlen; simp at hlen)
    have HT2 := Aside0.mk (show T = if b = true then (l0, rows, 0) else ([], [], 11) by rw [hT, readTableP, hr]; simp only [hp, List.headD_cons, List.tail_cons, hb])
    rw [hr] at hu
    have HU := Aside0.mk (fun W => (hu W).mono (fun e w' (h : ∃ v, e = .returned (.tuple #[v, .int .i64 0]) ∧ LS w' W.heap.size v p.1 ∧ Below W.heap.size W w') => (show ∃ v, e = .returned (.tuple #[v, .int .i64 0]) ∧ LS w' W.heap.size v (l0 :: rows) ∧ Below W.heap.size W w' from hp ▸ h)))
    clear hu hr hT hs hp hb hk hlen
    go_enter Try.func73, Try.ntmps73
    go_wp2_with (first | ((with_reducible refine gate_dst (N := 2) rfl ?_); refine box_event ?hg (N := 2) ?hd (cs := #[.slice none 0 0, .slice none 0 0]) (t := 46) ?hr ?_; (case hd => rfl); (case hg => rfl); (case hr => first | (go_simp; done) | (go_simp; rfl)); intro g2 hg w1 hbox hb; have BK2 := Aside0.mk (Blk2.mk hbox); have EG2 := Aside0.mk (show w.heap.size ≤ g2 by omega); have N_ := Aside0.mk (below_step HB.out hb); clear HB; have HB := N_; clear N_; clear hg hbox hb) | (go_at_call 111; refine (HU.out _).mono ?_; rintro e w2 ⟨v, rfl, hL, hb⟩; have N_ := Aside0.mk (BK2.out.below hb); clear BK2; have BK2 := N_; clear N_; have HSZ := Aside0.mk (show w.heap.size ≤ w1.heap.size from HB.out.size); have N_ := Aside0.mk (below_step HB.out hb); clear HB; have HB := N_; clear N_; obtain ⟨A, c, rfl⟩ := LS.form hL; obtain ⟨gv, A0, q0, rfl, e4, hR⟩ := LS.rt hL; have HL := Aside0.mk (hR.lower HSZ.out); have HCC := Aside0.mk (Kd.S_reads' hL).2.1; (try clear e4); clear hb hL hR))
    rename_i K9 hK9
    have HL := Aside0.mk HL.out.drew
    have BK2 := Aside0.mk BK2.out.drew
    have HB := Aside0.mk (below_drew1 HB.out)
    have hsl := cut1 gv (rows.length + 1) c (by omega) (by have := HCC.out; have := List.length_pos_iff.2 HNE.out; simp only [List.length_cons] at *; omega)
    have hN0 : (0 : Int) < (((l0 :: rows).length : Nat) : Int) := by simp only [List.length_cons]; omega
    refine start_ (n := 8) (S := fun w' => w'.cell? ⟨gv, 0, none⟩ = some (.slice A0 l0.length q0)) (ds := [7]) #[false, false, false, false, false, false, false, false] (by kernel_rfl) rfl rfl (HL.out.z) (fun hHeld => ?_)
    refine with_tabW rt73.tab4 rt73.bits4 (fun HT_ HW_ => ?_)
    generalize w2.drew = w4 at HL BK2 HB hHeld ⊢
    refine pure_ (i := 0) (N := some 16) (v := ?_) (a' := ?_) #[true, false, false, false, false, false, false, false] rfl rfl (any_of HT_.out (by kernel_rfl)) (fun _ _ _ h => h) (Or.inl ⟨by rfl, ?_⟩) ?_ ?_
    rotate_left
    · intro w'
      go_simp
      with_reducible rfl
    rotate_left
    · simp only [Act.put, List.setIfInBounds_toArray, List.set_cons_zero, List.set_cons_succ, i64_w, i32_w]
      rfl
    refine pure_ (i := 1) (N := some 17) (v := ?_) (a' := ?_) #[true, true, false, false, false, false, false, false] rfl rfl (any_of HT_.out (by kernel_rfl)) (fun _ _ _ h => h) (Or.inl ⟨by rfl, ?_⟩) ?_ ?_
    rotate_left
    · intro w'
      go_simp
      with_reducible rfl
    rotate_left
    · simp only [Act.put, List.setIfInBounds_toArray, List.set_cons_zero, List.set_cons_succ, i64_w, i32_w]
      rfl
    refine pure_ (i := 3) (N := some 19) (v := ?_) (a' := ?_) #[true, true, false, true, false, false, false, false] rfl rfl (any_of HT_.out (by kernel_rfl)) (fun _ _ _ h => h) (Or.inl ⟨by rfl, ?_⟩) ?_ ?_
    rotate_left
    · intro w'
      go_simp
      with_reducible rfl
    rotate_left
    · simp only [Act.put, List.setIfInBounds_toArray, List.set_cons_zero, List.set_cons_succ, i64_w, i32_w]
      rfl
    refine pure_ (i := 4) (N := some 20) (v := ?_) (a' := ?_) #[true, true, false, true, true, false, false, false] rfl rfl (any_of HT_.out (by kernel_rfl)) (fun _ _ _ h => h) (Or.inl ⟨by rfl, ?_⟩) ?_ ?_
    rotate_left
    · intro w'
      go_simp
      with_reducible rfl
    rotate_left
    · simp only [Act.put, List.setIfInBounds_toArray, List.set_cons_zero, List.set_cons_succ, i64_w, i32_w]
      rfl
    refine take_ (i := 2) (N := some 18) (v := ?_) (a' := ?_) #[true, true, true, true, true, false, false, false] rfl rfl (take_ofW HT_.out HW_.out (by kernel_rfl)) (fun _ _ _ h => h) (Or.inl ⟨by rfl, ?_⟩) hHeld ?_ ?_
    rotate_left
    · intro w' s0
      go_simp
      with_reducible rfl
    rotate_left
    · simp only [Act.put, List.setIfInBounds_toArray, List.set_cons_zero, List.set_cons_succ, i64_w, i32_w]
      rfl
    refine pure_ (i := 5) (N := some 21) (v := ?_) (a' := ?_) #[true, true, true, true, true, true, false, false] rfl rfl (any_of HT_.out (by kernel_rfl)) (fun _ _ _ h => h) (Or.inl ⟨by rfl, ?_⟩) ?_ ?_
    rotate_left
    · intro w'
      go_simp
      with_reducible rfl
    rotate_left
    · simp only [Act.put, List.setIfInBounds_toArray, List.set_cons_zero, List.set_cons_succ, i64_w, i32_w]
      rfl
    refine one_ (i := 6) (N := some 6) #[true, true, true, true, true, true, true, false] rfl rfl (one_of HT_.out (by kernel_rfl)) (by decide) (fun K hK => ?_)
    refine event_step (v := .pointer (some ⟨w4.heap.size, 0, none⟩)) (w1 := w4.alloc (.cells #[.slice none 0 0, .slice none 0 0] 46)) (by rfl) ?hr ?_
    (case hr => first | (go_simp; done) | (go_simp; rfl))
    have hb := below_alloc (Below.refl w4.heap.size w4) (.cells #[.slice none 0 0, .slice none 0 0] 46)
    have N1 := Aside0.mk (HL.out.below hb)
    have N2 := Aside0.mk (BK2.out.below hb)
    have N4 := Aside0.mk (Blk2.mk (alloc_at w4 (.cells #[.slice none 0 0, .slice none 0 0] 46)))
    have NE := Aside0.mk (show g2 ≠ w4.heap.size by have := blk_lt BK2.out.blk; omega)
    have EG6 := Aside0.mk (show w.heap.size ≤ w4.heap.size from HB.out.size)
    have N3 := Aside0.mk (below_step HB.out hb)
    clear HL BK2 HB hb
    have HL := N1; have BK2 := N2; have HB := N3; have BK6 := N4
    clear N1 N2 N3 N4
    generalize w4.heap.size = g6 at BK6 NE EG6 ⊢
    generalize w4.alloc (.cells #[.slice none 0 0, .slice none 0 0] 46) = w5 at HL BK2 HB BK6 ⊢
    have z0 := BK6.out.c0
    have z1 := BK6.out.c1
    have fz0 := BK6.out.f 0
    have fz1 := BK6.out.f 1
    refine hK.out _ _ (HL.out.z) (fun hHeld => ?_)
    clear hK K
    refine norm_ (a' := ?_) ?_ ?_
    rotate_left
    · show Act.put _ (some 6) _ = _
      simp only [Act.put, List.setIfInBounds_toArray, List.set_cons_zero, List.set_cons_succ, i64_w, i32_w]
      rfl
    refine last_ (i := 7) (N := none) #[true, true, true, true, true, true, true, true] rfl rfl (one_of HT_.out (by kernel_rfl)) (by decide) (fun K hK => ?_)
    refine skip_ (w1 := ?_) (by rfl) rfl ?_ ?_
    rotate_left
    · go_simp
      rfl
    refine hK.out _ _ ?_
    clear hK K
    refine done_ (done_of HT_.out (by kernel_rfl)) ?_
    refine hK9 _ _ ?_
    have N1 := Aside0.mk (HL.out.put2 BK6.out (.slice A0 l0.length q0) (.slice (some ⟨gv, 1, none⟩) rows.length (c - 1)))
    have N2 := Aside0.mk (BK2.out.far NE.out (.slice A0 l0.length q0) (.slice (some ⟨gv, 1, none⟩) rows.length (c - 1)))
    have N3 := Aside0.mk (below_put2 HB.out EG6.out (.slice A0 l0.length q0) (.slice (some ⟨gv, 1, none⟩) rows.length (c - 1)))
    have N4 := Aside0.mk (BK6.out.put (.slice A0 l0.length q0) (.slice (some ⟨gv, 1, none⟩) rows.length (c - 1)))
    clear HL BK2 HB BK6 z0 z1 fz0 fz1
    have HL := N1; have BK2 := N2; have HB := N3; have BK6 := N4
    clear N1 N2 N3 N4
    generalize (w5.setCell ⟨g6, 0, none⟩ (.slice A0 l0.length q0)).setCell ⟨g6, 1, none⟩ (.slice (some ⟨gv, 1, none⟩) rows.length (c - 1)) = w6 at HL BK2 HB BK6 ⊢
    have z0 := BK6.out.c0
    have z1 := BK6.out.c1
    have fz0 := BK6.out.f 0
    have fz1 := BK6.out.f 1
    have ng := eq_false NE.out
    have ng2 := eq_false (Ne.symm NE.out)
    have HV := Aside0.mk (fun W A0 q0 A1 q1 h0 k0 h1 k1 => multistage_Valid.calls k A0 q0 l0 A1 q1 rows b W h0 k0 h1 k1 HK0.out)
    cases b with
    | false =>
      go_wp2_with (first | (go_at_call 76; refine (HV.out _ _ _ _ _ (Kd.R_reads' HL.out.R).2.2 (Kd.R_reads' HL.out.R).2.1 (TS_reads' (HL.out.tail HNE.out)).2.2 (TS_reads' (HL.out.tail HNE.out)).2.1).mono ?_; rintro e w7 ⟨rfl, hb⟩; have N1 := Aside0.mk (HL.out.below hb); have N2 := Aside0.mk (BK2.out.below hb); have N4 := Aside0.mk (BK6.out.below hb); have N3 := Aside0.mk (below_step HB.out hb); clear HL BK2 HB BK6 hb z0 z1 fz0 fz1; have HL := N1; have BK2 := N2; have HB := N3; have BK6 := N4; clear N1 N2 N3 N4; have z0 := BK6.out.c0; have z1 := BK6.out.c1; have fz0 := BK6.out.f 0; have fz1 := BK6.out.f 1; have z2 := BK2.out.c0; have z3 := BK2.out.c1; have fz2 := BK2.out.f 0; have fz3 := BK2.out.f 1))
      have N1 := BK2.out.put (.slice none 0 0) (.slice none 0 0)
      have N2 := below_put2 HB.out EG2.out (.slice none 0 0) (.slice none 0 0)
      clear z0 z1 z2 z3 fz0 fz1 fz2 fz3
      have z0 := N1.c0
      have z1 := N1.c1
      refine bodyPost_ret (by simp [results, Try.results73, go_sem, z0, z1]; rfl) rfl ?_
      rw [HT2.out]
      exact ⟨_, _, rfl, nilR _ _, nilT _ _, N2⟩
    | true =>
      go_wp2_with (first | (go_at_call 76; refine (HV.out _ _ _ _ _ (Kd.R_reads' HL.out.R).2.2 (Kd.R_reads' HL.out.R).2.1 (TS_reads' (HL.out.tail HNE.out)).2.2 (TS_reads' (HL.out.tail HNE.out)).2.1).mono ?_; rintro e w7 ⟨rfl, hb⟩; have N1 := Aside0.mk (HL.out.below hb); have N2 := Aside0.mk (BK2.out.below hb); have N4 := Aside0.mk (BK6.out.below hb); have N3 := Aside0.mk (below_step HB.out hb); clear HL BK2 HB BK6 hb z0 z1 fz0 fz1; have HL := N1; have BK2 := N2; have HB := N3; have BK6 := N4; clear N1 N2 N3 N4; have z0 := BK6.out.c0; have z1 := BK6.out.c1; have fz0 := BK6.out.f 0; have fz1 := BK6.out.f 1; have z2 := BK2.out.c0; have z3 := BK2.out.c1; have fz2 := BK2.out.f 0; have fz3 := BK2.out.f 1))
      have N1 := BK2.out.put (.slice A0 l0.length q0) (.slice (some ⟨gv, 1, none⟩) rows.length (c - 1))
      have N2 := below_put2 HB.out EG2.out (.slice A0 l0.length q0) (.slice (some ⟨gv, 1, none⟩) rows.length (c - 1))
      have N3 := HL.out.put2 BK2.out (.slice A0 l0.length q0) (.slice (some ⟨gv, 1, none⟩) rows.length (c - 1))
      clear z0 z1 z2 z3 fz0 fz1 fz2 fz3
      have z0 := N1.c0
      have z1 := N1.c1
      refine bodyPost_ret (by simp [results, Try.results73, go_sem, z0, z1]; rfl) rfl ?_
      rw [HT2.out]
      exact ⟨_, _, rfl, N3.R, N3.tail HNE.out, N2⟩
def image_ReadTable.f (a0 : ByteArray) : Option (List Int × (List (List Int)) × Int) := if a0.size ≤ 1000000 then some (readTableP a0) else none
theorem image_ReadTable.calls (a0 : ByteArray) (r1 : List Int) (r2 : List (List Int)) (r3 : Int) (w : World) (h : image_ReadTable.f a0 = some (r1, r2, r3)) :
    Calls Try.prog 73 #[.string a0] w fun e w' => ∃ v0_ v1_ : Value, e = .returned (.tuple #[.agg #[v0_, v1_], .int .i64 r3]) ∧ Kd.R (Kd.int .i64) 3 w' w.heap.size (fun _ => True) v0_ r1 ∧ TS w' w.heap.size (fun _ => True) v1_ r2 ∧ Below w.heap.size w w' := by
  unfold image_ReadTable.f at h
  split at h
  · rename_i hs
    injection h with h
    refine (readTable_calls a0 w hs).mono ?_
    rintro e w' ⟨v0, v1, rfl, hR, hS, hb⟩
    rw [h] at hR hS ⊢
    exact ⟨v0, v1, rfl, hR, hS, hb⟩
  · cases h
end Go.Proofs.Ytdlijioedokgjaa.Q

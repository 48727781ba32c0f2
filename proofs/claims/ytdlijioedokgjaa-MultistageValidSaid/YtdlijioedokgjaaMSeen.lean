/- Several texts in one file (mergeq.py): MMap, MBuild, MBuildV, MBuildD, MSeen. -/
import Derived.Test.YtdlijioedokgjaaMEv
import Derived.Maps.OwnSet
import Derived.Test.YtdlijioedokgjaaMTab
/- Maps to numbers as lists of pairs: what is found, and how many there are. -/
namespace Go.Proofs.Ytdlijioedokgjaa.Q
open Go.Maps
set_option linter.unusedVariables false

/-- The datum of a map whose last stores stand first. -/
def dataKV (kv : List (Lit × Int)) : DataW Unit := kv.foldr (fun p D => D.put p.1 (.lit (.int .i64 p.2))) (.map [])
def lookKV (kv : List (Lit × Int)) (k : Lit) : Option Int := (kv.find? fun p => p.1.sameKey k).map (·.2)
theorem lookKV_ne {p : Lit × Int} {kv : List (Lit × Int)} {k : Lit} (h : p.1 ≠ k) : lookKV (p :: kv) k = lookKV kv k := by
  unfold lookKV
  rw [List.find?_cons, sameKey_ne h]
theorem lookKV_eq {p : Lit × Int} {kv : List (Lit × Int)} (h : WideAt.IsKeyLit p.1) : lookKV (p :: kv) p.1 = some p.2 := by
  unfold lookKV
  rw [List.find?_cons, WideAt.sameKey_self h]; rfl
theorem dataKV_tidy : ∀ kv : List (Lit × Int), (∀ p ∈ kv, WideAt.IsKeyLit p.1) → Tidy (dataKV kv)
  | [], _ => tidy_empty
  | p :: kv, h => (dataKV_tidy kv (fun q hq => h q (by simp [hq]))).put (h p (by simp)) _
theorem has_KV : ∀ (kv : List (Lit × Int)) (k : Lit), (∀ p ∈ kv, WideAt.IsKeyLit p.1) → has (dataKV kv) k = (lookKV kv k).isSome
  | [], k, _ => rfl
  | p :: kv, k, h => by
    have ht := dataKV_tidy kv (fun q hq => h q (by simp [hq]))
    show has ((dataKV kv).put p.1 _) k = _
    by_cases e : p.1 = k
    · subst e
      rw [has_put_same ht.isMap (h p (by simp)), lookKV_eq (h p (by simp))]; rfl
    · rw [has_put_other (fun e' => e e'.symm), has_KV kv k (fun q hq => h q (by simp [hq])), lookKV_ne e]
theorem at_KV : ∀ (kv : List (Lit × Int)) (k : Lit) (x : Int) (z : DataW Unit), (∀ p ∈ kv, WideAt.IsKeyLit p.1) → lookKV kv k = some x → (dataKV kv).atKey k z = .lit (.int .i64 x)
  | [], k, x, z, _, h => by simp [lookKV] at h
  | p :: kv, k, x, z, h, hl => by
    have ht := dataKV_tidy kv (fun q hq => h q (by simp [hq]))
    show ((dataKV kv).put p.1 _).atKey k z = _
    by_cases e : p.1 = k
    · subst e
      rw [atKey_put_same ht.isMap (h p (by simp))]
      rw [lookKV_eq (h p (by simp))] at hl
      rw [Option.some.inj hl]
    · rw [atKey_put_other (fun e' => e e'.symm)]
      rw [lookKV_ne e] at hl
      exact at_KV kv k x z (fun q hq => h q (by simp [hq])) hl
theorem size_KV : ∀ (kv : List (Lit × Int)), (∀ p ∈ kv, WideAt.IsKeyLit p.1) → kv.Pairwise (fun p q => p.1 ≠ q.1) → size (dataKV kv) = kv.length
  | [], _, _ => rfl
  | p :: kv, h, hp => by
    have ht := dataKV_tidy kv (fun q hq => h q (by simp [hq]))
    rw [List.pairwise_cons] at hp
    show size ((dataKV kv).put p.1 _) = _
    rw [size_put ht, has_KV kv _ (fun q hq => h q (by simp [hq]))]
    have hn : lookKV kv p.1 = none := by
      unfold lookKV
      rw [Option.map_eq_none_iff, List.find?_eq_none]
      intro q hq
      rw [sameKey_ne (fun e => hp.1 q hq e.symm)]
      simp
    rw [hn, size_KV kv (fun q hq => h q (by simp [hq])) hp.2]
    rfl
end Go.Proofs.Ytdlijioedokgjaa.Q
/- multistage.Build plainly: what the program's builder computes, without a heap. -/
namespace Go.Proofs.Ytdlijioedokgjaa.Q
open Go.RowKit Go.Proofs.YtdlijioedokgjaaW.PrintWords Go.Proofs.YtdlijioedokgjaaW.PrintLast Go.Proofs.YtdlijioedokgjaaW.PrintMore
set_option linter.unusedVariables false

/-- A stage that is being built: its numbers, and the blocks that have one value everywhere. -/
structure Lv where
  rows : List Int
  ev : List (Int × Int)
def findP (m : Nat) (rows c : List Int) : Option Nat := (List.range (rows.length / m)).find? fun j => decide (partL rows m j = c)
def putP (m : Nat) (rows c : List Int) : Int × List Int :=
  match findP m rows c with
  | some j => ((j : Int), rows)
  | none => (((rows.length / m : Nat) : Int), rows ++ c)
def manyP (f : Nat → List Lv → Int × List Lv) : Nat → List Lv → List Int × List Lv
  | 0, σ => ([], σ)
  | k + 1, σ => ((manyP f k σ).1 ++ [(f k (manyP f k σ).2).1], (f k (manyP f k σ).2).2)
/-- The size of a block of the stage whose widths are these. -/
def szW : List Int → Nat
  | [] => 1
  | w :: ws => pw w * szW ws
def hitP (u : Int × Bool) (ev : List (Int × Int)) : Option Int := if u.2 = true then ev.lookup u.1 else none
def numP (U : Nat → Nat → Int × Bool) : List Int → Nat → List Lv → Int × List Lv
  | [], base, σ => ((U base (base + 1)).1, σ)
  | _ :: _, _, [] => (0, [])
  | w :: ws, base, L :: σ =>
    match hitP (U base (base + szW (w :: ws))) L.ev with
    | some k => (k, L :: σ)
    | none =>
      let r := manyP (fun k => numP U ws (base + k * szW ws)) (pw w) σ
      let q := putP (pw w) L.rows r.1
      (q.1, ⟨q.2, if (U base (base + szW (w :: ws))).2 = true then ((U base (base + szW (w :: ws))).1, q.1) :: L.ev else L.ev⟩ :: r.2)
/-- The stages of the table. -/
def stagesB (U : Nat → Nat → Int × Bool) (W : List Int) : List (List Int) :=
  let r := manyP (fun k => numP U W (0 + k * szW W)) (1114112 / szW W) (W.map fun _ => ⟨[], []⟩)
  r.1 :: r.2.map Lv.rows

theorem szW_pos : ∀ ws : List Int, 0 < szW ws
  | [] => Nat.one_pos
  | w :: ws => Nat.mul_pos (pw_pos w) (szW_pos ws)
theorem manyP_len (f : Nat → List Lv → Int × List Lv) (σ : List Lv) : ∀ k, (manyP f k σ).1.length = k
  | 0 => rfl
  | k + 1 => by rw [manyP, List.length_append, manyP_len f σ k]; rfl

theorem mem_lookup {k b : Int} : ∀ {l : List (Int × Int)}, l.lookup k = some b → (k, b) ∈ l := by
  intro l h
  obtain ⟨a, c, e, _⟩ := List.lookup_eq_some_iff.1 h
  rw [e]; simp
/-! ### What holds of a stage -/
structure GoodL (m b : Nat) (L : Lv) : Prop where
  whole : L.rows.length % m = 0
  short : L.rows.length ≤ b
  nums : L.rows.all i64in = true
  apart : apartB L.rows m (L.rows.length / m) = true
  few : L.ev.length ≤ b
  evs : ∀ p ∈ L.ev, i64in p.1 = true ∧ i64in p.2 = true
theorem GoodL.mono {m b b' : Nat} {L : Lv} (h : GoodL m b L) (hb : b ≤ b') : GoodL m b' L := ⟨h.whole, Nat.le_trans h.short hb, h.nums, h.apart, Nat.le_trans h.few hb, h.evs⟩
theorem apartB_zero (l : List Int) (m : Nat) : apartB l m 0 = true := by simp [apartB]
theorem GoodL.empty (m b : Nat) : GoodL m b ⟨[], []⟩ := ⟨Nat.zero_mod _, Nat.zero_le _, rfl, by rw [List.length_nil, Nat.zero_div]; exact apartB_zero _ _, Nat.zero_le _, by simp⟩
def GoodS : List Int → List Lv → Nat → Prop
  | [], [], _ => True
  | w :: ws, L :: σ, b => GoodL (pw w) b L ∧ GoodS ws σ b
  | _, _, _ => False
theorem GoodS.mono : ∀ {ws : List Int} {σ : List Lv} {b b' : Nat}, GoodS ws σ b → b ≤ b' → GoodS ws σ b'
  | [], [], _, _, _, _ => trivial
  | w :: ws, L :: σ, _, _, h, hb => ⟨h.1.mono hb, GoodS.mono h.2 hb⟩
  | [], _ :: _, _, _, h, _ => h.elim
  | _ :: _, [], _, _, h, _ => h.elim
theorem GoodS.empty : ∀ (ws : List Int) (b : Nat), GoodS ws (ws.map fun _ => ⟨[], []⟩) b
  | [], _ => trivial
  | w :: ws, b => ⟨GoodL.empty _ _, GoodS.empty ws b⟩
theorem GoodS.len : ∀ {ws : List Int} {σ : List Lv} {b : Nat}, GoodS ws σ b → σ.length = ws.length
  | [], [], _, _ => rfl
  | w :: ws, L :: σ, _, h => by rw [List.length_cons, List.length_cons, GoodS.len h.2]
  | [], _ :: _, _, h => h.elim
  | _ :: _, [], _, h => h.elim
theorem partL_app {rows c : List Int} {m j : Nat} (hj : (j + 1) * m ≤ rows.length) : partL (rows ++ c) m j = partL rows m j := by
  rw [Nat.succ_mul] at hj
  unfold partL
  rw [List.drop_append_of_le_length (by omega), List.take_append_of_le_length (by rw [List.length_drop]; omega)]
theorem partL_last {rows c : List Int} {m q : Nat} (hq : rows.length = q * m) (hc : c.length = m) : partL (rows ++ c) m q = c := by
  unfold partL
  rw [List.drop_append, hq, Nat.sub_self, List.drop_eq_nil_of_le (by omega), List.nil_append, List.drop_zero, List.take_of_length_le (by omega)]
theorem findP_none {m : Nat} {rows c : List Int} (h : findP m rows c = none) : ∀ j < rows.length / m, partL rows m j ≠ c := by
  intro j hj e
  have := List.find?_eq_none.1 h j (List.mem_range.2 hj)
  simp [e] at this
theorem findP_some {m j : Nat} {rows c : List Int} (h : findP m rows c = some j) : j < rows.length / m ∧ partL rows m j = c := by
  have h1 := List.mem_of_find?_eq_some h
  have h2 := List.find?_some h
  exact ⟨List.mem_range.1 h1, of_decide_eq_true h2⟩
theorem apartB_snoc {rows c : List Int} {m q : Nat} (hq : rows.length = q * m) (hc : c.length = m) (ha : apartB rows m q = true) (hn : ∀ j < q, partL rows m j ≠ c) : apartB (rows ++ c) m (q + 1) = true := by
  unfold apartB at ha ⊢
  have ha := of_decide_eq_true ha
  refine decide_eq_true ?_
  rw [List.range_succ, List.pairwise_append]
  have hp : ∀ j < q, partL (rows ++ c) m j = partL rows m j := fun j hj => partL_app (by rw [hq]; exact Nat.mul_le_mul_right m hj)
  refine ⟨?_, List.pairwise_singleton _ _, ?_⟩
  · exact ha.imp_of_mem (fun {i j} hi hj hij => by rw [hp i (List.mem_range.1 hi), hp j (List.mem_range.1 hj)]; exact hij)
  · intro j hj i hi
    rw [List.mem_singleton] at hi
    subst hi
    rw [partL_last hq hc, hp j (List.mem_range.1 hj)]
    exact hn j (List.mem_range.1 hj)
theorem whole_eq {n m : Nat} (h : n % m = 0) : n = n / m * m := by
  have := Nat.div_add_mod n m
  rw [Nat.mul_comm]; omega
theorem i64in_nat {n : Nat} (h : n ≤ 4611686018427387904) : i64in (n : Int) = true := decide_eq_true (by omega)
theorem putP_good {m b : Nat} {L : Lv} {c : List Int} (h : GoodL m b L) (hm : 0 < m) (hb : b ≤ 1114112) (hc : c.length = m) (hci : c.all i64in = true) :
    i64in (putP m L.rows c).1 = true ∧ (putP m L.rows c).2.length % m = 0 ∧ (putP m L.rows c).2.length ≤ b + m ∧ (putP m L.rows c).2.all i64in = true ∧ apartB (putP m L.rows c).2 m ((putP m L.rows c).2.length / m) = true := by
  obtain ⟨h1, h2, h3, h4, h5, h6⟩ := h
  have hw := whole_eq h1
  have hd : L.rows.length / m ≤ L.rows.length := Nat.div_le_self _ _
  unfold putP
  cases hf : findP m L.rows c with
  | some j =>
    obtain ⟨g1, g2⟩ := findP_some hf
    exact ⟨i64in_nat (by omega), h1, by simp only; omega, h3, h4⟩
  | none =>
    have g := findP_none hf
    simp only
    refine ⟨i64in_nat (by omega), ?_, ?_, ?_, ?_⟩
    · rw [List.length_append, hc, Nat.add_mod_right]; exact h1
    · rw [List.length_append]; omega
    · rw [List.all_append, h3, hci]; rfl
    · rw [List.length_append, hc, Nat.add_div_right _ hm]
      exact apartB_snoc hw hc h4 g
theorem num_good {U : Nat → Nat → Int × Bool} (hU : ∀ a b, i64in (U a b).1 = true) : ∀ (ws : List Int) (base : Nat) (σ : List Lv), GoodS ws σ base → base + szW ws ≤ 1114112 →
    i64in (numP U ws base σ).1 = true ∧ GoodS ws (numP U ws base σ).2 (base + szW ws)
  | [], base, [], h, hb => ⟨hU _ _, trivial⟩
  | [], base, _ :: _, h, hb => h.elim
  | w :: ws, base, [], h, hb => h.elim
  | w :: ws, base, L :: σ, h, hb => by
    obtain ⟨hL, hσ⟩ := h
    have hp := pw_pos w
    have hz := szW_pos ws
    rw [numP]
    cases hh : hitP (U base (base + szW (w :: ws))) L.ev with
    | some k =>
      simp only
      refine ⟨?_, hL.mono (by omega), hσ.mono (by omega)⟩
      unfold hitP at hh
      split at hh
      · exact (hL.evs _ (mem_lookup hh)).2
      · cases hh
    | none =>
      simp only
      have hmany : ∀ k, k ≤ pw w → (manyP (fun k => numP U ws (base + k * szW ws)) k σ).1.all i64in = true ∧ GoodS ws (manyP (fun k => numP U ws (base + k * szW ws)) k σ).2 (base + k * szW ws) := by
        intro k
        induction k with
        | zero => intro _; exact ⟨rfl, by rw [Nat.zero_mul]; exact hσ⟩
        | succ k ih =>
          intro hk
          obtain ⟨i1, i2⟩ := ih (by omega)
          have hle : (k + 1) * szW ws ≤ szW (w :: ws) := Nat.mul_le_mul_right _ hk
          rw [Nat.succ_mul] at hle
          obtain ⟨g1, g2⟩ := num_good hU ws (base + k * szW ws) _ i2 (by omega)
          refine ⟨?_, ?_⟩
          · rw [manyP, List.all_append, i1]; simp [g1]
          · rw [manyP, Nat.succ_mul, ← Nat.add_assoc]; exact g2
      obtain ⟨m1, m2⟩ := hmany (pw w) (Nat.le_refl _)
      have hle2 : pw w ≤ szW (w :: ws) := Nat.le_mul_of_pos_right _ hz
      obtain ⟨p1, p2, p3, p4, p5⟩ := putP_good hL hp (by omega) (manyP_len _ σ (pw w)) m1
      refine ⟨p1, ⟨p2, by simp only; omega, p4, p5, ?_, ?_⟩, m2⟩
      · simp only
        have := hL.few
        split
        · rw [List.length_cons]; omega
        · omega
      · simp only
        intro p hpm
        split at hpm
        · rcases List.mem_cons.1 hpm with rfl | hpm
          · exact ⟨hU _ _, p1⟩
          · exact hL.evs p hpm
        · exact hL.evs p hpm
theorem many_good {U : Nat → Nat → Int × Bool} (hU : ∀ a b, i64in (U a b).1 = true) (ws : List Int) (base : Nat) (σ : List Lv) (h : GoodS ws σ base) : ∀ k : Nat, base + k * szW ws ≤ 1114112 →
    (manyP (fun k => numP U ws (base + k * szW ws)) k σ).1.all i64in = true ∧ GoodS ws (manyP (fun k => numP U ws (base + k * szW ws)) k σ).2 (base + k * szW ws) := by
  intro k
  induction k with
  | zero => intro _; exact ⟨rfl, by rw [Nat.zero_mul]; exact h⟩
  | succ k ih =>
    intro hk
    rw [Nat.succ_mul] at hk
    obtain ⟨i1, i2⟩ := ih (by omega)
    obtain ⟨g1, g2⟩ := num_good hU ws (base + k * szW ws) _ i2 (by omega)
    refine ⟨?_, ?_⟩
    · rw [manyP, List.all_append, i1]; simp [g1]
    · rw [manyP, Nat.succ_mul, ← Nat.add_assoc]; exact g2
end Go.Proofs.Ytdlijioedokgjaa.Q
/- The table that multistage.Build makes is canonical, and its values are those that were asked for. -/
namespace Go.Proofs.Ytdlijioedokgjaa.Q
open Go.RowKit Go.Proofs.YtdlijioedokgjaaW.PrintWords Go.Proofs.YtdlijioedokgjaaW.PrintLast Go.Proofs.YtdlijioedokgjaaW.PrintMore
set_option linter.unusedVariables false

/-! ### First occurrences in order -/
def scanN : Nat → List Int → Option Nat
  | c, [] => some c
  | c, x :: r => if x < 0 ∨ x > (c : Int) then none else scanN (if x = (c : Int) then c + 1 else c) r
theorem scanN_fresh : ∀ {l : List Int} {c d : Nat}, scanN c l = some d → freshP (d : Int) (c : Int) l = true
  | [], c, d, h => by simp only [scanN, Option.some.injEq] at h; subst h; simp [freshP]
  | x :: r, c, d, h => by
    rw [scanN] at h
    split at h
    · cases h
    · rename_i hx
      rw [freshP, if_neg hx]
      have := scanN_fresh h
      by_cases e : x = (c : Int)
      · rw [if_pos e] at this ⊢; exact_mod_cast this
      · rw [if_neg e] at this ⊢; exact this
theorem scanN_append : ∀ (a b : List Int) (c : Nat), scanN c (a ++ b) = (scanN c a).bind fun d => scanN d b
  | [], b, c => rfl
  | x :: a, b, c => by
    rw [List.cons_append, scanN, scanN]
    split
    · rfl
    · exact scanN_append a b _
theorem scanN_le : ∀ {l : List Int} {c d : Nat}, scanN c l = some d → c ≤ d
  | [], c, d, h => by simp only [scanN, Option.some.injEq] at h; omega
  | x :: r, c, d, h => by
    rw [scanN] at h
    split at h
    · cases h
    · have := scanN_le h
      split at this <;> omega
theorem scanN_mem : ∀ {l : List Int} {c d : Nat}, scanN c l = some d → ∀ x ∈ l, 0 ≤ x ∧ x < (d : Int)
  | [], c, d, h, x, hx => by cases hx
  | y :: r, c, d, h, x, hx => by
    rw [scanN] at h
    split at h
    · cases h
    · rcases List.mem_cons.1 hx with rfl | hx
      · have := scanN_le h
        split at this <;> omega
      · exact scanN_mem h x hx
theorem scanN_stay : ∀ {l : List Int} {c : Nat}, (∀ x ∈ l, 0 ≤ x ∧ x < (c : Int)) → scanN c l = some c
  | [], c, h => rfl
  | x :: r, c, h => by
    have h1 := h x (by simp)
    rw [scanN, if_neg (by omega), if_neg (by omega)]
    exact scanN_stay (fun y hy => h y (by simp [hy]))
theorem scanN_zero {l : List Int} {d : Nat} (h : scanN 0 l = some d) (hl : l ≠ []) : 0 < d := by
  cases l with
  | nil => exact absurd rfl hl
  | cons x r => have := scanN_mem h x (by simp); omega

def cntS : List Int → List Lv → Nat
  | w :: _, L :: _ => L.rows.length / pw w
  | _, _ => 0
def FreshS : List Int → List Lv → Prop
  | w :: ws, L :: σ => (ws ≠ [] → scanN 0 L.rows = some (cntS ws σ)) ∧ (∀ p ∈ L.ev, 0 ≤ p.2 ∧ p.2 < ((L.rows.length / pw w : Nat) : Int)) ∧ FreshS ws σ
  | _, _ => True
theorem FreshS.empty : ∀ ws : List Int, FreshS ws (ws.map fun _ => ⟨[], []⟩)
  | [] => trivial
  | [w] => ⟨fun h => absurd rfl h, by simp, trivial⟩
  | w :: w' :: ws => ⟨fun _ => by simp [scanN, cntS], by simp, FreshS.empty (w' :: ws)⟩
theorem mem_part {l : List Int} {m j : Nat} {x : Int} (h : x ∈ partL l m j) : x ∈ l := List.mem_of_mem_drop (List.mem_of_mem_take h)
theorem many_fresh {U : Nat → Nat → Int × Bool} {ws : List Int} {base : Nat} (hU : ∀ a b, i64in (U a b).1 = true)
    (ih : ∀ b σ, GoodS ws σ b → FreshS ws σ → b + szW ws ≤ 1114112 → (ws ≠ [] → scanN (cntS ws σ) [(numP U ws b σ).1] = some (cntS ws (numP U ws b σ).2)) ∧ FreshS ws (numP U ws b σ).2)
    {σ : List Lv} (hg : GoodS ws σ base) (hf : FreshS ws σ) : ∀ k : Nat, base + k * szW ws ≤ 1114112 →
    (ws ≠ [] → scanN (cntS ws σ) (manyP (fun k => numP U ws (base + k * szW ws)) k σ).1 = some (cntS ws (manyP (fun k => numP U ws (base + k * szW ws)) k σ).2)) ∧ FreshS ws (manyP (fun k => numP U ws (base + k * szW ws)) k σ).2 := by
  intro k
  induction k with
  | zero => intro _; exact ⟨fun _ => rfl, hf⟩
  | succ k ihk =>
    intro hk
    rw [Nat.succ_mul] at hk
    obtain ⟨i1, i2⟩ := ihk (by omega)
    obtain ⟨g1, g2⟩ := ih (base + k * szW ws) _ (many_good hU ws base σ hg k (by omega)).2 i2 (by omega)
    refine ⟨fun hne => ?_, g2⟩
    rw [manyP, scanN_append, i1 hne]
    exact g1 hne
theorem num_fresh {U : Nat → Nat → Int × Bool} (hU : ∀ a b, i64in (U a b).1 = true) : ∀ (ws : List Int) (base : Nat) (σ : List Lv), GoodS ws σ base → FreshS ws σ → base + szW ws ≤ 1114112 →
    (ws ≠ [] → scanN (cntS ws σ) [(numP U ws base σ).1] = some (cntS ws (numP U ws base σ).2)) ∧ FreshS ws (numP U ws base σ).2
  | [], base, [], _, _, hb => ⟨fun h => absurd rfl h, trivial⟩
  | [], base, _ :: _, h, _, hb => h.elim
  | w :: ws, base, [], h, _, hb => h.elim
  | w :: ws, base, L :: σ, h, hf, hb => by
    obtain ⟨hL, hσ⟩ := h
    obtain ⟨f1, f2, f3⟩ := hf
    have hp := pw_pos w
    have hz := szW_pos ws
    rw [numP]
    cases hh : hitP (U base (base + szW (w :: ws))) L.ev with
    | some k =>
      simp only
      have hm : ∃ v, (v, k) ∈ L.ev := by
        unfold hitP at hh
        split at hh
        · exact ⟨_, mem_lookup hh⟩
        · cases hh
      obtain ⟨v, hm⟩ := hm
      have h2 := f2 _ hm
      refine ⟨fun _ => scanN_stay (fun x hx => ?_), f1, f2, f3⟩
      rw [List.mem_singleton] at hx
      subst hx
      exact h2
    | none =>
      simp only
      have hle : base + pw w * szW ws ≤ 1114112 := hb
      obtain ⟨m1, m2⟩ := many_fresh hU (num_fresh hU ws) hσ f3 (pw w) hle
      have hlen := manyP_len (fun k => numP U ws (base + k * szW ws)) σ (pw w)
      generalize hr : manyP (fun k => numP U ws (base + k * szW ws)) (pw w) σ = r at m1 m2 hlen ⊢
      have hw := whole_eq hL.whole
      unfold putP
      cases hfd : findP (pw w) L.rows r.1 with
      | some j =>
        obtain ⟨g1, g2⟩ := findP_some hfd
        simp only
        have hj : 0 ≤ (j : Int) ∧ (j : Int) < ((L.rows.length / pw w : Nat) : Int) := by omega
        refine ⟨fun _ => scanN_stay (fun x hx => ?_), fun hne => ?_, ?_, m2⟩
        · rw [List.mem_singleton] at hx
          subst hx
          exact hj
        · have e := f1 hne
          have h3 := m1 hne
          have hs : scanN (cntS ws σ) r.1 = some (cntS ws σ) := scanN_stay (fun x hx => scanN_mem e x (mem_part (by rw [g2]; exact hx)))
          rw [hs] at h3
          injection h3 with h3
          rw [← h3]; exact e
        · intro p hpm
          split at hpm
          · rcases List.mem_cons.1 hpm with rfl | hpm
            · exact hj
            · exact f2 p hpm
          · exact f2 p hpm
      | none =>
        simp only
        have hcnt : (L.rows ++ r.1).length / pw w = L.rows.length / pw w + 1 := by rw [List.length_append, hlen, Nat.add_div_right _ hp]
        refine ⟨fun _ => ?_, fun hne => ?_, ?_, m2⟩
        · simp only [cntS, hcnt]
          generalize L.rows.length / pw w = q
          rw [scanN, if_neg (by omega), if_pos rfl, scanN]
        · rw [scanN_append, f1 hne]
          exact m1 hne
        · rw [hcnt]
          intro p hpm
          split at hpm
          · rcases List.mem_cons.1 hpm with rfl | hpm
            · simp only
              generalize L.rows.length / pw w = q
              omega
            · have := f2 p hpm
              generalize L.rows.length / pw w = q at this ⊢
              omega
          · have := f2 p hpm
            generalize L.rows.length / pw w = q at this ⊢
            omega
theorem stagesP_of {ws : List Int} : ∀ {σ : List Lv} {b : Nat} {prev : List Int}, GoodS ws σ b → FreshS ws σ → (ws ≠ [] → scanN 0 prev = some (cntS ws σ)) → prev ≠ [] → stagesP prev ws (σ.map Lv.rows) = true := by
  induction ws with
  | nil =>
    intro σ b prev h _ _ _
    cases σ with
    | nil => rfl
    | cons _ _ => exact h.elim
  | cons w ws ih =>
    intro σ b prev h hf hs hne
    cases σ with
    | nil => exact h.elim
    | cons L σ =>
      obtain ⟨hL, hσ⟩ := h
      obtain ⟨f1, f2, f3⟩ := hf
      have hsc : scanN 0 prev = some (L.rows.length / pw w) := hs (by simp)
      have hpos := scanN_zero hsc hne
      have hr : L.rows ≠ [] := by
        intro e
        rw [e, List.length_nil, Nat.zero_div] at hpos
        exact absurd hpos (by omega)
      rw [List.map_cons, stagesP, if_neg (fun e => hr (List.length_eq_zero_iff.1 e)), if_pos hL.whole, if_pos (by exact_mod_cast scanN_fresh hsc), if_pos hL.apart]
      exact ih hσ f3 f1 hr
theorem pw_add {a b : Int} (ha : 0 ≤ a) (hb : 0 ≤ b) : pw (a + b) = pw a * pw b := by
  unfold pw
  rw [show (a + b).toNat = a.toNat + b.toNat by omega, Nat.pow_add]
theorem bitsGo_sz : ∀ {W : List Int} {s : Int}, 0 ≤ s → bitsGo s W ≠ 0 → pw (bitsGo s W) = pw s * szW W
  | [], s, hs, h => by
    simp only [bitsGo] at h ⊢
    split at h
    · exact absurd rfl h
    · split at h
      · exact absurd rfl h
      · rename_i h1 h2
        rw [if_neg h1, if_neg h2, szW, Nat.mul_one]
  | w :: r, s, hs, h => by
    simp only [bitsGo] at h ⊢
    split at h
    · exact absurd rfl h
    · split at h
      · exact absurd rfl h
      · rename_i h1 h2
        rw [if_neg h1, if_neg h2, bitsGo_sz (by omega) h, szW, pw_add hs (by omega), Nat.mul_assoc]
theorem bitsP_sz {W : List Int} (h : bitsP W ≠ 0) : pw (bitsP W) = szW W := by
  unfold bitsP at h ⊢
  split at h
  · exact absurd rfl h
  · split at h
    · exact absurd rfl h
    · rename_i h1 h2
      rw [if_neg h1, if_neg h2, bitsGo_sz (by omega) h]
      simp [pw]
theorem sz_cover {W : List Int} (h : bitsP W ≠ 0) : 512 ≤ szW W ∧ szW W ≤ 65536 ∧ 0 + 1114112 / szW W * szW W = 1114112 ∧ 17 ≤ 1114112 / szW W := by
  have hb := (bitsP_ne h).2.2.2
  have e := bitsP_sz h
  unfold pw at e
  have hc : (bitsP W).toNat = 9 ∨ (bitsP W).toNat = 10 ∨ (bitsP W).toNat = 11 ∨ (bitsP W).toNat = 12 ∨ (bitsP W).toNat = 13 ∨ (bitsP W).toNat = 14 ∨ (bitsP W).toNat = 15 ∨ (bitsP W).toNat = 16 := by omega
  rw [← e]
  rcases hc with h | h | h | h | h | h | h | h <;> rw [h] <;> decide
/-- The table is canonical. -/
theorem stagesB_valid {U : Nat → Nat → Int × Bool} (hU : ∀ a b, i64in (U a b).1 = true) {W : List Int} (hW : bitsP W ≠ 0) : validT W (stagesB U W) = true := by
  obtain ⟨s1, s2, s3, s4⟩ := sz_cover hW
  have hne : W ≠ [] := by
    intro e
    have := (bitsP_ne hW).1
    rw [e] at this
    exact absurd this (by decide)
  have hg := many_good hU W 0 _ (GoodS.empty W 0) (1114112 / szW W) (by omega)
  have hf := many_fresh hU (num_fresh hU W) (GoodS.empty W 0) (FreshS.empty W) (1114112 / szW W) (by omega)
  have hlen := manyP_len (fun k => numP U W (0 + k * szW W)) (W.map fun _ => ⟨[], []⟩) (1114112 / szW W)
  unfold stagesB
  simp only
  generalize manyP (fun k => numP U W (0 + k * szW W)) (1114112 / szW W) (W.map fun _ => ⟨[], []⟩) = r at hg hf hlen ⊢
  have h0 : cntS W (W.map fun _ => (⟨[], []⟩ : Lv)) = 0 := by
    cases W with
    | nil => rfl
    | cons w ws => simp [cntS]
  rw [h0] at hf
  unfold validT
  rw [if_neg hW, if_pos (by rw [List.length_cons, List.length_map, GoodS.len hg.2]), if_pos (by rw [List.headD_cons, hlen, bitsP_sz hW])]
  rw [List.headD_cons, List.tail_cons]
  refine stagesP_of hg.2 hf.2 hf.1 ?_
  intro e
  rw [e] at hlen
  simp at hlen
  omega
end Go.Proofs.Ytdlijioedokgjaa.Q
/- The values of the table that multistage.Build makes are those that were asked for. -/
namespace Go.Proofs.Ytdlijioedokgjaa.Q
open Go.RowKit Go.Proofs.YtdlijioedokgjaaW.PrintWords Go.Proofs.YtdlijioedokgjaaW.PrintLast Go.Proofs.YtdlijioedokgjaaW.PrintMore
set_option linter.unusedVariables false

/-- The value that a block has at a place. -/
def denS : List Int → List Lv → Int → Nat → Int
  | [], _, x, _ => x
  | _ :: _, [], x, _ => x
  | w :: ws, L :: σ, x, o => denS ws σ (L.rows.getD (x.toNat * pw w + o / szW ws) 0) (o % szW ws)
def ExtS : List Lv → List Lv → Prop
  | [], [] => True
  | L :: σ, L' :: σ' => (∃ t, L'.rows = L.rows ++ t) ∧ ExtS σ σ'
  | _, _ => False
theorem ExtS.refl : ∀ σ : List Lv, ExtS σ σ
  | [] => trivial
  | L :: σ => ⟨⟨[], (List.append_nil _).symm⟩, ExtS.refl σ⟩
theorem ExtS.trans : ∀ {a b c : List Lv}, ExtS a b → ExtS b c → ExtS a c
  | [], [], [], _, _ => trivial
  | A :: a, B :: b, C :: c, ⟨⟨t, ht⟩, h⟩, ⟨⟨u, hu⟩, k⟩ => ⟨⟨t ++ u, by rw [hu, ht, List.append_assoc]⟩, h.trans k⟩
  | [], _ :: _, _, h, _ => h.elim
  | _ :: _, [], _, h, _ => h.elim
  | [], [], _ :: _, _, k => k.elim
  | _ :: _, _ :: _, [], _, k => k.elim
theorem many_ext {f : Nat → List Lv → Int × List Lv} (hf : ∀ k σ, ExtS σ (f k σ).2) (σ : List Lv) : ∀ k, ExtS σ (manyP f k σ).2
  | 0 => ExtS.refl σ
  | k + 1 => (many_ext hf σ k).trans (hf k _)
theorem num_ext (U : Nat → Nat → Int × Bool) : ∀ (ws : List Int) (base : Nat) (σ : List Lv), ExtS σ (numP U ws base σ).2
  | [], base, σ => ExtS.refl σ
  | w :: ws, base, [] => trivial
  | w :: ws, base, L :: σ => by
    rw [numP]
    split
    · exact ExtS.refl _
    · refine ⟨?_, many_ext (fun k τ => num_ext U ws _ τ) σ _⟩
      simp only
      unfold putP
      split
      · exact ⟨[], (List.append_nil _).symm⟩
      · exact ⟨_, rfl⟩
theorem split_lt {x q o w z : Nat} (hx : x < q) (ho : o < w * z) (hz : 0 < z) : x * w + o / z < q * w := by
  have h1 : o / z < w := (Nat.div_lt_iff_lt_mul hz).2 ho
  have h2 : (x + 1) * w ≤ q * w := Nat.mul_le_mul_right w hx
  rw [Nat.succ_mul] at h2
  omega
theorem getD_app {l t : List Int} {i : Nat} (h : i < l.length) : (l ++ t).getD i 0 = l.getD i 0 := by
  rw [List.getD_eq_getElem?_getD, List.getD_eq_getElem?_getD, List.getElem?_append_left h]
theorem getD_mem {l : List Int} {i : Nat} (h : i < l.length) : l.getD i 0 ∈ l := by
  rw [List.getD_eq_getElem?_getD, List.getElem?_eq_getElem h]
  exact List.getElem_mem h
theorem den_ext : ∀ {ws : List Int} {σ σ' : List Lv} {b : Nat}, GoodS ws σ b → FreshS ws σ → ExtS σ σ' → ∀ (x : Int) (o : Nat), (ws ≠ [] → 0 ≤ x ∧ x < (cntS ws σ : Int)) → o < szW ws → denS ws σ' x o = denS ws σ x o
  | [], _, _, _, _, _, _, x, o, _, _ => rfl
  | w :: ws, [], _, _, h, _, _, _, _, _, _ => h.elim
  | w :: ws, _ :: _, [], _, _, _, h, _, _, _, _ => h.elim
  | w :: ws, L :: σ, L' :: σ', b, ⟨hL, hσ⟩, ⟨f1, f2, f3⟩, ⟨⟨t, ht⟩, hE⟩, x, o, hx, ho => by
    obtain ⟨x0, x1⟩ := hx (by simp)
    have hz := szW_pos ws
    have hw := whole_eq hL.whole
    have hi : x.toNat * pw w + o / szW ws < L.rows.length := by
      rw [hw]
      exact split_lt (by simp only [cntS] at x1; omega) ho hz
    rw [denS, denS, ht, getD_app hi]
    exact den_ext hσ f3 hE _ _ (fun hne => scanN_mem (f1 hne) _ (getD_mem hi)) (Nat.mod_lt _ hz)
def EvS : List Int → List Lv → Prop
  | w :: ws, L :: σ => (∀ p ∈ L.ev, ∀ o < szW (w :: ws), denS (w :: ws) (L :: σ) p.2 o = p.1) ∧ EvS ws σ
  | _, _ => True
theorem EvS.empty : ∀ ws : List Int, EvS ws (ws.map fun _ => ⟨[], []⟩)
  | [] => trivial
  | w :: ws => ⟨by simp, EvS.empty ws⟩
theorem part_getD {rows c : List Int} {m k i : Nat} (h : partL rows m k = c) (hi : i < m) : rows.getD (k * m + i) 0 = c.getD i 0 := by
  rw [← h]
  unfold partL
  rw [List.getD_eq_getElem?_getD, List.getD_eq_getElem?_getD, List.getElem?_take_of_lt hi, List.getElem?_drop]
/-- A range that has one value has it everywhere. -/
def Flat (U : Nat → Nat → Int × Bool) : Prop := ∀ lo hi v c, U lo hi = (v, true) → lo ≤ c → c < hi → (U c (c + 1)).1 = v
theorem many_den {U : Nat → Nat → Int × Bool} {ws : List Int} {base : Nat} (hU : ∀ a b, i64in (U a b).1 = true)
    (ih : ∀ b σ, GoodS ws σ b → FreshS ws σ → EvS ws σ → b + szW ws ≤ 1114112 → (∀ o < szW ws, denS ws (numP U ws b σ).2 (numP U ws b σ).1 o = (U (b + o) (b + o + 1)).1) ∧ EvS ws (numP U ws b σ).2)
    {σ : List Lv} (hg : GoodS ws σ base) (hf : FreshS ws σ) (he : EvS ws σ) : ∀ k : Nat, base + k * szW ws ≤ 1114112 →
    (∀ j < k, ∀ o < szW ws, denS ws (manyP (fun k => numP U ws (base + k * szW ws)) k σ).2 ((manyP (fun k => numP U ws (base + k * szW ws)) k σ).1.getD j 0) o = (U (base + j * szW ws + o) (base + j * szW ws + o + 1)).1) ∧ EvS ws (manyP (fun k => numP U ws (base + k * szW ws)) k σ).2 := by
  intro k
  induction k with
  | zero => intro _; exact ⟨fun j hj => by omega, he⟩
  | succ k ihk =>
    intro hk
    rw [Nat.succ_mul] at hk
    obtain ⟨i1, i2⟩ := ihk (by omega)
    have hgk := (many_good hU ws base σ hg k (by omega)).2
    have hfk := many_fresh hU (num_fresh hU ws) hg hf k (by omega)
    obtain ⟨g1, g2⟩ := ih (base + k * szW ws) _ hgk hfk.2 i2 (by omega)
    have hlen := manyP_len (fun k => numP U ws (base + k * szW ws)) σ k
    refine ⟨fun j hj o ho => ?_, g2⟩
    rw [manyP]
    simp only
    by_cases e : j = k
    · subst e
      rw [show (((manyP (fun k => numP U ws (base + k * szW ws)) j σ).1 ++ [(numP U ws (base + j * szW ws) (manyP (fun k => numP U ws (base + k * szW ws)) j σ).2).1]).getD j 0) = (numP U ws (base + j * szW ws) (manyP (fun k => numP U ws (base + k * szW ws)) j σ).2).1 by
        rw [List.getD_eq_getElem?_getD, List.getElem?_append_right (by omega), hlen, Nat.sub_self]; rfl]
      exact g1 o ho
    · rw [getD_app (by omega), den_ext hgk hfk.2 (num_ext U ws _ _) _ o (fun hne => scanN_mem (hfk.1 hne) _ (getD_mem (by omega))) ho]
      exact i1 j (by omega) o ho
theorem num_den {U : Nat → Nat → Int × Bool} (hU : ∀ a b, i64in (U a b).1 = true) (hF : Flat U) : ∀ (ws : List Int) (base : Nat) (σ : List Lv), GoodS ws σ base → FreshS ws σ → EvS ws σ → base + szW ws ≤ 1114112 →
    (∀ o < szW ws, denS ws (numP U ws base σ).2 (numP U ws base σ).1 o = (U (base + o) (base + o + 1)).1) ∧ EvS ws (numP U ws base σ).2
  | [], base, [], _, _, _, hb => ⟨fun o ho => by have : o = 0 := by simp only [szW] at ho; omega
                                                 subst this; rfl, trivial⟩
  | [], base, _ :: _, h, _, _, hb => h.elim
  | w :: ws, base, [], h, _, _, hb => h.elim
  | w :: ws, base, L :: σ, hG, hFr, hEv, hb => by
    have hall := num_fresh hU (w :: ws) base (L :: σ) hG hFr hb
    have hgall := num_good hU (w :: ws) base (L :: σ) hG hb
    have hext := num_ext U (w :: ws) base (L :: σ)
    obtain ⟨hL, hσ⟩ := hG
    obtain ⟨f1, f2, f3⟩ := hFr
    obtain ⟨e1, e2⟩ := hEv
    have hp := pw_pos w
    have hz := szW_pos ws
    rw [numP] at hall hgall hext ⊢
    cases hh : hitP (U base (base + szW (w :: ws))) L.ev with
    | some k =>
      simp only
      refine ⟨fun o ho => ?_, e1, e2⟩
      unfold hitP at hh
      split at hh
      · rename_i hs
        have hm := mem_lookup hh
        rw [e1 _ hm o ho]
        exact (hF base (base + szW (w :: ws)) _ (base + o) (by rw [← hs]) (by omega) (by omega)).symm
      · cases hh
    | none =>
      rw [hh] at hall hgall hext
      simp only at hall hgall hext ⊢
      have hle : base + pw w * szW ws ≤ 1114112 := hb
      obtain ⟨m1, m2⟩ := many_den hU (num_den hU hF ws) hσ f3 e2 (pw w) hle
      have hlen := manyP_len (fun k => numP U ws (base + k * szW ws)) σ (pw w)
      generalize manyP (fun k => numP U ws (base + k * szW ws)) (pw w) σ = r at m1 m2 hlen hall hgall hext ⊢
      have hw := whole_eq hL.whole
      have hput : partL (putP (pw w) L.rows r.1).2 (pw w) (putP (pw w) L.rows r.1).1.toNat = r.1 := by
        unfold putP
        cases hfd : findP (pw w) L.rows r.1 with
        | some j => exact (findP_some hfd).2
        | none => exact partL_last hw hlen
      have hden : ∀ o < szW (w :: ws), denS (w :: ws) (⟨(putP (pw w) L.rows r.1).2, if (U base (base + szW (w :: ws))).2 = true then ((U base (base + szW (w :: ws))).1, (putP (pw w) L.rows r.1).1) :: L.ev else L.ev⟩ :: r.2) (putP (pw w) L.rows r.1).1 o = (U (base + o) (base + o + 1)).1 := by
        intro o ho
        have hq : o / szW ws < pw w := (Nat.div_lt_iff_lt_mul hz).2 ho
        rw [denS]
        simp only
        rw [part_getD hput hq, m1 _ hq _ (Nat.mod_lt _ hz)]
        have : o / szW ws * szW ws + o % szW ws = o := by rw [Nat.mul_comm]; exact Nat.div_add_mod _ _
        rw [show base + o / szW ws * szW ws + o % szW ws = base + o by omega]
      refine ⟨hden, ⟨?_, m2⟩⟩
      simp only
      intro p hpm o ho
      have hold : p ∈ L.ev → denS (w :: ws) (⟨(putP (pw w) L.rows r.1).2, if (U base (base + szW (w :: ws))).2 = true then ((U base (base + szW (w :: ws))).1, (putP (pw w) L.rows r.1).1) :: L.ev else L.ev⟩ :: r.2) p.2 o = p.1 := fun hpm => by
        rw [den_ext (ws := w :: ws) (σ := L :: σ) ⟨hL, hσ⟩ ⟨f1, f2, f3⟩ hext p.2 o (fun _ => f2 p hpm) ho]
        exact e1 p hpm o ho
      split at hpm
      · rename_i hs
        rcases List.mem_cons.1 hpm with rfl | hpm
        · rw [hden o ho]
          exact hF base (base + szW (w :: ws)) _ (base + o) (by rw [← hs]) (by omega) (by omega)
        · exact hold hpm
      · exact hold hpm
/-- The value of the table at every place. -/
theorem stagesB_den {U : Nat → Nat → Int × Bool} (hU : ∀ a b, i64in (U a b).1 = true) (hF : Flat U) {W : List Int} (hW : bitsP W ≠ 0) : ∃ σ b x, stagesB U W = x :: σ.map Lv.rows ∧ x.length = 1114112 / szW W ∧ GoodS W σ b ∧ FreshS W σ ∧ scanN 0 x = some (cntS W σ) ∧
    ∀ c < 1114112, denS W σ (x.getD (c / szW W) 0) (c % szW W) = (U c (c + 1)).1 := by
  obtain ⟨s1, s2, s3, s4⟩ := sz_cover hW
  have hne : W ≠ [] := by
    intro e
    have := (bitsP_ne hW).1
    rw [e] at this
    exact absurd this (by decide)
  have hg := many_good hU W 0 _ (GoodS.empty W 0) (1114112 / szW W) (by omega)
  have hf := many_fresh hU (num_fresh hU W) (GoodS.empty W 0) (FreshS.empty W) (1114112 / szW W) (by omega)
  have hd := many_den hU (num_den hU hF W) (GoodS.empty W 0) (FreshS.empty W) (EvS.empty W) (1114112 / szW W) (by omega)
  have hlen := manyP_len (fun k => numP U W (0 + k * szW W)) (W.map fun _ => ⟨[], []⟩) (1114112 / szW W)
  unfold stagesB
  simp only
  generalize manyP (fun k => numP U W (0 + k * szW W)) (1114112 / szW W) (W.map fun _ => ⟨[], []⟩) = r at hg hf hd hlen ⊢
  have h0 : cntS W (W.map fun _ => (⟨[], []⟩ : Lv)) = 0 := by
    cases W with
    | nil => rfl
    | cons w ws => simp [cntS]
  rw [h0] at hf
  refine ⟨r.2, _, r.1, rfl, hlen, hg.2, hf.2, hf.1 hne, fun c hc => ?_⟩
  have hz := szW_pos W
  have hq : c / szW W < 1114112 / szW W := (Nat.div_lt_iff_lt_mul hz).2 (by omega)
  rw [hd.1 _ hq _ (Nat.mod_lt _ hz)]
  have : c / szW W * szW W + c % szW W = c := by rw [Nat.mul_comm]; exact Nat.div_add_mod _ _
  rw [show 0 + c / szW W * szW W + c % szW W = c by omega]
end Go.Proofs.Ytdlijioedokgjaa.Q
/- The maps of multistage.Build as lists of pairs: which blocks were seen, and which are alike. -/
namespace Go.Proofs.Ytdlijioedokgjaa.Q
open Go.RowKit Go.Proofs.YtdlijioedokgjaaW.PrintWords Go.Proofs.YtdlijioedokgjaaW.PrintLast Go.Proofs.YtdlijioedokgjaaW.PrintMore
set_option linter.unusedVariables false

def litOf (c : List Int) : Lit := .string (strOfNums (keyB c)).data.toList
theorem litOf_inj {a b : List Int} (ha : a.all i64in = true) (hb : b.all i64in = true) (hl : a.length = b.length) (h : litOf a = litOf b) : a = b := by
  unfold litOf at h
  have h1 : (strOfNums (keyB a)).data.toList = (strOfNums (keyB b)).data.toList := by injection h
  have h3 := congrArg bytesOf (ba_ext h1)
  rw [bytesOf_sN (keyB_range _), bytesOf_sN (keyB_range _)] at h3
  exact keyB_inj ha hb hl h3
def seenKV (m : Nat) (rows : List Int) : Nat → List (Lit × Int)
  | 0 => []
  | q + 1 => (litOf (partL rows m q), (q : Int)) :: seenKV m rows q
theorem seenKV_keys (m : Nat) (rows : List Int) : ∀ q, ∀ p ∈ seenKV m rows q, WideAt.IsKeyLit p.1
  | 0, p, h => by cases h
  | q + 1, p, h => by
    rcases List.mem_cons.1 h with rfl | h
    · trivial
    · exact seenKV_keys m rows q p h
theorem seenKV_len (m : Nat) (rows : List Int) : ∀ q, (seenKV m rows q).length = q
  | 0 => rfl
  | q + 1 => by rw [seenKV, List.length_cons, seenKV_len m rows q]
theorem seenKV_mem {m : Nat} {rows : List Int} : ∀ {q : Nat} {p : Lit × Int}, p ∈ seenKV m rows q → ∃ j < q, p = (litOf (partL rows m j), (j : Int))
  | 0, p, h => by cases h
  | q + 1, p, h => by
    rcases List.mem_cons.1 h with rfl | h
    · exact ⟨q, by omega, rfl⟩
    · obtain ⟨j, h1, h2⟩ := seenKV_mem h
      exact ⟨j, by omega, h2⟩
theorem seenKV_app {m : Nat} {rows c : List Int} : ∀ {q : Nat}, q * m ≤ rows.length → seenKV m (rows ++ c) q = seenKV m rows q
  | 0, _ => rfl
  | q + 1, h => by
    have h' := h
    rw [Nat.succ_mul] at h'
    rw [seenKV, seenKV, partL_app h, seenKV_app (by omega)]
theorem seenKV_pair {m : Nat} {rows : List Int} {q : Nat} (hl : rows.length = q * m) (ha : rows.all i64in = true) (hp : apartB rows m q = true) : ∀ n, n ≤ q → (seenKV m rows n).Pairwise (fun p q => p.1 ≠ q.1)
  | 0, _ => List.Pairwise.nil
  | n + 1, hn => by
    rw [seenKV, List.pairwise_cons]
    refine ⟨fun p hpm => ?_, seenKV_pair hl ha hp n (by omega)⟩
    obtain ⟨j, hj, rfl⟩ := seenKV_mem hpm
    intro e
    have e2 := litOf_inj (part_all ha m n) (part_all ha m j) (by rw [partL_len hl (by omega), partL_len hl (by omega)]) e
    have h := of_decide_eq_true hp
    rw [List.pairwise_iff_getElem] at h
    have h1 := h j n (by rw [List.length_range]; omega) (by rw [List.length_range]; omega) hj
    rw [List.getElem_range, List.getElem_range] at h1
    exact h1 e2.symm
theorem seen_size_KV {m : Nat} {rows : List Int} {q : Nat} (hl : rows.length = q * m) (ha : rows.all i64in = true) (hp : apartB rows m q = true) : Maps.size (dataKV (seenKV m rows q)) = q := by
  rw [size_KV _ (seenKV_keys m rows q) (seenKV_pair hl ha hp q (Nat.le_refl _)), seenKV_len]
theorem lookKV_none {kv : List (Lit × Int)} {k : Lit} (h : ∀ p ∈ kv, p.1 ≠ k) : lookKV kv k = none := by
  unfold lookKV
  rw [Option.map_eq_none_iff, List.find?_eq_none]
  intro q hq
  rw [Maps.sameKey_ne (h q hq)]
  simp
theorem lookKV_mem {k : Lit} {x : Int} (hk : WideAt.IsKeyLit k) : ∀ {kv : List (Lit × Int)}, kv.Pairwise (fun p q => p.1 ≠ q.1) → (k, x) ∈ kv → lookKV kv k = some x
  | [], _, h => by cases h
  | p :: kv, hp, h => by
    rw [List.pairwise_cons] at hp
    rcases List.mem_cons.1 h with e | h
    · subst e; exact lookKV_eq hk
    · have : p.1 ≠ k := hp.1 _ h
      have ih := lookKV_mem hk hp.2 h
      rw [lookKV_ne this]
      exact ih
theorem seen_look {m : Nat} {rows c : List Int} (hw : rows.length % m = 0) (ha : rows.all i64in = true) (hp : apartB rows m (rows.length / m) = true) (hc : c.length = m) (hca : c.all i64in = true) :
    lookKV (seenKV m rows (rows.length / m)) (litOf c) = Option.map (fun (j : Nat) => (j : Int)) (findP m rows c) := by
  have hl := whole_eq hw
  cases hf : findP m rows c with
  | none =>
    have g := findP_none hf
    rw [Option.map_none]
    refine lookKV_none (fun p hpm => ?_)
    obtain ⟨j, hj, rfl⟩ := seenKV_mem hpm
    exact fun e => g j hj (litOf_inj (part_all ha m j) hca (by rw [partL_len hl hj, hc]) e)
  | some j =>
    obtain ⟨g1, g2⟩ := findP_some hf
    rw [Option.map_some]
    refine lookKV_mem (by trivial) (seenKV_pair hl ha hp _ (Nat.le_refl _)) ?_
    have : ∀ q, j < q → (litOf (partL rows m j), (j : Int)) ∈ seenKV m rows q := by
      intro q
      induction q with
      | zero => intro h; omega
      | succ q ih =>
        intro h
        rw [seenKV, List.mem_cons]
        by_cases e : j = q
        · subst e; exact .inl rfl
        · exact .inr (ih (by omega))
    rw [← g2]
    exact this _ g1
/-- The datum behind a store of a new block. -/
theorem seen_put {m : Nat} {rows c : List Int} (hm : 0 < m) (hw : rows.length % m = 0) (hc : c.length = m) :
    dataKV (seenKV m (rows ++ c) ((rows ++ c).length / m)) = (dataKV (seenKV m rows (rows.length / m))).put (litOf c) (.lit (.int .i64 ((rows.length / m : Nat) : Int))) := by
  have hl := whole_eq hw
  rw [List.length_append, hc, Nat.add_div_right _ hm, seenKV, partL_last hl hc, seenKV_app (by omega)]
  rfl
def evKV (ev : List (Int × Int)) : List (Lit × Int) := ev.map fun p => (Lit.int .i64 p.1, p.2)
theorem evKV_keys (ev : List (Int × Int)) : ∀ p ∈ evKV ev, WideAt.IsKeyLit p.1 := by
  intro p hp
  obtain ⟨q, _, rfl⟩ := List.mem_map.1 hp
  trivial
theorem ev_look (v : Int) : ∀ ev : List (Int × Int), lookKV (evKV ev) (.int .i64 v) = ev.lookup v
  | [] => rfl
  | p :: ev => by
    have ih := ev_look v ev
    by_cases e : p.1 = v
    · subst e
      have hs : (Lit.int .i64 p.1).sameKey (.int .i64 p.1) = true := WideAt.sameKey_self (by trivial)
      simp [lookKV, evKV, List.find?_cons, List.lookup, hs]
    · have e2 : (v == p.1) = false := by simp; exact fun h => e h.symm
      rw [show (p :: ev).lookup v = ev.lookup v by obtain ⟨a, b⟩ := p; simp only [List.lookup] at *; rw [e2]]
      rw [← ih]
      exact lookKV_ne (p := (Lit.int .i64 p.1, p.2)) (kv := evKV ev) (fun h => e (by injection h))
end Go.Proofs.Ytdlijioedokgjaa.Q

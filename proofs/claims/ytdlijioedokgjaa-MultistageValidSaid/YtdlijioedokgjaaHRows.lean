/- Words of this seat's own: several rows of a call's own, apart from each other. -/
import Derived.Test.YtdlijioedokgjaaHFrame
namespace Go.Proofs.Ytdlijioedokgjaa.Q
open Go.RowKit Go.Proofs.YtdlijioedokgjaaW.PrintWords Go.Proofs.YtdlijioedokgjaaW.PrintLast Go.Proofs.YtdlijioedokgjaaW.PrintMore
set_option linter.unusedVariables false
set_option linter.unusedSimpArgs false

def Row (W : World) (B : Nat) (v : Value) (xs : List Int) : Prop := Kd.R (Kd.int .i64) 3 W B (fun _ => True) v xs
theorem Row.of {W : World} {B : Nat} {ok : Nat → Prop} {v : Value} {xs : List Int} (h : Kd.R (Kd.int .i64) 3 W B ok v xs) : Row W B v xs := Kd.R_mono h (fun _ _ => trivial)
theorem Row.ok {W : World} {B : Nat} {v : Value} {xs : List Int} (h : Row W B v xs) {ok : Nat → Prop} (hk : ∀ k, v.ownBlock = some k → ok k) : Kd.R (Kd.int .i64) 3 W B ok v xs := Kd.R_of_own (Kd.own_of_R (enc := Value.int .i64) (h1 := fun _ => rfl) h) hk
theorem Row.below {W w' : World} {B : Nat} {v : Value} {xs : List Int} (h : Row W B v xs) (hb : Below W.heap.size W w') : Row w' B v xs := Kd.R_below h hb
theorem Row.nil (W : World) (B : Nat) : Row W B (.slice none 0 0) [] := Kd.R_of_own (enc := Value.int .i64) (h1 := fun _ => rfl) (World.ownsRow_nil W B 3 1) (fun k h => by simp [Value.ownBlock] at h)
theorem Row.lt {W : World} {B : Nat} {v : Value} {xs : List Int} (h : Row W B v xs) {k : Nat} (hk : v.ownBlock = some k) : k < W.heap.size := Kd.R_lt h k hk
theorem Row.ge {W : World} {B : Nat} {v : Value} {xs : List Int} (h : Row W B v xs) {k : Nat} (hk : v.ownBlock = some k) : B ≤ k := by
  obtain ⟨inner, ho⟩ := Kd.R_own h
  exact own_base ho k hk
theorem Row.ne {W : World} {B g : Nat} {v : Value} {xs : List Int} {t : TypeId} {cs : Array Value} (h : Row W B v xs) (hg : W.heap[g]? = some (.cells cs t (0, 0))) (ht : t ≠ 3) : some g ≠ v.ownBlock := by
  intro e
  obtain ⟨_, _, _, q, hq, cells, hc⟩ := (Kd.R_bound h).1 g e.symm
  rw [hg] at hc
  injection hc with h1
  injection h1 with _ h2
  have h3 : q = 3 := by simpa [Kd.int, Kd.scalar] using hq
  exact ht (h2.trans h3)
theorem Row.grown {W w' : World} {B : Nat} {v : Value} {xs : List Int} {row : Option Nat} (h : Row W B v xs) (hg : W.grownBy w' row) (hne : ∀ k, v.ownBlock = some k → row = some k → False) : Row w' B v xs := by
  refine Kd.R_mono (Kd.R_step (h.ok (ok := fun k => v.ownBlock = some k) (fun _ hk => hk)) (fun k hk hlt => hg.block k hlt (fun e => hne k hk e.symm))) (fun _ _ => trivial)
theorem Row.slice {W : World} {B : Nat} {v : Value} {xs : List Int} (h : Row W B v xs) : ∃ A c, v = .slice A xs.length c := Kd.R_slice h
/-- Read as a list that is not one's own. -/
theorem Row.read {W : World} {B : Nat} {A : Option Addr} {n c : Nat} {xs : List Int} (h : Row W B (.slice A n c) xs) : n = xs.length ∧ Kd.C (Kd.int .i64) W A xs.length xs ∧ xs.length ≤ c := by
  obtain ⟨A', c', he, hc, hr⟩ := Kd.R_reads h
  injection he with h1 h2 h3
  subst h1 h2 h3
  exact ⟨rfl, hr, hc⟩

def Apart (u v : Value) : Prop := ∀ k, u.ownBlock = some k → v.ownBlock = some k → False
theorem Apart.symm {u v : Value} (h : Apart u v) : Apart v u := fun k h1 h2 => h k h2 h1
/-- Rows of one's own, apart. -/
structure RowsAt (W : World) (B : Nat) (rs : List (Value × List Int)) : Prop where
  row : ∀ (i : Nat) (v : Value) (xs : List Int), rs[i]? = some (v, xs) → Row W B v xs
  apart : ∀ (i j : Nat) (p q : Value × List Int), i ≠ j → rs[i]? = some p → rs[j]? = some q → Apart p.1 q.1
theorem RowsAt.below {W w' : World} {B : Nat} {rs : List (Value × List Int)} (h : RowsAt W B rs) (hb : Below W.heap.size W w') : RowsAt w' B rs := ⟨fun i v xs hi => (h.row i v xs hi).below hb, h.apart⟩
theorem RowsAt.drewN {W : World} {B : Nat} {rs : List (Value × List Int)} (h : RowsAt W B rs) (n : Nat) : RowsAt (W.drewN n) B rs := h.below (pw_below_drewN (Below.refl _ _) n)
theorem RowsAt.drew {W : World} {B : Nat} {rs : List (Value × List Int)} (h : RowsAt W B rs) : RowsAt W.drew B rs := h.below (below_drew1 (Below.refl _ _))
theorem RowsAt.lower {W : World} {B B' : Nat} {rs : List (Value × List Int)} (h : RowsAt W B rs) (hB : B' ≤ B) : RowsAt W B' rs := ⟨fun i v xs hi => Kd.R_lower (h.row i v xs hi) hB, h.apart⟩
theorem RowsAt.fresh {W w' : World} {B : Nat} {rs : List (Value × List Int)} (h : RowsAt W B rs) (i : Nat) {ok : Nat → Prop} {v : Value} {xs : List Int} (hb : Below W.heap.size W w') (hv : Kd.R (Kd.int .i64) 3 w' W.heap.size ok v xs) (hB : B ≤ W.heap.size) : RowsAt w' B (rs.set i (v, xs)) := by
  have hv' := Row.of hv
  have key : ∀ (p : Value × List Int) (j : Nat), rs[j]? = some p → Apart v p.1 := fun p j hj k hk hk2 => by
    have h1 := hv'.ge hk
    have h2 := (h.row j p.1 p.2 hj).lt hk2
    omega
  constructor
  · intro j u ys hj
    rw [List.getElem?_set] at hj
    split at hj
    · split at hj
      · injection hj with e
        injection e with e1 e2
        subst e1 e2
        exact Kd.R_lower hv' hB
      · cases hj
    · exact (h.row j u ys hj).below hb
  · intro j j' p q hne hj hj'
    rw [List.getElem?_set] at hj hj'
    by_cases e1 : i = j
    · rw [if_pos e1] at hj
      rw [if_neg (by omega)] at hj'
      split at hj
      · injection hj with e; subst e
        exact key q j' hj'
      · cases hj
    · rw [if_neg e1] at hj
      by_cases e2 : i = j'
      · rw [if_pos e2] at hj'
        split at hj'
        · injection hj' with e; subst e
          exact (key p j hj).symm
        · cases hj'
      · rw [if_neg e2] at hj'
        exact h.apart j j' p q hne hj hj'
theorem RowsAt.grow {W w' : World} {B : Nat} {rs : List (Value × List Int)} (h : RowsAt W B rs) (i : Nat) {ok : Nat → Prop} {v v' : Value} {xs xs' : List Int} (hi : rs[i]? = some (v, xs)) (hg : W.grownBy w' v.ownBlock) (hv : Kd.R (Kd.int .i64) 3 w' B ok v' xs') (hat : v'.ownBlock = v.ownBlock ∨ ∃ b, v'.ownBlock = some b ∧ W.heap.size ≤ b) : RowsAt w' B (rs.set i (v', xs')) := by
  have hv' := Row.of hv
  have key : ∀ (p : Value × List Int) (j : Nat), i ≠ j → rs[j]? = some p → Apart v' p.1 := fun p j hij hj k hk hk2 => by
    rcases hat with e | ⟨b, e, hb⟩
    · rw [e] at hk
      exact h.apart i j _ _ hij hi hj k hk hk2
    · rw [e] at hk
      injection hk with hk
      have h2 := (h.row j p.1 p.2 hj).lt hk2
      omega
  constructor
  · intro j u ys hj
    rw [List.getElem?_set] at hj
    by_cases e1 : i = j
    · rw [if_pos e1] at hj
      split at hj
      · injection hj with e
        injection e with e1 e2
        subst e1 e2
        exact hv'
      · cases hj
    · rw [if_neg e1] at hj
      exact (h.row j u ys hj).grown hg (fun k hk hk2 => h.apart i j _ _ e1 hi hj k hk2 hk)
  · intro j j' p q hne hj hj'
    rw [List.getElem?_set] at hj hj'
    by_cases e1 : i = j
    · rw [if_pos e1] at hj
      rw [if_neg (by omega)] at hj'
      split at hj
      · injection hj with e; subst e
        exact key q j' (by omega) hj'
      · cases hj
    · rw [if_neg e1] at hj
      by_cases e2 : i = j'
      · rw [if_pos e2] at hj'
        split at hj'
        · injection hj' with e; subst e
          exact (key p j e1 hj).symm
        · cases hj'
      · rw [if_neg e2] at hj'
        exact h.apart j j' p q hne hj hj'
/-- A block of three rows' heads. -/
structure Blk3 (w : World) (g : Nat) (a b c : Value) : Prop where
  blk : w.heap[g]? = some (.cells #[a, b, c] 39 (0, 0))
theorem Blk3.c0 {w : World} {g : Nat} {a b c : Value} (h : Blk3 w g a b c) : w.cell? ⟨g, 0, none⟩ = some a := (blk_cell h.blk 0).trans rfl
theorem Blk3.c1 {w : World} {g : Nat} {a b c : Value} (h : Blk3 w g a b c) : w.cell? ⟨g, 1, none⟩ = some b := (blk_cell h.blk 1).trans rfl
theorem Blk3.c2 {w : World} {g : Nat} {a b c : Value} (h : Blk3 w g a b c) : w.cell? ⟨g, 2, none⟩ = some c := (blk_cell h.blk 2).trans rfl
theorem Blk3.f {w : World} {g : Nat} {a b c : Value} (h : Blk3 w g a b c) (i : Nat) : w.frozen? ⟨g, i, none⟩ = false := blk_frozen h.blk i
theorem Blk3.below {w w1 : World} {g : Nat} {a b c : Value} (h : Blk3 w g a b c) (hb : Below w.heap.size w w1) : Blk3 w1 g a b c := ⟨blk_below h.blk hb⟩
theorem Blk3.put {w : World} {g : Nat} {a b c : Value} (h : Blk3 w g a b c) (x y z : Value) : Blk3 (((w.setCell ⟨g, 0, none⟩ x).setCell ⟨g, 1, none⟩ y).setCell ⟨g, 2, none⟩ z) g x y z :=
  ⟨blk_put (blk_put (blk_put h.blk 0 x rfl) 1 y rfl) 2 z rfl⟩
theorem below_put3 {w W : World} {g : Nat} (h : Below w.heap.size w W) (hg : w.heap.size ≤ g) (x y z : Value) : Below w.heap.size w (((W.setCell ⟨g, 0, none⟩ x).setCell ⟨g, 1, none⟩ y).setCell ⟨g, 2, none⟩ z) :=
  below_set (below_set (below_set h hg) hg) hg
theorem Blk3.drew {w : World} {g : Nat} {a b c : Value} (h : Blk3 w g a b c) : Blk3 w.drew g a b c := ⟨h.blk⟩
theorem Blk3.drewN {w : World} {g : Nat} {a b c : Value} (h : Blk3 w g a b c) (n : Nat) : Blk3 (w.drewN n) g a b c := ⟨h.blk⟩
theorem Blk3.grown {w w1 : World} {g : Nat} {a b c : Value} {row : Option Nat} (h : Blk3 w g a b c) (hg : w.grownBy w1 row) (hne : some g ≠ row) : Blk3 w1 g a b c := ⟨blk_grown h.blk hg hne⟩
theorem put3_kp (W : World) (g : Nat) (x y z : Value) (k : Nat) (hk : k ≠ g) : (((W.setCell ⟨g, 0, none⟩ x).setCell ⟨g, 1, none⟩ y).setCell ⟨g, 2, none⟩ z).heap[k]? = W.heap[k]? := by
  rw [Below.heap_setCell _ _ _ _ (by simpa using hk), Below.heap_setCell _ _ _ _ (by simpa using hk), Below.heap_setCell _ _ _ _ (by simpa using hk)]
theorem RowsAt.put3 {W : World} {B g : Nat} {rs : List (Value × List Int)} {a b c : Value} (h : RowsAt W B rs) (hk : Blk3 W g a b c) (x y z : Value) : RowsAt (((W.setCell ⟨g, 0, none⟩ x).setCell ⟨g, 1, none⟩ y).setCell ⟨g, 2, none⟩ z) B rs :=
  ⟨fun i v xs hi => by
    have hr := h.row i v xs hi
    refine Kd.R_mono (Kd.R_step (hr.ok (ok := fun k => k ≠ g) (fun k hk1 e => (hr.ne hk.blk (by decide)) (by rw [hk1, e]))) (fun k hk1 hlt => put3_kp W g x y z k hk1)) (fun _ _ => trivial), h.apart⟩
theorem RowsAt.sub {W : World} {B : Nat} {rs rs' : List (Value × List Int)} (h : RowsAt W B rs) (f : Nat → Nat) (hf : ∀ i j, i ≠ j → f i ≠ f j) (hm : ∀ (i : Nat) (p : Value × List Int), rs'[i]? = some p → rs[f i]? = some p) : RowsAt W B rs' :=
  ⟨fun i v xs hi => h.row (f i) v xs (hm i _ hi), fun i j p q hne hi hj => h.apart (f i) (f j) p q (hf i j hne) (hm i p hi) (hm j q hj)⟩
theorem RowsAt.to3 {W : World} {B : Nat} {v0 v1 v2 : Value} {r1 r2 r3 : List Int} {rest : List (Value × List Int)} (h : RowsAt W B ((v0, r1) :: (v1, r2) :: (v2, r3) :: rest)) :
    Kd.R (Kd.int .i64) 3 W B (fun k => some k ≠ v1.ownBlock ∧ some k ≠ v2.ownBlock) v0 r1 ∧ Kd.R (Kd.int .i64) 3 W B (fun k => some k ≠ v0.ownBlock ∧ some k ≠ v2.ownBlock) v1 r2 ∧ Kd.R (Kd.int .i64) 3 W B (fun k => some k ≠ v0.ownBlock ∧ some k ≠ v1.ownBlock) v2 r3 :=
  ⟨(h.row 0 _ _ rfl).ok (fun k hk => ⟨fun e => h.apart 0 1 _ _ (by decide) rfl rfl k hk e.symm, fun e => h.apart 0 2 _ _ (by decide) rfl rfl k hk e.symm⟩),
   (h.row 1 _ _ rfl).ok (fun k hk => ⟨fun e => h.apart 1 0 _ _ (by decide) rfl rfl k hk e.symm, fun e => h.apart 1 2 _ _ (by decide) rfl rfl k hk e.symm⟩),
   (h.row 2 _ _ rfl).ok (fun k hk => ⟨fun e => h.apart 2 0 _ _ (by decide) rfl rfl k hk e.symm, fun e => h.apart 2 1 _ _ (by decide) rfl rfl k hk e.symm⟩)⟩
theorem RowsAt.of3 {W : World} {B : Nat} {v0 v1 v2 : Value} {r1 r2 r3 : List Int}
    (h : Kd.R (Kd.int .i64) 3 W B (fun k => some k ≠ v1.ownBlock ∧ some k ≠ v2.ownBlock) v0 r1 ∧ Kd.R (Kd.int .i64) 3 W B (fun k => some k ≠ v0.ownBlock ∧ some k ≠ v2.ownBlock) v1 r2 ∧ Kd.R (Kd.int .i64) 3 W B (fun k => some k ≠ v0.ownBlock ∧ some k ≠ v1.ownBlock) v2 r3) : RowsAt W B [(v0, r1), (v1, r2), (v2, r3)] := by
  obtain ⟨h0, h1, h2⟩ := h
  have a01 : Apart v0 v1 := fun k hk hk2 => (h0.1 k hk).1 hk2.symm
  have a02 : Apart v0 v2 := fun k hk hk2 => (h0.1 k hk).2 hk2.symm
  have a12 : Apart v1 v2 := fun k hk hk2 => (h1.1 k hk).2 hk2.symm
  constructor
  · intro i v xs hi
    rcases i with _ | _ | _ | i
    · injection hi with e; injection e with e1 e2; subst e1 e2; exact Row.of h0
    · injection hi with e; injection e with e1 e2; subst e1 e2; exact Row.of h1
    · injection hi with e; injection e with e1 e2; subst e1 e2; exact Row.of h2
    · cases hi
  · intro i j p q hne hi hj
    rcases i with _ | _ | _ | i <;> rcases j with _ | _ | _ | j <;> first | (exact absurd rfl hne) | (cases hi; done) | (cases hj; done) | (injection hi with e; injection hj with e'; subst e e'; first | exact a01 | exact a02 | exact a12 | exact a01.symm | exact a02.symm | exact a12.symm)
end Go.Proofs.Ytdlijioedokgjaa.Q

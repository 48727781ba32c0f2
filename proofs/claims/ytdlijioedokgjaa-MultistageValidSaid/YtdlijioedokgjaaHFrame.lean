/- Words of this seat's own: what a call leaves alone, block by block. -/
import Derived.Test.YtdlijioedokgjaaQ0
import Derived.WalkLawsBesides
import Derived.Deep.QuietTactic
import Derived.BigQuiet
namespace Go.Proofs.Ytdlijioedokgjaa.Q
open Go.RowKit Go.Proofs.YtdlijioedokgjaaW.PrintWords Go.Proofs.YtdlijioedokgjaaW.PrintLast Go.Proofs.YtdlijioedokgjaaW.PrintMore
set_option linter.unusedVariables false

/-- All blocks of w but those of S are in w' as they were. -/
structure Kp (S : Nat → Prop) (w w' : World) : Prop where
  os : w'.os = w.os
  tape : w'.tape = w.tape
  output : w'.output = w.output
  size : w.heap.size ≤ w'.heap.size
  blk : ∀ i, i < w.heap.size → ¬ S i → w'.heap[i]? = w.heap[i]?
theorem Kp.refl (S : Nat → Prop) (w : World) : Kp S w w := ⟨rfl, rfl, rfl, Nat.le_refl _, fun _ _ _ => rfl⟩
theorem Kp.then_ {S S2 : Nat → Prop} {w w1 w2 : World} (h : Kp S w w1) (k : Kp S2 w1 w2) (hs : ∀ i, S2 i → S i ∨ w.heap.size ≤ i) : Kp S w w2 :=
  ⟨k.os.trans h.os, k.tape.trans h.tape, k.output.trans h.output, Nat.le_trans h.size k.size, fun i hi hn => (k.blk i (Nat.lt_of_lt_of_le hi h.size) (fun h2 => (hs i h2).elim hn (fun h3 => by omega))).trans (h.blk i hi hn)⟩
theorem Kp.mono {S S2 : Nat → Prop} {w w1 : World} (h : Kp S w w1) (hs : ∀ i, S i → S2 i) : Kp S2 w w1 := ⟨h.os, h.tape, h.output, h.size, fun i hi hn => h.blk i hi (fun hk => hn (hs i hk))⟩
theorem Kp.of_below {S : Nat → Prop} {w w1 : World} (h : Below w.heap.size w w1) : Kp S w w1 := ⟨h.os, h.tape, h.output, h.size, fun i hi _ => h.block i hi⟩
theorem Kp.to_below {S : Nat → Prop} {w w1 : World} (h : Kp S w w1) {B : Nat} (hB : B ≤ w.heap.size) (hs : ∀ i, S i → B ≤ i) : Below B w w1 := ⟨h.os, h.tape, h.output, h.size, fun i hi => h.blk i (by omega) (fun hk => by have := hs i hk; omega)⟩
theorem Kp.below {S : Nat → Prop} {w w1 w2 : World} (h : Kp S w w1) (k : Below w1.heap.size w1 w2) : Kp S w w2 := h.then_ (Kp.of_below (S := fun _ => False) k) (fun _ hk => hk.elim)
theorem Kp.grown {S : Nat → Prop} {w w1 w2 : World} (h : Kp S w w1) {B : Nat} (hB : w.heap.size ≤ B) (k : Below B w1 w2) : Kp S w w2 :=
  ⟨k.os.trans h.os, k.tape.trans h.tape, k.output.trans h.output, Nat.le_trans h.size k.size, fun i hi hn => (k.block i (by omega)).trans (h.blk i hi hn)⟩
theorem Kp.alloc {S : Nat → Prop} {w w1 : World} (h : Kp S w w1) (o : Obj) : Kp S w (w1.alloc o) := h.below (below_alloc (Below.refl _ _) o)
theorem Kp.drewN {S : Nat → Prop} {w w1 : World} (h : Kp S w w1) (n : Nat) : Kp S w (w1.drewN n) := ⟨h.os, h.tape, h.output, h.size, h.blk⟩
theorem Kp.drew {S : Nat → Prop} {w w1 : World} (h : Kp S w w1) : Kp S w w1.drew := ⟨h.os, h.tape, h.output, h.size, h.blk⟩
theorem Kp.set {S : Nat → Prop} {w w1 : World} (h : Kp S w w1) {p : Addr} (hp : S p.block ∨ w.heap.size ≤ p.block) (u : Value) : Kp S w (w1.setCell p u) :=
  h.then_ (S2 := fun i => i = p.block) ⟨rfl, rfl, rfl, by simp [World.setCell], fun i _ hn => Below.heap_setCell w1 p u i hn⟩ (fun i hk => by rw [hk]; exact hp)
theorem Kp.of_grownBy {w w1 : World} {row : Option Nat} (h : w.grownBy w1 row) : Kp (fun i => some i = row) w w1 := ⟨h.os, h.tape, h.output, h.size, fun i hi hn => h.block i hi hn⟩
theorem Kp.heap {S : Nat → Prop} {w w1 : World} (h : Kp S w w1) {g : Nat} {o : Obj} (hb : w.heap[g]? = some o) (hn : ¬ S g) : w1.heap[g]? = some o := (h.blk g (blk_lt hb) hn).trans hb
/-- A row of one's own, where other blocks are written. -/
theorem R_kp {α : Type} {d : Kd α} {e B : Nat} {W W1 : World} {ok S : Nat → Prop} {v : Value} {xs : List α} (h : d.R e W B ok v xs) (hk : Kp S W W1) (hS : ∀ i, S i → i < B ∨ ¬ ok i) : d.R e W1 B ok v xs :=
  Kd.R_mono (Kd.R_step (Kd.R_bound h) (fun k hk1 hlt => hk.blk k hlt (fun hs => (hS k hs).elim (fun h2 => by have := hk1.2.1; omega) (fun h2 => h2 hk1.1)))) (fun _ hk => hk.1)
theorem alloc_at (w : World) (o : Obj) : (w.alloc o).heap[w.heap.size]? = some o := heap_alloc_new w o
theorem alloc_old {w : World} {g : Nat} {o : Obj} (h : w.heap[g]? = some o) (o2 : Obj) : (w.alloc o2).heap[g]? = some o := (Below.heap_alloc w o2 g (blk_lt h)).trans h
end Go.Proofs.Ytdlijioedokgjaa.Q

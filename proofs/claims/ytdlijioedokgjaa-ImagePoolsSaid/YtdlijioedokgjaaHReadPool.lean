/- image.ReadPool by hand. (Printed by genreadpool.py.) -/
import Derived.Test.YtdlijioedokgjaaHUnseal
import Derived.Test.YtdlijioedokgjaaHRows
import Derived.Test.YtdlijioedokgjaaMPool
namespace Go.Proofs.Ytdlijioedokgjaa.Q
open Go.RowKit Go.Proofs.YtdlijioedokgjaaW.PrintWords Go.Proofs.YtdlijioedokgjaaW.PrintLast Go.Proofs.YtdlijioedokgjaaW.PrintMore
set_option linter.unusedVariables false
set_option linter.unusedSimpArgs false

/-- Three rows, apart from each other. -/
def R3 (W : World) (B : Nat) (v0 v1 v2 : Value) (l0 l1 l2 : List Int) : Prop :=
  Kd.R (Kd.int .i64) 3 W B (fun k => some k ≠ v1.ownBlock ∧ some k ≠ v2.ownBlock) v0 l0 ∧ Kd.R (Kd.int .i64) 3 W B (fun k => some k ≠ v0.ownBlock ∧ some k ≠ v2.ownBlock) v1 l1 ∧ Kd.R (Kd.int .i64) 3 W B (fun k => some k ≠ v0.ownBlock ∧ some k ≠ v1.ownBlock) v2 l2
theorem LS.three {W : World} {B n c : Nat} {A : Option Addr} {l0 l1 l2 : List Int} (h : LS W B (.slice A n c) [l0, l1, l2]) :
    ∃ gv A0 c0 A1 c1 A2 c2, A = some ⟨gv, 0, none⟩ ∧ n = 3 ∧ W.cell? ⟨gv, 0, none⟩ = some (.slice A0 l0.length c0) ∧ W.cell? ⟨gv, 1, none⟩ = some (.slice A1 l1.length c1) ∧ W.cell? ⟨gv, 2, none⟩ = some (.slice A2 l2.length c2) ∧ R3 W B (.slice A0 l0.length c0) (.slice A1 l1.length c1) (.slice A2 l2.length c2) l0 l1 l2 := by
  obtain ⟨hn, hcap, hC⟩ := Kd.S_reads' h
  simp only [List.length_cons, List.length_nil] at hn
  subst hn
  obtain ⟨ad, cs, e, _⟩ := Kd.C_get hC [] 0 (by omega) (by simp)
  subst e
  obtain ⟨f, hf⟩ := h
  obtain ⟨gv, rfl⟩ := Kd.R_head hf
  obtain ⟨x0, hx0, ⟨v0, rfl, m0⟩, k0⟩ := Kd.R_getA hf ([], 0) 0 (by omega) (by omega)
  obtain ⟨x1, hx1, ⟨v1, rfl, m1⟩, k1⟩ := Kd.R_getA hf ([], 0) 1 (by omega) (by omega)
  obtain ⟨x2, hx2, ⟨v2, rfl, m2⟩, k2⟩ := Kd.R_getA hf ([], 0) 2 (by omega) (by omega)
  have e0 := k0 0 _ rfl
  have e1 := k1 0 _ rfl
  have e2 := k2 0 _ rfl
  simp only [Kd.tag, Kd.slice, Go.Proofs.YtdlijioedokgjaaW.PrintWords.add_plain] at e0 e1 e2
  have m0 : Kd.R (Kd.int .i64) 3 W B (fun k => _ ∧ f k = 0) v0 l0 := m0
  have m1 : Kd.R (Kd.int .i64) 3 W B (fun k => _ ∧ f k = 1) v1 l1 := m1
  have m2 : Kd.R (Kd.int .i64) 3 W B (fun k => _ ∧ f k = 2) v2 l2 := m2
  have a0 := fun k hk => (m0.1 k hk).2
  have a1 := fun k hk => (m1.1 k hk).2
  have a2 := fun k hk => (m2.1 k hk).2
  obtain ⟨A0, c0, rfl⟩ := Kd.R_slice m0
  obtain ⟨A1, c1, rfl⟩ := Kd.R_slice m1
  obtain ⟨A2, c2, rfl⟩ := Kd.R_slice m2
  exact ⟨gv, A0, c0, A1, c1, A2, c2, rfl, rfl, e0, e1, e2,
    Row.ok (Row.of m0) (fun k hk => ⟨fun e => by have h1 := a0 k hk; have h2 := a1 k e.symm; omega, fun e => by have h1 := a0 k hk; have h2 := a2 k e.symm; omega⟩),
    Row.ok (Row.of m1) (fun k hk => ⟨fun e => by have h1 := a1 k hk; have h2 := a0 k e.symm; omega, fun e => by have h1 := a1 k hk; have h2 := a2 k e.symm; omega⟩),
    Row.ok (Row.of m2) (fun k hk => ⟨fun e => by have h1 := a2 k hk; have h2 := a0 k e.symm; omega, fun e => by have h1 := a2 k hk; have h2 := a1 k e.symm; omega⟩)⟩
theorem R3.kp {W W1 : World} {B : Nat} {v0 v1 v2 : Value} {l0 l1 l2 : List Int} {S : Nat → Prop} (h : R3 W B v0 v1 v2 l0 l1 l2) (hk : Kp S W W1) (hS : ∀ i, S i → i < B ∨ (some i ≠ v0.ownBlock ∧ some i ≠ v1.ownBlock ∧ some i ≠ v2.ownBlock)) : R3 W1 B v0 v1 v2 l0 l1 l2 := by
  have key : ∀ {v : Value} {l : List Int} {ok : Nat → Prop}, Kd.R (Kd.int .i64) 3 W B ok v l → (∀ i, S i → i < B ∨ some i ≠ v.ownBlock) → Kd.R (Kd.int .i64) 3 W1 B ok v l := by
    intro v l ok h hS
    have h2 := R_kp (Row.ok (Row.of h) (ok := fun k => ok k ∧ some k = v.ownBlock) (fun k hk => ⟨h.1 k hk, hk.symm⟩)) hk (fun i hi => (hS i hi).imp id (fun hn hk => hn hk.2))
    exact Kd.R_mono h2 (fun k hk => hk.1)
  exact ⟨key h.1 (fun i hi => (hS i hi).imp id (fun h => h.1)), key h.2.1 (fun i hi => (hS i hi).imp id (fun h => h.2.1)), key h.2.2 (fun i hi => (hS i hi).imp id (fun h => h.2.2))⟩
theorem R3.below {W W1 : World} {B : Nat} {v0 v1 v2 : Value} {l0 l1 l2 : List Int} (h : R3 W B v0 v1 v2 l0 l1 l2) (hb : Below W.heap.size W W1) : R3 W1 B v0 v1 v2 l0 l1 l2 := R3.kp (S := fun _ => False) h (Kp.of_below hb) (fun _ h => h.elim)
theorem R3.put3 {W : World} {B g : Nat} {v0 v1 v2 a b c : Value} {l0 l1 l2 : List Int} (h : R3 W B v0 v1 v2 l0 l1 l2) (hk : Blk3 W g a b c) (x y z : Value) : R3 (((W.setCell ⟨g, 0, none⟩ x).setCell ⟨g, 1, none⟩ y).setCell ⟨g, 2, none⟩ z) B v0 v1 v2 l0 l1 l2 := by
  have n0 := (Row.of h.1).ne hk.blk (by decide)
  have n1 := (Row.of h.2.1).ne hk.blk (by decide)
  have n2 := (Row.of h.2.2).ne hk.blk (by decide)
  refine R3.kp (S := fun i => i = g) h ((((Kp.refl (fun i => i = g) W).set (p := ⟨g, 0, none⟩) (.inl rfl) x).set (p := ⟨g, 1, none⟩) (.inl rfl) y).set (p := ⟨g, 2, none⟩) (.inl rfl) z) (fun i hi => .inr ?_)
  subst hi
  exact ⟨n0, n1, n2⟩
theorem R3.nil (W : World) (B : Nat) : R3 W B (.slice none 0 0) (.slice none 0 0) (.slice none 0 0) [] [] [] :=
  ⟨Row.ok (Row.nil W B) (fun k hk => by simp [Value.ownBlock] at hk), Row.ok (Row.nil W B) (fun k hk => by simp [Value.ownBlock] at hk), Row.ok (Row.nil W B) (fun k hk => by simp [Value.ownBlock] at hk)⟩
theorem R3.lower {W : World} {B B' : Nat} {v0 v1 v2 : Value} {l0 l1 l2 : List Int} (h : R3 W B v0 v1 v2 l0 l1 l2) (hB : B' ≤ B) : R3 W B' v0 v1 v2 l0 l1 l2 := ⟨Kd.R_lower h.1 hB, Kd.R_lower h.2.1 hB, Kd.R_lower h.2.2 hB⟩
theorem Blk3.far3 {W : World} {g h : Nat} {a b c : Value} (hk : Blk3 W g a b c) (hne : g ≠ h) (x y z : Value) : Blk3 (((W.setCell ⟨h, 0, none⟩ x).setCell ⟨h, 1, none⟩ y).setCell ⟨h, 2, none⟩ z) g a b c :=
  ⟨blk_far (blk_far (blk_far hk.blk (p := ⟨h, 0, none⟩) hne x) (p := ⟨h, 1, none⟩) hne y) (p := ⟨h, 2, none⟩) hne z⟩
/-- What a reader of pools answers. -/
def RPPost (w : World) (r : List Int × List Int × List Int × Int) (e : Ending) (w' : World) : Prop :=
  ∃ v0 v1 v2, e = .returned (.tuple #[.agg #[v0, v1, v2], .int .i64 r.2.2.2]) ∧ R3 w' w.heap.size v0 v1 v2 r.1 r.2.1 r.2.2.1 ∧ Below w.heap.size w w'
def poolOf (l0 l1 l2 : List Int) : List Int × List Int × List Int × Int := if validB l0 l1 l2 = true then (l0, l1, l2, 0) else ([], [], [], 11)
def readPoolP (a0 : ByteArray) : List Int × List Int × List Int × Int :=
  match unsealP a0 (fun _ => 3) with
  | .error c => ([], [], [], c)
  | .ok p => poolOf (p.1.getD 0 []) (p.1.getD 1 []) (p.1.getD 2 [])
theorem rdRest_len (s : ByteArray) : ∀ (n : Nat) (x : Int) (acc : List (List Int)) (p : List (List Int) × Int), rdRest s n x acc = .ok p → p.1.length = acc.length + n := by
  intro n
  induction n with
  | zero => intro x acc p h; simp only [rdRest] at h; injection h with h; subst h; rfl
  | succ n ih =>
    intro x acc p h
    rw [rdRest] at h
    cases hr : rdList s x with
    | error d => rw [hr] at h; cases h
    | ok q => rw [hr] at h; have := ih _ _ _ h; rw [this, List.length_append, List.length_singleton]; omega
theorem unseal3 {a0 : ByteArray} {p : List (List Int) × Int} (h : unsealP a0 (fun _ => 3) = .ok p) : ∃ l0 l1 l2, p.1 = [l0, l1, l2] := by
  unfold unsealP at h
  split at h
  · rw [rdAll] at h
    cases hm : rdMany (openS a0).1 (fun _ => 3) 0 with
    | error d => rw [hm] at h; cases h
    | ok q =>
      rw [hm] at h
      simp only at h
      split at h
      · cases h
      · injection h with h
        subst h
        rw [rdMany] at hm
        cases hr : rdList (openS a0).1 0 with
        | error d => rw [hr] at hm; cases hm
        | ok r =>
          rw [hr] at hm
          have := rdRest_len _ _ _ _ _ hm
          obtain ⟨ls, x⟩ := q
          rcases ls with _ | ⟨a, _ | ⟨b, _ | ⟨c, _ | ⟨d, t⟩⟩⟩⟩ <;> simp at this
          exact ⟨a, b, c, rfl⟩
  · cases h
theorem wants3 : Wants 112 (fun _ => 3) where
  run := by
    intro A c l w hC hc
    go_enter Try.func112, Try.ntmps112
    go_wp2
    go_ret
    exact ⟨rfl, 0, rfl⟩
  enter := fun args w => enters_ Try.func112 (by kernel_rfl) rfl args w
def rp65.T4 : Bool × List (List Nat × List Nat) := (true, [([], []), ([0], [0]), ([1], [1]), ([], []), ([3], [3]), ([4], [4]), ([], []), ([6], [6]), ([7], [7]), ([2, 5, 8], [2, 5, 8]), ([], []), ([10, 9, 0, 1, 2, 3, 4, 5, 6, 7, 8, 9, 10], [9, 10])])
def rp65.B4 : List Nat := [0, 1, 3, 0, 8, 24, 0, 64, 192, 511, 0, 2047]
theorem rp65.tab4 : rtab .any (opsOf Try.f65 4) = rp65.T4 := by kernel_rfl
theorem rp65.bits4 : waitsOk rp65.T4.2 rp65.B4 = true := by kernel_rfl
theorem rdElems_len (s : ByteArray) : ∀ (n : Nat) (x : Int) (acc : List Int) (p : List Int × Int), rdElems s n x acc = .ok p → p.1.length = acc.length + n := by
  intro n
  induction n with
  | zero => intro x acc p h; simp only [rdElems] at h; injection h with h; subst h; rfl
  | succ n ih =>
    intro x acc p h
    rw [rdElems] at h
    cases hr : rdn s 10 0 0 x with
    | error d => rw [hr] at h; cases h
    | ok q => rw [hr] at h; have := ih _ _ _ h; rw [this, List.length_append, List.length_singleton]; omega
theorem rdList_len {s : ByteArray} {x : Int} {p : List Int × Int} (h : rdList s x = .ok p) (hx : ∀ q, rdn s 10 0 0 x = .ok q → 0 ≤ q.2) : p.1.length ≤ s.size := by
  rw [rdList] at h
  cases hr : rdn s 10 0 0 x with
  | error d => rw [hr] at h; cases h
  | ok q =>
    rw [hr] at h
    simp only at h
    split at h
    · cases h
    · rename_i hn
      have := rdElems_len _ _ _ _ _ h
      have := hx q hr
      rw [List.length_nil] at *
      omega
set_option maxHeartbeats 4000000 in
set_option maxRecDepth 100000 in
theorem readPool_calls (a0 : ByteArray) (w : World) (hs : a0.size ≤ 1099511627776) : Calls Try.prog 65 #[.string a0] w (RPPost w (readPoolP a0)) := by
  have hu39 := Try.underlying39
  have HB := Aside0.mk (Below.refl w.heap.size w)
  obtain ⟨T, hT⟩ : ∃ T, T = readPoolP a0 := ⟨_, rfl⟩
  rw [← hT]
  have hu := fun W => unseal_calls a0 112 (fun _ => 3) W wants3 (fun _ _ _ _ _ => by show (3 : Int) ≤ 4000000000000; omega) hs
  cases hr : unsealP a0 (fun _ => 3) with
  | error c =>
    have HT := Aside0.mk (show T = ([], [], [], c) by rw [hT, readPoolP, hr])
    rw [hr] at hu
    have HU := Aside0.mk hu
    clear hu hr hT hs
    go_enter Try.func65, Try.ntmps65
    go_wp2_with (first | ((with_reducible refine gate_dst (N := 2) rfl ?_); refine box_event ?hg (N := 2) ?hd (cs := #[.slice none 0 0, .slice none 0 0, .slice none 0 0]) (t := 39) ?hr ?_; (case hd => rfl); (case hg => rfl); (case hr => first | (go_simp; done) | (go_simp; rfl)); intro g2 hg w1 hbox hb; have BK2 := Aside0.mk (Blk3.mk hbox); have EG2 := Aside0.mk (show w.heap.size ≤ g2 by omega); have N_ := Aside0.mk (below_step HB.out hb); clear HB; have HB := N_; clear N_; clear hg hbox hb) | (go_at_call 111; refine (HU.out _).mono ?_; rintro e w2 ⟨rfl, hc0, hb⟩; have HC0 := Aside0.mk (show (c != 0) = true by simpa using hc0); have t1 := HC0.out; have N_ := Aside0.mk (BK2.out.below hb); clear BK2; have BK2 := N_; clear N_; have N_ := Aside0.mk (below_step HB.out hb); clear HB; have HB := N_; clear N_; clear hb hc0; have z0 := BK2.out.c0; have z1 := BK2.out.c1; have z2 := BK2.out.c2; have fz0 := BK2.out.f 0; have fz1 := BK2.out.f 1; have fz2 := BK2.out.f 2))
    have N1 := BK2.out.put (.slice none 0 0) (.slice none 0 0) (.slice none 0 0)
    have N2 := below_put3 HB.out EG2.out (.slice none 0 0) (.slice none 0 0) (.slice none 0 0)
    clear z0 z1 z2 fz0 fz1 fz2
    have z0 := N1.c0
    have z1 := N1.c1
    have z2 := N1.c2
    refine bodyPost_ret (by simp [results, Try.results65, go_sem, z0, z1, z2]; rfl) rfl ?_
    rw [HT.out]
    exact ⟨_, _, _, rfl, R3.nil _ _, N2⟩
  | ok p =>
    obtain ⟨l0, l1, l2, hp⟩ := unseal3 hr
    have HT := Aside0.mk (show T = poolOf l0 l1 l2 by rw [hT, readPoolP, hr]; simp only [hp]; rfl)
    rw [hr] at hu
    have HU := Aside0.mk (fun W => (hu W).mono (fun e w' (h : ∃ v, e = .returned (.tuple #[v, .int .i64 0]) ∧ LS w' W.heap.size v p.1 ∧ Below W.heap.size W w') => (show ∃ v, e = .returned (.tuple #[v, .int .i64 0]) ∧ LS w' W.heap.size v [l0, l1, l2] ∧ Below W.heap.size W w' from hp ▸ h)))
    clear hu hr hT hs hp
    obtain ⟨b, hb⟩ : ∃ b, validB l0 l1 l2 = b := ⟨_, rfl⟩
    have HVB := Aside0.mk hb
    have HT2 := Aside0.mk (show T = if b = true then (l0, l1, l2, 0) else ([], [], [], 11) by rw [HT.out, poolOf, hb])
    clear hb HT
    go_enter Try.func65, Try.ntmps65
    go_wp2_with (first | ((with_reducible refine gate_dst (N := 2) rfl ?_); refine box_event ?hg (N := 2) ?hd (cs := #[.slice none 0 0, .slice none 0 0, .slice none 0 0]) (t := 39) ?hr ?_; (case hd => rfl); (case hg => rfl); (case hr => first | (go_simp; done) | (go_simp; rfl)); intro g2 hg w1 hbox hb; have BK2 := Aside0.mk (Blk3.mk hbox); have EG2 := Aside0.mk (show w.heap.size ≤ g2 by omega); have N_ := Aside0.mk (below_step HB.out hb); clear HB; have HB := N_; clear N_; clear hg hbox hb) | (go_at_call 111; refine (HU.out _).mono ?_; rintro e w2 ⟨v, rfl, hL, hb⟩; have N_ := Aside0.mk (BK2.out.below hb); clear BK2; have BK2 := N_; clear N_; have HSZ := Aside0.mk (show w.heap.size ≤ w1.heap.size from HB.out.size); have N_ := Aside0.mk (below_step HB.out hb); clear HB; have HB := N_; clear N_; obtain ⟨A, c, e3⟩ := LS.form hL; obtain rfl : v = .slice A 3 c := e3; obtain ⟨gv, A0, q0, A1, q1, A2, q2, rfl, e4, hz0, hz1, hz2, hR⟩ := LS.three hL; have HL := Aside0.mk (R3.lower hR HSZ.out); have HZ := Aside0.mk (And.intro hz0 (And.intro hz1 hz2)); (try clear e3); (try clear e4); clear hb hL hz0 hz1 hz2 hR))
    rename_i K9 hK9
    have HL := Aside0.mk (R3.below HL.out (below_drew1 (Below.refl _ _)))
    have BK2 := Aside0.mk BK2.out.drew
    have HB := Aside0.mk (below_drew1 HB.out)
    have HZ := Aside0.mk (show w2.drew.cell? ⟨gv, 0, none⟩ = some (.slice A0 l0.length q0) ∧ w2.drew.cell? ⟨gv, 1, none⟩ = some (.slice A1 l1.length q1) ∧ w2.drew.cell? ⟨gv, 2, none⟩ = some (.slice A2 l2.length q2) from HZ.out)
    refine start_ (n := 12) (S := fun w' => w'.cell? ⟨gv, 0, none⟩ = some (.slice A0 l0.length q0) ∧ w'.cell? ⟨gv, 1, none⟩ = some (.slice A1 l1.length q1) ∧ w'.cell? ⟨gv, 2, none⟩ = some (.slice A2 l2.length q2)) (ds := [11]) #[false, false, false, false, false, false, false, false, false, false, false, false] (by kernel_rfl) rfl rfl ⟨HZ.out.1, HZ.out.2.1, HZ.out.2.2⟩ (fun hHeld => ?_)
    refine with_tabW rp65.tab4 rp65.bits4 (fun HT_ HW_ => ?_)
    generalize w2.drew = w4 at HL BK2 HB HZ hHeld ⊢
    refine pure_ (i := 0) (N := some 16) (v := ?_) (a' := ?_) #[true, false, false, false, false, false, false, false, false, false, false, false] rfl rfl (any_of HT_.out (by kernel_rfl)) (fun _ _ _ h => h) (Or.inl ⟨by rfl, ?_⟩) ?_ ?_
    rotate_left
    · intro w'
      go_simp
      with_reducible rfl
    rotate_left
    · simp only [Act.put, List.setIfInBounds_toArray, List.set_cons_zero, List.set_cons_succ, i64_w, i32_w]
      rfl
    refine pure_ (i := 1) (N := some 17) (v := ?_) (a' := ?_) #[true, true, false, false, false, false, false, false, false, false, false, false] rfl rfl (any_of HT_.out (by kernel_rfl)) (fun _ _ _ h => h) (Or.inl ⟨by rfl, ?_⟩) ?_ ?_
    rotate_left
    · intro w'
      go_simp
      with_reducible rfl
    rotate_left
    · simp only [Act.put, List.setIfInBounds_toArray, List.set_cons_zero, List.set_cons_succ, i64_w, i32_w]
      rfl
    refine pure_ (i := 3) (N := some 19) (v := ?_) (a' := ?_) #[true, true, false, true, false, false, false, false, false, false, false, false] rfl rfl (any_of HT_.out (by kernel_rfl)) (fun _ _ _ h => h) (Or.inl ⟨by rfl, ?_⟩) ?_ ?_
    rotate_left
    · intro w'
      go_simp
      with_reducible rfl
    rotate_left
    · simp only [Act.put, List.setIfInBounds_toArray, List.set_cons_zero, List.set_cons_succ, i64_w, i32_w]
      rfl
    refine pure_ (i := 4) (N := some 20) (v := ?_) (a' := ?_) #[true, true, false, true, true, false, false, false, false, false, false, false] rfl rfl (any_of HT_.out (by kernel_rfl)) (fun _ _ _ h => h) (Or.inl ⟨by rfl, ?_⟩) ?_ ?_
    rotate_left
    · intro w'
      go_simp
      with_reducible rfl
    rotate_left
    · simp only [Act.put, List.setIfInBounds_toArray, List.set_cons_zero, List.set_cons_succ, i64_w, i32_w]
      rfl
    refine pure_ (i := 6) (N := some 22) (v := ?_) (a' := ?_) #[true, true, false, true, true, false, true, false, false, false, false, false] rfl rfl (any_of HT_.out (by kernel_rfl)) (fun _ _ _ h => h) (Or.inl ⟨by rfl, ?_⟩) ?_ ?_
    rotate_left
    · intro w'
      go_simp
      with_reducible rfl
    rotate_left
    · simp only [Act.put, List.setIfInBounds_toArray, List.set_cons_zero, List.set_cons_succ, i64_w, i32_w]
      rfl
    refine pure_ (i := 7) (N := some 23) (v := ?_) (a' := ?_) #[true, true, false, true, true, false, true, true, false, false, false, false] rfl rfl (any_of HT_.out (by kernel_rfl)) (fun _ _ _ h => h) (Or.inl ⟨by rfl, ?_⟩) ?_ ?_
    rotate_left
    · intro w'
      go_simp
      with_reducible rfl
    rotate_left
    · simp only [Act.put, List.setIfInBounds_toArray, List.set_cons_zero, List.set_cons_succ, i64_w, i32_w]
      rfl
    refine take_ (i := 2) (N := some 18) (v := ?_) (a' := ?_) #[true, true, true, true, true, false, true, true, false, false, false, false] rfl rfl (take_ofW HT_.out HW_.out (by kernel_rfl)) (fun _ _ _ h => h) (Or.inl ⟨by rfl, ?_⟩) hHeld ?_ ?_
    rotate_left
    · rintro w' ⟨s0, s1, s2⟩
      go_simp
      with_reducible rfl
    rotate_left
    · simp only [Act.put, List.setIfInBounds_toArray, List.set_cons_zero, List.set_cons_succ, i64_w, i32_w]
      rfl
    refine take_ (i := 5) (N := some 21) (v := ?_) (a' := ?_) #[true, true, true, true, true, true, true, true, false, false, false, false] rfl rfl (take_ofW HT_.out HW_.out (by kernel_rfl)) (fun _ _ _ h => h) (Or.inl ⟨by rfl, ?_⟩) hHeld ?_ ?_
    rotate_left
    · rintro w' ⟨s0, s1, s2⟩
      go_simp
      with_reducible rfl
    rotate_left
    · simp only [Act.put, List.setIfInBounds_toArray, List.set_cons_zero, List.set_cons_succ, i64_w, i32_w]
      rfl
    refine take_ (i := 8) (N := some 24) (v := ?_) (a' := ?_) #[true, true, true, true, true, true, true, true, true, false, false, false] rfl rfl (take_ofW HT_.out HW_.out (by kernel_rfl)) (fun _ _ _ h => h) (Or.inl ⟨by rfl, ?_⟩) hHeld ?_ ?_
    rotate_left
    · rintro w' ⟨s0, s1, s2⟩
      go_simp
      with_reducible rfl
    rotate_left
    · simp only [Act.put, List.setIfInBounds_toArray, List.set_cons_zero, List.set_cons_succ, i64_w, i32_w]
      rfl
    refine pure_ (i := 9) (N := some 25) (v := ?_) (a' := ?_) #[true, true, true, true, true, true, true, true, true, true, false, false] rfl rfl (any_of HT_.out (by kernel_rfl)) (fun _ _ _ h => h) (Or.inl ⟨by rfl, ?_⟩) ?_ ?_
    rotate_left
    · intro w'
      go_simp
      with_reducible rfl
    rotate_left
    · simp only [Act.put, List.setIfInBounds_toArray, List.set_cons_zero, List.set_cons_succ, i64_w, i32_w]
      rfl
    refine one_ (i := 10) (N := some 6) #[true, true, true, true, true, true, true, true, true, true, true, false] rfl rfl (one_of HT_.out (by kernel_rfl)) (by decide) (fun K hK => ?_)
    refine event_step (v := .pointer (some ⟨w4.heap.size, 0, none⟩)) (w1 := w4.alloc (.cells #[.slice none 0 0, .slice none 0 0, .slice none 0 0] 39)) (by rfl) ?hr ?_
    (case hr => first | (go_simp; done) | (go_simp; rfl))
    have hb := below_alloc (Below.refl w4.heap.size w4) (.cells #[.slice none 0 0, .slice none 0 0, .slice none 0 0] 39)
    have N1 := Aside0.mk (R3.below HL.out hb)
    have N2 := Aside0.mk (BK2.out.below hb)
    have N4 := Aside0.mk (Blk3.mk (alloc_at w4 (.cells #[.slice none 0 0, .slice none 0 0, .slice none 0 0] 39)))
    have NE := Aside0.mk (show g2 ≠ w4.heap.size by have := blk_lt BK2.out.blk; omega)
    have EG6 := Aside0.mk (show w.heap.size ≤ w4.heap.size from HB.out.size)
    have N5 := HZ.out
    have N6 := World.block_lt_of_cell? w4 _ N5.1
    have N7 := World.block_lt_of_cell? w4 _ N5.2.1
    have N8 := World.block_lt_of_cell? w4 _ N5.2.2
    have HZ := Aside0.mk (And.intro ((World.cell?_of_block (hb.block _ N6)).trans N5.1) (And.intro ((World.cell?_of_block (hb.block _ N7)).trans N5.2.1) ((World.cell?_of_block (hb.block _ N8)).trans N5.2.2)))
    have N3 := Aside0.mk (below_step HB.out hb)
    clear HL BK2 HB N5 N6 N7 N8 hb
    have HL := N1; have BK2 := N2; have HB := N3; have BK6 := N4
    clear N1 N2 N3 N4
    generalize w4.heap.size = g6 at BK6 NE EG6 ⊢
    generalize w4.alloc (.cells #[.slice none 0 0, .slice none 0 0, .slice none 0 0] 39) = w5 at HL BK2 HB HZ BK6 ⊢
    have z0 := BK6.out.c0
    have z1 := BK6.out.c1
    have z2 := BK6.out.c2
    have fz0 := BK6.out.f 0
    have fz1 := BK6.out.f 1
    have fz2 := BK6.out.f 2
    refine hK.out _ _ ⟨HZ.out.1, HZ.out.2.1, HZ.out.2.2⟩ (fun hHeld => ?_)
    clear hK K
    refine norm_ (a' := ?_) ?_ ?_
    rotate_left
    · show Act.put _ (some 6) _ = _
      simp only [Act.put, List.setIfInBounds_toArray, List.set_cons_zero, List.set_cons_succ, i64_w, i32_w]
      rfl
    refine last_ (i := 11) (N := none) #[true, true, true, true, true, true, true, true, true, true, true, true] rfl rfl (one_of HT_.out (by kernel_rfl)) (by decide) (fun K hK => ?_)
    refine skip_ (w1 := ?_) (by rfl) rfl ?_ ?_
    rotate_left
    · go_simp
      rfl
    refine hK.out _ _ ?_
    clear hK K
    refine done_ (done_of HT_.out (by kernel_rfl)) ?_
    refine hK9 _ _ ?_
    have N1 := Aside0.mk (R3.put3 HL.out BK6.out (.slice A0 l0.length q0) (.slice A1 l1.length q1) (.slice A2 l2.length q2))
    have N2 := Aside0.mk (BK2.out.far3 NE.out (.slice A0 l0.length q0) (.slice A1 l1.length q1) (.slice A2 l2.length q2))
    have N3 := Aside0.mk (below_put3 HB.out EG6.out (.slice A0 l0.length q0) (.slice A1 l1.length q1) (.slice A2 l2.length q2))
    have N4 := Aside0.mk (BK6.out.put (.slice A0 l0.length q0) (.slice A1 l1.length q1) (.slice A2 l2.length q2))
    clear HL BK2 HB BK6 HZ z0 z1 z2 fz0 fz1 fz2
    have HL := N1; have BK2 := N2; have HB := N3; have BK6 := N4
    clear N1 N2 N3 N4
    generalize ((w5.setCell ⟨g6, 0, none⟩ (.slice A0 l0.length q0)).setCell ⟨g6, 1, none⟩ (.slice A1 l1.length q1)).setCell ⟨g6, 2, none⟩ (.slice A2 l2.length q2) = w6 at HL BK2 HB BK6 ⊢
    have z0 := BK6.out.c0
    have z1 := BK6.out.c1
    have z2 := BK6.out.c2
    have fz0 := BK6.out.f 0
    have fz1 := BK6.out.f 1
    have fz2 := BK6.out.f 2
    have ng := eq_false NE.out
    have ng2 := eq_false (Ne.symm NE.out)
    have h64a := Kd.C_max (Row.read (Row.of HL.out.1)).2.1
    have h64b := Kd.C_max (Row.read (Row.of HL.out.2.1)).2.1
    obtain ⟨k, hk⟩ := (Valid_ev l0 l1 l2 (by omega) (by omega)).exists_
    rw [HVB.out] at hk
    have HV := Aside0.mk (fun W A0 q0 A1 q1 A2 q2 h0 k0 h1 k1 h2 k2 => seqpool_Valid.calls k A0 q0 l0 A1 q1 l1 A2 q2 l2 b W h0 k0 h1 k1 h2 k2 hk)
    clear hk h64a h64b
    cases b with
    | false =>
      go_wp2_with (first | (go_at_call 59; refine (HV.out _ _ _ _ _ _ _ (Row.read (Row.of HL.out.1)).2.1 (Row.read (Row.of HL.out.1)).2.2 (Row.read (Row.of HL.out.2.1)).2.1 (Row.read (Row.of HL.out.2.1)).2.2 (Row.read (Row.of HL.out.2.2)).2.1 (Row.read (Row.of HL.out.2.2)).2.2).mono ?_; rintro e w7 ⟨rfl, hb⟩; have N1 := Aside0.mk (R3.below HL.out hb); have N2 := Aside0.mk (BK2.out.below hb); have N4 := Aside0.mk (BK6.out.below hb); have N3 := Aside0.mk (below_step HB.out hb); clear HL BK2 HB BK6 hb z0 z1 z2 fz0 fz1 fz2; have HL := N1; have BK2 := N2; have HB := N3; have BK6 := N4; clear N1 N2 N3 N4; have z0 := BK6.out.c0; have z1 := BK6.out.c1; have z2 := BK6.out.c2; have fz0 := BK6.out.f 0; have fz1 := BK6.out.f 1; have fz2 := BK6.out.f 2; have z3 := BK2.out.c0; have z4 := BK2.out.c1; have z5 := BK2.out.c2; have fz3 := BK2.out.f 0; have fz4 := BK2.out.f 1; have fz5 := BK2.out.f 2))
      have N1 := BK2.out.put (.slice none 0 0) (.slice none 0 0) (.slice none 0 0)
      have N2 := below_put3 HB.out EG2.out (.slice none 0 0) (.slice none 0 0) (.slice none 0 0)
      clear z0 z1 z2 z3 z4 z5 fz0 fz1 fz2 fz3 fz4 fz5
      have z0 := N1.c0
      have z1 := N1.c1
      have z2 := N1.c2
      refine bodyPost_ret (by simp [results, Try.results65, go_sem, z0, z1, z2]; rfl) rfl ?_
      rw [HT2.out]
      exact ⟨_, _, _, rfl, R3.nil _ _, N2⟩
    | true =>
      go_wp2_with (first | (go_at_call 59; refine (HV.out _ _ _ _ _ _ _ (Row.read (Row.of HL.out.1)).2.1 (Row.read (Row.of HL.out.1)).2.2 (Row.read (Row.of HL.out.2.1)).2.1 (Row.read (Row.of HL.out.2.1)).2.2 (Row.read (Row.of HL.out.2.2)).2.1 (Row.read (Row.of HL.out.2.2)).2.2).mono ?_; rintro e w7 ⟨rfl, hb⟩; have N1 := Aside0.mk (R3.below HL.out hb); have N2 := Aside0.mk (BK2.out.below hb); have N4 := Aside0.mk (BK6.out.below hb); have N3 := Aside0.mk (below_step HB.out hb); clear HL BK2 HB BK6 hb z0 z1 z2 fz0 fz1 fz2; have HL := N1; have BK2 := N2; have HB := N3; have BK6 := N4; clear N1 N2 N3 N4; have z0 := BK6.out.c0; have z1 := BK6.out.c1; have z2 := BK6.out.c2; have fz0 := BK6.out.f 0; have fz1 := BK6.out.f 1; have fz2 := BK6.out.f 2; have z3 := BK2.out.c0; have z4 := BK2.out.c1; have z5 := BK2.out.c2; have fz3 := BK2.out.f 0; have fz4 := BK2.out.f 1; have fz5 := BK2.out.f 2))
      have N1 := BK2.out.put (.slice A0 l0.length q0) (.slice A1 l1.length q1) (.slice A2 l2.length q2)
      have N2 := below_put3 HB.out EG2.out (.slice A0 l0.length q0) (.slice A1 l1.length q1) (.slice A2 l2.length q2)
      have N3 := R3.put3 HL.out BK2.out (.slice A0 l0.length q0) (.slice A1 l1.length q1) (.slice A2 l2.length q2)
      clear z0 z1 z2 z3 z4 z5 fz0 fz1 fz2 fz3 fz4 fz5
      have z0 := N1.c0
      have z1 := N1.c1
      have z2 := N1.c2
      refine bodyPost_ret (by simp [results, Try.results65, go_sem, z0, z1, z2]; rfl) rfl ?_
      rw [HT2.out]
      exact ⟨_, _, _, rfl, N3, N2⟩
theorem rdMany3 (s : ByteArray) (x : Int) : rdMany s (fun _ => 3) x = rdRest s 3 x [] := by
  rw [rdMany, rdRest]
  cases rdList s x <;> rfl
def rpOut (bd : ByteArray) : Except Int (List (List Int) × Int) → List Int × List Int × List Int × Int
  | .error c => ([], [], [], c)
  | .ok p => if p.2 < bd.size then ([], [], [], 2) else poolOf (p.1.getD 0 []) (p.1.getD 1 []) (p.1.getD 2 [])
theorem readPoolP_eq {a0 bd : ByteArray} {ec : Int} (h : openS a0 = (bd, ec)) : readPoolP a0 = if ec = 0 then rpOut bd (rdRest bd 3 0 []) else ([], [], [], ec) := by
  rw [readPoolP, unsealP, h]
  simp only
  by_cases he : ec = 0
  · rw [if_pos he, if_pos he, rdAll, rdMany3]
    cases rdRest bd 3 0 [] with
    | error c => rfl
    | ok p =>
      simp only [rpOut]
      by_cases hp : p.2 < (bd.size : Int)
      · rw [if_pos hp, if_pos hp]
      · rw [if_neg hp, if_neg hp]
  · rw [if_neg he, if_neg he]
def image_ReadPool.f (a0 : ByteArray) : Option (List Int × List Int × List Int × Int) := if a0.size ≤ 1099511627776 then some (readPoolP a0) else none
theorem image_ReadPool.calls (a0 : ByteArray) (r1 : List Int) (r2 : List Int) (r3 : List Int) (r4 : Int) (w : World) (h : image_ReadPool.f a0 = some (r1, r2, r3, r4)) :
    Calls Try.prog 65 #[.string a0] w fun e w' => ∃ v0_ v1_ v2_ : Value, e = .returned (.tuple #[.agg #[v0_, v1_, v2_], .int .i64 r4]) ∧ Kd.R (Kd.int .i64) 3 w' w.heap.size (fun k_ => some k_ ≠ (v1_ : Value).ownBlock ∧ some k_ ≠ (v2_ : Value).ownBlock) v0_ r1 ∧ Kd.R (Kd.int .i64) 3 w' w.heap.size (fun k_ => some k_ ≠ (v0_ : Value).ownBlock ∧ some k_ ≠ (v2_ : Value).ownBlock) v1_ r2 ∧ Kd.R (Kd.int .i64) 3 w' w.heap.size (fun k_ => some k_ ≠ (v0_ : Value).ownBlock ∧ some k_ ≠ (v1_ : Value).ownBlock) v2_ r3 ∧ Below w.heap.size w w' := by
  unfold image_ReadPool.f at h
  split at h
  · rename_i hs
    injection h with h
    refine (readPool_calls a0 w hs).mono ?_
    rintro e w' ⟨v0, v1, v2, rfl, hR, hb⟩
    rw [h] at hR ⊢
    exact ⟨v0, v1, v2, rfl, hR.1, hR.2.1, hR.2.2, hb⟩
  · cases h
end Go.Proofs.Ytdlijioedokgjaa.Q

/- image.ReadInts by hand: its contract, for strings of at most 2^40 bytes. -/
import Derived.Test.YtdlijioedokgjaaHFrame
import Derived.Test.YtdlijioedokgjaaHRead
namespace Go.Proofs.Ytdlijioedokgjaa.Q
open Go.RowKit Go.Proofs.YtdlijioedokgjaaW.PrintWords Go.Proofs.YtdlijioedokgjaaW.PrintLast Go.Proofs.YtdlijioedokgjaaW.PrintMore
set_option linter.unusedVariables false
set_option linter.unusedSimpArgs false

theorem RdKeep.kp {g : Nat} {w w' : World} (h : RdKeep g w w') : Kp (fun i => i = g) w w' := ⟨h.below.os, h.below.tape, h.below.output, h.below.size, fun i hi hn => h.keep.2 i hi hn (by simp)⟩

def C91Post (g h : Nat) (s : ByteArray) (w : World) (r : Except Int (List Int × Int)) (e : Ending) (w' : World) : Prop :=
  match r with
  | .ok p => ∃ v, e = .returned (.tuple #[]) ∧ Kd.R (Kd.int .i64) 3 w' w.heap.size (fun _ => True) v p.1 ∧ w'.heap[h]? = some (.cells #[v] 26 (0, 0)) ∧ RdAt w' g s p.2 ∧ 0 ≤ p.2 ∧ p.2 ≤ s.size ∧ Kp (fun i => i = g ∨ i = h) w w'
  | .error c => e = .panicked [{ v := .iface 30 (.int .i64 c), recovered := false }] ∧ Kp (fun i => i = g ∨ i = h) w w'

set_option maxHeartbeats 2000000 in
set_option maxRecDepth 100000 in
theorem close91_calls (g h : Nat) (v0 : Value) (s : ByteArray) (i : Int) (w : World) (hs : s.size ≤ 1099511627776) (hb : RdAt w g s i) (hi0 : 0 ≤ i) (hi : i ≤ s.size) (hh : w.heap[h]? = some (.cells #[v0] 26 (0, 0))) :
    Calls Try.prog 91 #[.pointer (some ⟨g, 0, none⟩), .pointer (some ⟨h, 0, none⟩)] w (C91Post g h s w (rdList s i)) := by
  have hne : h ≠ g := by rintro rfl; rw [RdAt, hh] at hb; injection hb with hb; injection hb with _ hb _; exact absurd hb (by decide)
  have HC := list_calls g s i w hs hb hi0 hi
  cases hr : rdList s i with
  | error c =>
    rw [hr] at HC
    have HC' := Aside0.mk HC
    clear HC hr
    go_enter Try.func91, Try.ntmps91
    go_wp2_with (go_at_call 92; refine HC'.out.mono ?_; rintro e w' ⟨rfl, hk⟩)
    exact ⟨rfl, rfl, hk.kp.mono (fun i hi => .inl hi)⟩
  | ok p =>
    rw [hr] at HC
    have HC' := Aside0.mk HC
    clear HC hr
    go_enter Try.func91, Try.ntmps91
    go_wp2_with (go_at_call 92; refine HC'.out.mono ?_; rintro e w2 ⟨v, rfl, hR, hrd, hx0, hx, hk⟩; obtain ⟨A, c, rfl⟩ := Kd.R_slice hR; have hh2 := hk.kp.heap hh hne; have c0 := blk_cell hh2 0; have f0 := blk_frozen hh2 0; have HR := Aside0.mk hR; clear hR)
    go_end0
    refine ⟨_, rfl, ?_, by simpa using blk_set hh2 0 _, (Below.heap_setCell w2 ⟨h, 0, none⟩ _ g (Ne.symm hne)).trans hrd, hx0, hx, ?_⟩
    · have hlt := blk_lt hh
      have hkk : Kp (fun i => i = h) w2 (w2.setCell ⟨h, 0, none⟩ (.slice A p.1.length c)) := Kp.set (Kp.refl (fun i => i = h) w2) (p := ⟨h, 0, none⟩) (Or.inl rfl) _
      exact R_kp HR.out hkk (fun i hi => .inl (by omega))
    · exact (hk.kp.mono (fun i hi => .inl hi)).set (.inl (.inr rfl)) _

theorem callFunc91 (args : Array Value) (w : World) : (callFunc 91 args).run Try.prog w = .ok (.enter 91 args) w := enters_ Try.func91 (by kernel_rfl) rfl args w

/-- image.ReadInts: the list at the begin of the string, how long its bytes are, no error; or the error. -/
def image_ReadInts.f (a0 : ByteArray) : Option (List Int × Int × Int) :=
  if a0.size ≤ 1099511627776 then
    some (match rdList a0 0 with
      | .ok p => (p.1, p.2, 0)
      | .error c => ([], 0, c))
  else none

theorem rdn_err (s : ByteArray) : ∀ (n : Nat) (k u x c : Int), rdn s n k u x = .error c → c ≠ 0 := by
  intro n
  induction n with
  | zero => intro k u x c h; simp [rdn] at h
  | succ n ih =>
    intro k u x c h
    rw [rdn] at h
    split at h
    · split at h
      · injection h with h; omega
      · split at h
        · simp at h
        · exact ih _ _ _ _ h
    · injection h with h; omega
theorem rdElems_err (s : ByteArray) : ∀ (n : Nat) (x : Int) (acc : List Int) (c : Int), rdElems s n x acc = .error c → c ≠ 0 := by
  intro n
  induction n with
  | zero => intro x acc c h; simp [rdElems] at h
  | succ n ih =>
    intro x acc c h
    rw [rdElems] at h
    cases hr : rdn s 10 0 0 x with
    | error d => rw [hr] at h; injection h with h; subst h; exact rdn_err s _ _ _ _ _ hr
    | ok p => rw [hr] at h; exact ih _ _ _ h
theorem rdList_err (s : ByteArray) (x : Int) (c : Int) (h : rdList s x = .error c) : c ≠ 0 := by
  rw [rdList] at h
  cases hr : rdn s 10 0 0 x with
  | error d => rw [hr] at h; injection h with h; subst h; exact rdn_err s _ _ _ _ _ hr
  | ok p =>
    rw [hr] at h
    simp only at h
    split at h
    · injection h with h; omega
    · exact rdElems_err s _ _ _ _ h

set_option maxHeartbeats 2000000 in
set_option maxRecDepth 100000 in
theorem image_ReadInts.calls (a0 : ByteArray) (r1 : List Int) (r2 : Int) (r3 : Int) (w : World) (h : image_ReadInts.f a0 = some (r1, r2, r3)) :
    Calls Try.prog 33 #[.string a0] w fun e w' => ∃ v0_ : Value, e = .returned (.tuple #[v0_, .int .i64 r2, .int .i64 r3]) ∧ Kd.R (Kd.int .i64) 3 w' w.heap.size (fun _ => True) v0_ r1 ∧ Below w.heap.size w w' := by
  have hmf : ∀ (fn : Fn) (first cap : Array Value) (w : World), (Instr.makeFunc fn first cap).run Try.prog w = .ok (.func fn first cap) w := fun _ _ _ _ => rfl
  rw [image_ReadInts.f] at h
  by_cases hs : a0.size ≤ 1099511627776
  case neg => rw [if_neg hs] at h; exact absurd h (by simp)
  rw [if_pos hs] at h
  -- the world in which the closure is called
  obtain ⟨W, hW⟩ : ∃ W, W = readWorld (w.alloc (.cells #[.slice none 0 0] 26)) a0 := ⟨_, rfl⟩
  have hsz : (w.alloc (.cells #[.slice none 0 0] 26)).heap.size = w.heap.size + 1 := by simp
  have hsW : W.heap.size = w.heap.size + 4 := by rw [hW]; simp [readWorld]
  have hrd : RdAt W (w.heap.size + 3) a0 0 := by rw [hW]; have := alloc_at (((w.alloc (.cells #[.slice none 0 0] 26)).alloc (.cells #[.int .i64 0] 3)).alloc (.cells #[.int .i64 0] 30)) (.cells #[.string a0, .int .i64 0] 137); simpa [RdAt, readWorld] using this
  have hp : W.heap[w.heap.size + 1]? = some (.cells #[.int .i64 0] 3 (0, 0)) := by
    rw [hW]; exact alloc_old (alloc_old (by simpa using alloc_at (w.alloc (.cells #[.slice none 0 0] 26)) (.cells #[.int .i64 0] 3)) _) _
  have hq : W.heap[w.heap.size + 1 + 1]? = some (.cells #[.int .i64 0] 30 (0, 0)) := by
    rw [hW]; exact alloc_old (by simpa using alloc_at ((w.alloc (.cells #[.slice none 0 0] 26)).alloc (.cells #[.int .i64 0] 3)) (.cells #[.int .i64 0] 30)) _
  have ho : W.heap[w.heap.size]? = some (.cells #[.slice none 0 0] 26 (0, 0)) := by
    rw [hW]; exact alloc_old (alloc_old (alloc_old (by simpa using alloc_at w (.cells #[.slice none 0 0] 26)) _) _) _
  have hbW : Below w.heap.size w W := by rw [hW]; exact below_alloc (below_alloc (below_alloc (below_alloc (Below.refl _ _) _) _) _) _
  have HC := close91_calls (w.heap.size + 3) w.heap.size _ a0 0 W hs hrd (by omega) (by omega) ho
  cases hr : rdList a0 0 with
  | error c =>
    have hc0 := rdList_err a0 0 c hr
    rw [hr] at HC h
    simp only [Option.some.injEq, Prod.mk.injEq] at h
    obtain ⟨rfl, rfl, rfl⟩ := h
    have HD := read_err a0 91 #[.pointer (some ⟨w.heap.size, 0, none⟩)] c (w.alloc (.cells #[.slice none 0 0] 26)) (fun w2 => Kp (fun i => i = w.heap.size + 3 ∨ i = w.heap.size) W w2) callFunc91 (by
      rw [hsz, ← hW]
      refine HC.mono ?_
      rintro e w2 ⟨rfl, hk⟩
      exact ⟨rfl, hk.heap hp (by omega), hk.heap hq (by omega), hk⟩)
    rw [hsz] at HD
    have HD' := Aside0.mk HD
    have t1 : (c != 0) = true := by simp [hc0]
    have HB := Aside0.mk hbW
    have HW := Aside0.mk hsW
    clear HD HC hr hc0 hW hsW hrd hp hq ho hbW hsz
    go_enter Try.func33, Try.ntmps33
    go_wp2_with (go_at_call 90; refine HD'.out.mono ?_; rintro e w3 ⟨rfl, w2, hk, rfl⟩)
    go_ret3
    refine ⟨_, rfl, Kd.R_nil _ _ _ _ _, ?_⟩
    have h1 : Kp (fun i => w.heap.size ≤ i) w w2 := (Kp.of_below HB.out).then_ hk (fun i hi => .inl (by omega))
    exact ((h1.set (.inl (by simp)) _).set (.inl (by simp; omega)) _).to_below (Nat.le_refl _) (fun _ hi => hi)
  | ok p =>
    obtain ⟨l, x⟩ := p
    rw [hr] at HC h
    simp only [Option.some.injEq, Prod.mk.injEq] at h
    obtain ⟨rfl, rfl, rfl⟩ := h
    have HD := read_ok a0 91 #[.pointer (some ⟨w.heap.size, 0, none⟩)] x (w.alloc (.cells #[.slice none 0 0] 26)) (fun w2 => ∃ v, Kd.R (Kd.int .i64) 3 w2 W.heap.size (fun _ => True) v l ∧ w2.heap[w.heap.size]? = some (.cells #[v] 26 (0, 0)) ∧ Kp (fun i => i = w.heap.size + 3 ∨ i = w.heap.size) W w2) callFunc91 (by
      rw [hsz, ← hW]
      refine HC.mono ?_
      rintro e w2 ⟨v, rfl, hR, hv, hrd2, hx0, hx, hk⟩
      exact ⟨rfl, hrd2, hk.heap hp (by omega), hk.heap hq (by omega), v, hR, hv, hk⟩)
    rw [hsz] at HD
    have HD' := Aside0.mk HD
    have HB := Aside0.mk hbW
    have HW := Aside0.mk hsW
    clear HD HC hr hW hsW hrd hp hq ho hbW hsz
    go_enter Try.func33, Try.ntmps33
    go_wp2_with (go_at_call 90; refine HD'.out.mono ?_; rintro e w3 ⟨rfl, w2, ⟨v, hR, hv, hk⟩, hw3⟩; have h1 : Kp (fun i => w.heap.size ≤ i) w w2 := (Kp.of_below HB.out).then_ hk (fun i hi => .inl (by omega)); have h2 : Kp (fun i => w.heap.size ≤ i) w w3 := (by rw [hw3]; exact (h1.set (.inl (by simp)) _).set (.inl (by simp; omega)) _); have hv3 : w3.heap[w.heap.size]? = some (.cells #[v] 26 (0, 0)) := (by rw [hw3]; exact blk_far (blk_far hv (by simp) _) (by simp; omega) _); have hR3 : Kd.R (Kd.int .i64) 3 w3 w.heap.size (fun _ => True) v l := (by rw [hw3]; refine Kd.R_lower (R_kp hR ((Kp.set (Kp.refl (fun i => i = w.heap.size + 1 ∨ i = w.heap.size + 2) w2) (p := ⟨w.heap.size + 1, 0, none⟩) (.inl (.inl rfl)) _).set (p := ⟨w.heap.size + 1 + 1, 0, none⟩) (.inl (.inr rfl)) _) (fun i hi => .inl (by rw [HW.out]; omega))) (by rw [HW.out]; omega)); obtain ⟨A, c, rfl⟩ := Kd.R_slice hR3; have c0 := blk_cell hv3 0; have H2 := Aside0.mk h2; have H3 := Aside0.mk hR3; clear h1 h2 hR3 hw3 hR hv hk)
    go_ret3
    exact ⟨_, rfl, H3.out, H2.out.to_below (Nat.le_refl _) (fun _ hi => hi)⟩
end Go.Proofs.Ytdlijioedokgjaa.Q

import Derived.Test.YtdlijioedokgjaaHRdNum
namespace Go.Proofs.Ytdlijioedokgjaa.Q
open Go.RowKit Go.Proofs.YtdlijioedokgjaaW.PrintWords Go.Proofs.YtdlijioedokgjaaW.PrintLast Go.Proofs.YtdlijioedokgjaaW.PrintMore
set_option linter.unusedVariables false
set_option linter.unusedSimpArgs false

theorem RdKeep.trans {g : Nat} {w w1 w2 : World} (h : RdKeep g w w1) (k : RdKeep g w1 w2) : RdKeep g w w2 := ⟨h.below.trans k.below, h.keep.trans k.keep (.inl rfl)⟩
theorem RdKeep.grow {g : Nat} {w W w1 : World} (h : RdKeep g w W) (hg : g ≤ w.heap.size) (hb : Below w.heap.size W w1) : RdKeep g w w1 :=
  ⟨h.below.trans (hb.mono hg), ⟨Nat.le_trans h.keep.1 hb.size, fun i hi hne hr => (hb.block i hi).trans (h.keep.2 i hi hne hr)⟩⟩
theorem RdAt.grow {g B : Nat} {s : ByteArray} {i : Int} {W w1 : World} (h : RdAt W g s i) (hg : g < B) (hb : Below B W w1) : RdAt w1 g s i := (hb.block g hg).trans h
theorem R_rd {α : Type} {d : Kd α} {e B g : Nat} {W W1 : World} {ok : Nat → Prop} {v : Value} {xs : List α} (h : d.R e W B ok v xs) (hk : KeepBut W W1 g none) (hg : g < B) : d.R e W1 B ok v xs :=
  Kd.R_mono (Kd.R_step (Kd.R_bound h) (fun k hk1 hlt => hk.2 k hlt (by have := hk1.2.1; omega) (by simp))) (fun _ hk => hk.1)

def rdElems (s : ByteArray) : Nat → Int → List Int → Except Int (List Int × Int)
  | 0, x, acc => .ok (acc, x)
  | n + 1, x, acc => match rdn s 10 0 0 x with
    | .error c => .error c
    | .ok p => rdElems s n p.2 (acc ++ [p.1])
def rdList (s : ByteArray) (x : Int) : Except Int (List Int × Int) :=
  match rdn s 10 0 0 x with
  | .error c => .error c
  | .ok p => if p.1 < 0 ∨ p.1 > s.size - p.2 then .error 1 else rdElems s p.1.toNat p.2 []
def RLPost (g : Nat) (s : ByteArray) (w : World) (r : Except Int (List Int × Int)) (e : Ending) (w' : World) : Prop :=
  match r with
  | .ok p => ∃ v, e = .returned v ∧ Kd.R (Kd.int .i64) 3 w' w.heap.size (fun _ => True) v p.1 ∧ RdAt w' g s p.2 ∧ 0 ≤ p.2 ∧ p.2 ≤ s.size ∧ RdKeep g w w'
  | .error c => e = .panicked [{ v := .iface 30 (.int .i64 c), recovered := false }] ∧ RdKeep g w w'

set_option maxHeartbeats 2000000 in
set_option maxRecDepth 100000 in
theorem list_calls (g : Nat) (s : ByteArray) (i : Int) (w : World) (hs : s.size ≤ 1099511627776) (hb : RdAt w g s i) (hi0 : 0 ≤ i) (hi : i ≤ s.size) :
    Calls Try.prog 92 #[.pointer (some ⟨g, 0, none⟩)] w (RLPost g s w (rdList s i)) := by
  have hg := blk_lt hb
  have HC := number_calls g s i w (by omega) hb hi0 hi
  cases hr : rdn s 10 0 0 i with
  | error c =>
    have HL := Aside0.mk (show rdList s i = .error c by rw [rdList, hr])
    rw [hr] at HC
    have HC' := Aside0.mk HC
    clear HC hr
    go_enter Try.func92, Try.ntmps92
    go_wp2_with (go_at_call 127; refine HC'.out.mono ?_; rintro e w' ⟨rfl, hk⟩)
    refine ⟨rfl, ?_⟩
    rw [HL.out]
    exact ⟨rfl, hk⟩
  | ok q =>
    obtain ⟨n, x⟩ := q
    have HL := Aside0.mk (show rdList s i = if n < 0 ∨ n > s.size - x then .error 1 else rdElems s n.toNat x [] by rw [rdList, hr])
    rw [hr] at HC
    have HC' := Aside0.mk HC
    clear HC hr
    by_cases hbad : n < 0 ∨ n > s.size - x
    · have HL2 : rdList s i = .error 1 := by rw [HL.out]; exact if_pos hbad
      have HL3 := Aside0.mk HL2
      clear HL2 HL
      by_cases hn : n < 0
      · have t1 : decide (n < 0) = true := by simp [hn]
        clear hbad hn
        go_enter Try.func92, Try.ntmps92
        go_wp2_with (go_at_call 127; refine HC'.out.mono ?_; rintro e w' ⟨rfl, hrd, hx0, hx, hk⟩)
        go_quiet (fail)
        go_wp2
        refine ⟨rfl, ?_⟩
        rw [HL3.out]
        exact ⟨rfl, hk.drewN _⟩
      · have t1 : decide (n < 0) = false := by simp; omega
        have hn2 : 0 ≤ n := by omega
        have t2 : ∃ m : Int, m = s.size - x := ⟨_, rfl⟩
        have t3 : decide ((s.size : Int) - x < n) = true := by simp; omega
        clear hbad hn
        go_enter Try.func92, Try.ntmps92
        go_wp2_with (go_at_call 127; refine HC'.out.mono ?_; rintro e w' ⟨rfl, hrd, hx0, hx, hk⟩)
        have c0 : w'.cell? ⟨g, 0, none⟩ = some (.string s) := blk_cell hrd 0
        have c1 : w'.cell? ⟨g, 1, none⟩ = some (.int .i64 x) := blk_cell hrd 1
        go_quiet (fail)
        go_wp2
        refine ⟨rfl, ?_⟩
        rw [HL3.out]
        exact ⟨rfl, hk.drewN _⟩
    · have HL2 : rdList s i = rdElems s n.toNat x [] := by rw [HL.out]; exact if_neg hbad
      have HL3 := Aside0.mk HL2
      clear HL2 HL
      have t1 : decide (n < 0) = false := by simp; omega
      have hn2 : 0 ≤ n := by omega
      have hn3 : n ≤ s.size - x := by omega
      have t3 : decide ((s.size : Int) - x < n) = false := by simp; omega
      clear hbad
      go_enter Try.func92, Try.ntmps92
      go_wp2_with (go_at_call 127; refine HC'.out.mono ?_; rintro e w' ⟨rfl, hrd, hx0, hx, hk⟩)
      have c0 : w'.cell? ⟨g, 0, none⟩ = some (.string s) := blk_cell hrd 0
      have c1 : w'.cell? ⟨g, 1, none⟩ = some (.int .i64 x) := blk_cell hrd 1
      go_quiet (fail)
      go_wp2
      clear c0 c1 t1 t3
      go_loopw [4, 25] (fun v4 v25 wr => ∃ (j x1 : Int) (acc : List Int), 0 ≤ j ∧ j ≤ n ∧ v25 = .int .i64 j ∧ Aside0 ((acc.length : Int) = j) ∧ Aside0 (Kd.R (Kd.int .i64) 3 wr w.heap.size (fun _ => True) v4 acc) ∧ RdAt wr g s x1 ∧ 0 ≤ x1 ∧ x1 ≤ s.size ∧ RdKeep g w wr ∧ Aside0 (rdElems s (n - j).toNat x1 acc = rdElems s n.toNat x [])) (fun _ v25 _ => (n - intOf v25).toNat)
      case atStart => exact ⟨0, x, [], by omega, by omega, rfl, ⟨rfl⟩, ⟨Kd.R_nil _ _ _ _ _⟩, hrd, hx0, hx, hk.drewN _, ⟨by rw [Int.sub_zero]⟩⟩
      case round =>
        have hnS : n ≤ 1099511627776 := by omega
        clear hrd hk hx hx0
        obtain ⟨j, x1, acc, hj0, hjn, rfl, hlen, hrow, hrd, hx0, hx, hk, hE⟩ := hrel
        by_cases hj : j < n
        · have E := hE.out
          obtain ⟨m, hm⟩ : ∃ m, (n - j).toNat = m + 1 := ⟨(n - j).toNat - 1, by omega⟩
          have HM := Aside0.mk (show (n - (j + 1)).toNat = m by omega)
          rw [hm, rdElems] at E
          clear hE hm
          have HC := number_calls g s x1 wr (by omega) hrd hx0 hx
          cases hr1 : rdn s 10 0 0 x1 with
          | error c =>
            rw [hr1] at HC E
            have HC' := Aside0.mk HC
            have E' := Aside0.mk E
            clear HC E hr1
            go_wp2_with (go_at_call 127; refine HC'.out.mono ?_; rintro e w2 ⟨rfl, hk2⟩)
            refine ⟨rfl, ?_⟩
            rw [HL3.out, ← E'.out]
            exact ⟨rfl, hk.trans hk2⟩
          | ok p =>
            obtain ⟨y, x2⟩ := p
            rw [hr1] at HC E
            have HC' := Aside0.mk HC
            have E' := Aside0.mk E
            clear HC E hr1
            have hlen2 := hlen.out
            have hLM := Aside0.mk (show (acc.length + 1) * 8 ≤ 140737488355328 by omega)
            clear hlen2
            go_wp2_with (first | (go_at_call 127; refine HC'.out.mono ?_; rintro e w2 ⟨rfl, hrd2, hx02, hx2, hk2⟩; have HO := Aside0.mk (R_rd hrow.out hk2.keep hg); clear hrow) | ((with_reducible refine gate_builtin (b := .append) (xs := #[.tmp 27, .tmp 30]) rfl ?_); at_builtin; refine Kd.R_append (Kd.int .i64) (w0 := w2) w.heap.size rfl (.tmp 27) (.tmp 30) 26 3 (.int .i64 0) 8 rfl Try.underlying26 info3 rfl (by decide) (by omega) u4 acc y [.int .i64 y] (fun _ => True) (fun _ => False) rfl rfl ?aP (fun _ hk => hk.elim) ?aF ?aO ?aB ?aS ?aL ?_; (case aP => exact rfl); (case aB => exact Below.refl _ _); (case aF => exact (fun _ _ => trivial)); (case aO => exact HO.out); (case aS => exact Nat.le_trans hk.below.size hk2.below.size); (case aL => exact hLM.out); intro v651 w13 ho hb1 hg1 hat1))
            have hk3 := (hk.trans hk2).grow (Nat.le_of_lt hg) hb1
            go_roundw
            case rel => exact ⟨j + 1, x2, acc ++ [y], by omega, by omega, rfl, ⟨by simp [hlen.out]⟩, ⟨ho⟩, hrd2.grow hg hb1, hx02, hx2, hk3, ⟨by rw [HM.out]; exact E'.out⟩⟩
            case measure => simp [intOf]; omega
        · have E := hE.out
          rw [show (n - j).toNat = 0 by omega, rdElems] at E
          have E' := Aside0.mk E
          clear E hE
          go_wp2
          go_ret
          rw [HL3.out, ← E'.out]
          exact ⟨_, rfl, hrow.out, hrd, hx0, hx, hk⟩
end Go.Proofs.Ytdlijioedokgjaa.Q

import Derived.Test.YtdlijioedokgjaaQ0
import Derived.WalkLawsBesides
import Derived.Deep.QuietTactic
import Derived.BigQuiet
namespace Go.Proofs.Ytdlijioedokgjaa.Q
open Go.RowKit Go.Proofs.YtdlijioedokgjaaW.PrintWords Go.Proofs.YtdlijioedokgjaaW.PrintLast Go.Proofs.YtdlijioedokgjaaW.PrintMore
set_option linter.unusedVariables false
set_option linter.unusedSimpArgs false

/-- What a call of the reader's methods leaves: all but block g is as it was. -/
structure RdKeep (g : Nat) (w w' : World) : Prop where
  below : Below g w w'
  keep : KeepBut w w' g none
theorem RdKeep.refl (g : Nat) (w : World) : RdKeep g w w := ⟨Below.refl _ _, KeepBut.refl _ _ _⟩
theorem RdKeep.drewN {g : Nat} {w w' : World} (h : RdKeep g w w') (n : Nat) : RdKeep g w (w'.drewN n) := ⟨pw_below_drewN h.below n, h.keep⟩
theorem RdKeep.set {g : Nat} {w w' : World} (h : RdKeep g w w') (j : Nat) (u : Value) : RdKeep g w (w'.setCell ⟨g, j, none⟩ u) := ⟨h.below.setCell (Nat.le_refl g) u, h.keep.set_ j u⟩
def RdAt (w : World) (g : Nat) (s : ByteArray) (i : Int) : Prop := w.heap[g]? = some (.cells #[.string s, .int .i64 i] 137 (0, 0))
theorem RdAt.set {w : World} {g : Nat} {s : ByteArray} {i : Int} (h : RdAt w g s i) (n : Nat) (x : Int) : RdAt ((w.drewN n).setCell ⟨g, 1, none⟩ (.int .i64 x)) g s x := by
  have := blk_set (w := w.drewN n) (g := g) (t := 137) (cs := #[.string s, .int .i64 i]) h 1 (.int .i64 x)
  simpa [RdAt] using this

/-- The number that the groups' sum folds. -/
def rdFin (u : Int) : Int := bits BinOp.xor IntKind.i64 (wrap64 (u / 2)) (wrap64 (-wrap64 (bits BinOp.and IntKind.u64 u 1)))
def rdOr (u b k : Int) : Int := bits BinOp.or IntKind.u64 u (IntKind.u64.wrap (IntKind.u64.wrap (bits BinOp.and IntKind.u8 b 127) * 2 ^ (7 * k).toNat))
/-- The reader's number: n rounds are left. -/
def rdn (s : ByteArray) : Nat → Int → Int → Int → Except Int (Int × Int)
  | 0, _, u, x => .ok (rdFin u, x)
  | n + 1, k, u, x =>
    if x < s.size then
      if (k = 9 ∧ bt s x ≠ 1) ∨ (0 < k ∧ bt s x = 0) then .error 3
      else if bt s x < 128 then .ok (rdFin (rdOr u (bt s x) k), x + 1) else rdn s n (k + 1) (rdOr u (bt s x) k) (x + 1)
    else .error 2
def RNPost (g : Nat) (s : ByteArray) (w : World) (r : Except Int (Int × Int)) (e : Ending) (w' : World) : Prop :=
  match r with
  | .ok p => e = .returned (.int .i64 p.1) ∧ RdAt w' g s p.2 ∧ 0 ≤ p.2 ∧ p.2 ≤ s.size ∧ RdKeep g w w'
  | .error c => e = .panicked [{ v := .iface 30 (.int .i64 c), recovered := false }] ∧ RdKeep g w w'

set_option maxHeartbeats 2000000 in
set_option maxRecDepth 100000 in
theorem number_calls (g : Nat) (s : ByteArray) (i : Int) (w : World) (hs : s.size ≤ 140737488351232) (hb : RdAt w g s i) (hi0 : 0 ≤ i) (hi : i ≤ s.size) :
    Calls Try.prog 127 #[.pointer (some ⟨g, 0, none⟩)] w (RNPost g s w (rdn s 10 0 0 i)) := by
  go_enter Try.func127, Try.ntmps127
  go_wp2
  go_loopw [3, 6] (fun v3 v6 wr => ∃ (k : Int) (u : Int) (x : Int), 0 ≤ k ∧ k ≤ 10 ∧ v6 = .int .i64 k ∧ v3 = .int .u64 u ∧ RdAt wr g s x ∧ 0 ≤ x ∧ x ≤ s.size ∧ RdKeep g w wr ∧ Aside0 (rdn s (10 - k).toNat k u x = rdn s 10 0 0 i)) (fun _ v6 _ => 10 - (intOf v6).toNat)
  case atStart => exact ⟨0, 0, i, by omega, by omega, rfl, rfl, hb, hi0, hi, RdKeep.refl _ _, Aside0.mk rfl⟩
  case round =>
    obtain ⟨k, u, x, hk0, hk, rfl, rfl, hrd, hx0, hx, hkeep, hR⟩ := hrel
    have c0 : wr.cell? ⟨g, 0, none⟩ = some (.string s) := blk_cell hrd 0
    have c1 : wr.cell? ⟨g, 1, none⟩ = some (.int .i64 x) := blk_cell hrd 1
    have f1 : wr.frozen? ⟨g, 1, none⟩ = false := blk_frozen hrd 1
    by_cases hlt : k < 10
    · obtain ⟨n, hn⟩ : ∃ n, (10 - k).toNat = n + 1 := ⟨(10 - k).toNat - 1, by omega⟩
      have HN : (10 - (k + 1)).toNat = n := by omega
      have R := hR.out
      rw [hn, rdn] at R
      clear hn hR
      have HN' := Aside0.mk HN
      clear HN
      by_cases hend : x = s.size
      · have t1 : (x == (s.size : Int)) = true := by simp; omega
        rw [if_neg (by omega)] at R
        clear hend
        have R' := Aside0.mk R
        clear R
        go_wp2
        go_quiet (fail)
        go_wp2
        refine ⟨rfl, ?_⟩
        rw [← R'.out]
        exact ⟨rfl, hkeep.drewN _⟩
      · have t1 : (x == (s.size : Int)) = false := by simp; omega
        have hlt2 : x < s.size := by omega
        rw [if_pos hlt2] at R
        clear hend
        have hx5 := bt_at s x
        have hbr := bt_range s x
        have hx0' := eq_true hx0
        have hlt2' := eq_true hlt2
        have hx1 : x + 1 ≤ 140737488351232 := by omega
        by_cases hbad : (k = 9 ∧ bt s x ≠ 1) ∨ (0 < k ∧ bt s x = 0)
        · rw [if_pos hbad] at R
          have R' := Aside0.mk R
          clear R
          have fin : ∀ m : Nat, RNPost g s w (rdn s 10 0 0 i) (.panicked [{ v := .iface 30 (.int .i64 3), recovered := false }]) ((wr.drewN m).setCell ⟨g, 1, none⟩ (.int .i64 (x + 1))) := fun m => by
            rw [← R'.out]; exact ⟨rfl, (hkeep.drewN m).set 1 _⟩
          have FIN := Aside0.mk fin
          clear fin
          by_cases h9 : k = 9
          · have t9 : (k == 9) = true := by simp [h9]
            by_cases hb1 : bt s x = 1
            · exfalso; omega
            · have t2 : (bt s x != 1) = true := by simp [hb1]
              clear hbad h9 hb1
              go_wp2
              go_quiet (fail)
              go_wp2
              go_quiet (fail)
              go_wp2
              exact ⟨rfl, FIN.out _⟩
          · have t9 : (k == 9) = false := by simp [h9]
            have t0 : decide (0 < k) = true := by simp; omega
            have t3 : (bt s x == 0) = true := by simp; omega
            clear hbad h9
            go_wp2
            go_quiet (fail)
            go_wp2
            go_quiet (fail)
            go_wp2
            exact ⟨rfl, FIN.out _⟩
        · rw [if_neg hbad] at R
          by_cases h128 : bt s x < 128
          · rw [if_pos h128] at R
            have R' := Aside0.mk R
            clear R
            have t4 : decide (bt s x < 128) = true := by simp; omega
            have fin : ∀ m : Nat, RNPost g s w (rdn s 10 0 0 i) (.returned (.int .i64 (rdFin (rdOr u (bt s x) k)))) ((wr.drewN m).setCell ⟨g, 1, none⟩ (.int .i64 (x + 1))) := fun m => by
              rw [← R'.out]; exact ⟨rfl, hrd.set m _, by omega, by omega, (hkeep.drewN m).set 1 _⟩
            have FIN := Aside0.mk fin
            clear fin
            by_cases h9 : k = 9
            · have t9 : (k == 9) = true := by simp [h9]
              have t0 : decide (0 < k) = true := by simp; omega
              have t2 : (bt s x != 1) = false := by simp; omega
              have t3 : (bt s x == 0) = false := by simp; omega
              clear hbad h9 h128
              go_wp2
              go_quiet (fail)
              go_wp2
              go_quiet (fail)
              go_wp2
              go_ret
              exact FIN.out _
            · have t9 : (k == 9) = false := by simp [h9]
              by_cases h0 : 0 < k
              · have t0 : decide (0 < k) = true := by simp; omega
                have t3 : (bt s x == 0) = false := by simp; omega
                clear hbad h9 h0 h128
                go_wp2
                go_quiet (fail)
                go_wp2
                go_quiet (fail)
                go_wp2
                go_ret
                exact FIN.out _
              · have t0 : decide (0 < k) = false := by simp; omega
                clear hbad h9 h0 h128
                go_wp2
                go_quiet (fail)
                go_wp2
                go_quiet (fail)
                go_wp2
                go_ret
                exact FIN.out _
          · rw [if_neg h128] at R
            have R' := Aside0.mk R
            clear R
            have t4 : decide (bt s x < 128) = false := by simp; omega
            have fin : rdn s (10 - (k + 1)).toNat (k + 1) (rdOr u (bt s x) k) (x + 1) = rdn s 10 0 0 i := by rw [HN'.out]; exact R'.out
            have FIN := Aside0.mk fin
            clear fin
            by_cases h9 : k = 9
            · have t9 : (k == 9) = true := by simp [h9]
              have t0 : decide (0 < k) = true := by simp; omega
              have t2 : (bt s x != 1) = false := by simp; omega
              have t3 : (bt s x == 0) = false := by simp; omega
              clear hbad h9 h128
              go_wp2
              go_quiet (fail)
              go_wp2
              go_quiet (fail)
              go_wp2
              go_roundw
              case rel => exact ⟨k + 1, rdOr u (bt s x) k, x + 1, by omega, by omega, rfl, rfl, hrd.set _ _, by omega, by omega, (hkeep.drewN _).set 1 _, FIN⟩
              case measure => simp [intOf]; omega
            · have t9 : (k == 9) = false := by simp [h9]
              by_cases h0 : 0 < k
              · have t0 : decide (0 < k) = true := by simp; omega
                have t3 : (bt s x == 0) = false := by simp; omega
                clear hbad h9 h0 h128
                go_wp2
                go_quiet (fail)
                go_wp2
                go_quiet (fail)
                go_wp2
                go_roundw
                case rel => exact ⟨k + 1, rdOr u (bt s x) k, x + 1, by omega, by omega, rfl, rfl, hrd.set _ _, by omega, by omega, (hkeep.drewN _).set 1 _, FIN⟩
                case measure => simp [intOf]; omega
              · have t0 : decide (0 < k) = false := by simp; omega
                clear hbad h9 h0 h128
                go_wp2
                go_quiet (fail)
                go_wp2
                go_quiet (fail)
                go_wp2
                go_roundw
                case rel => exact ⟨k + 1, rdOr u (bt s x) k, x + 1, by omega, by omega, rfl, rfl, hrd.set _ _, by omega, by omega, (hkeep.drewN _).set 1 _, FIN⟩
                case measure => simp [intOf]; omega
    · have R := hR.out
      rw [show (10 - k).toNat = 0 by omega, rdn] at R
      have R' := Aside0.mk R
      clear R hR
      go_wp2
      go_ret
      rw [← R'.out]
      exact ⟨rfl, hrd, hx0, hx, hkeep⟩
end Go.Proofs.Ytdlijioedokgjaa.Q

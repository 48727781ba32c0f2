/- slices.Equal's answer; seqpool.occurs and place by hand. -/
import Derived.Test.YtdlijioedokgjaaHPart
import Derived.Test.YtdlijioedokgjaaMEv
import Derived.Test.YtdlijioedokgjaaQF107
namespace Go.Proofs.Ytdlijioedokgjaa.Q
open Go.RowKit Go.Proofs.YtdlijioedokgjaaW.PrintWords Go.Proofs.YtdlijioedokgjaaW.PrintLast Go.Proofs.YtdlijioedokgjaaW.PrintMore
set_option linter.unusedVariables false
set_option linter.unusedSimpArgs false

theorem slices_Equal_l0 (a b : List Int) (hl : a.length = b.length) (hs : a.length ≤ 9223372036854775807) (d : Nat) : ∀ (x : Int), 0 ≤ x → x ≤ a.length → (a.length : Int) - x = d → EvR (fun k => slices_Equal_int_int.l0 k a b (a.length : Int) x) (decide (a.drop x.toNat = b.drop x.toNat)) := by
  induction d with
  | zero =>
    intro x h0 h1 hd
    refine EvR.succ ?_
    simp only [slices_Equal_int_int.l0]
    refine EvR.neg (by omega) ((EvR.const _).cast ?_)
    rw [List.drop_eq_nil_of_le (by omega), List.drop_eq_nil_of_le (by omega)]; simp
  | succ d ih =>
    intro x h0 h1 hd
    refine EvR.succ ?_
    simp only [slices_Equal_int_int.l0]
    refine EvR.pos (by omega) (EvR.pos h0 (EvR.pos (by omega) (EvR.pos (by omega) ?_)))
    rw [drop_rd a x h0 (by omega), drop_rd b x h0 (by omega)]
    by_cases h : rd a x = rd b x
    · refine EvR.pos h ?_
      rw [wrap_succ h0 (n := a.length) (by omega) hs]
      refine (ih (x + 1) (by omega) (by omega) (by omega)).cast ?_
      simp [h]
    · refine EvR.neg h ((EvR.const _).cast ?_)
      simp [h]
theorem slices_Equal_ev (a b : List Int) (hs : a.length ≤ 9223372036854775807) : EvR (fun k => slices_Equal_int_int.f k a b) (decide (a = b)) := by
  unfold slices_Equal_int_int.f
  by_cases h : a.length = b.length
  · refine EvR.pos (by omega) ((slices_Equal_l0 a b h hs a.length 0 (by omega) (by omega) (by omega)).cast ?_)
    simp
  · refine EvR.neg (by omega) ((EvR.const _).cast ?_)
    symm
    rw [decide_eq_false_iff_not]
    rintro rfl; exact h rfl
theorem equal_calls (A0 : Option Addr) (n0 c0 : Nat) (l0 : List Int) (A1 : Option Addr) (n1 c1 : Nat) (l1 : List Int) (b : Bool) (w : World) (hn0 : n0 = l0.length) (hn1 : n1 = l1.length) (hr0 : Kd.C (Kd.int .i64) w A0 l0.length l0) (hc0 : l0.length ≤ c0) (hr1 : Kd.C (Kd.int .i64) w A1 l1.length l1) (hc1 : l1.length ≤ c1) (hb : decide (l0 = l1) = b) :
    Calls Try.prog 107 #[.slice A0 n0 c0, .slice A1 n1 c1] w fun e w' => e = .returned (.bool b) ∧ Drawn0 w w' := by
  subst hn0 hn1 hb
  obtain ⟨k, hk⟩ := (slices_Equal_ev l0 l1 (Kd.C_max hr0)).exists_
  exact slices_Equal_int_int.calls k A0 c0 l0 A1 c1 l1 _ w hr0 hc0 hr1 hc1 hk

theorem ret_int {k : IntKind} {a b : Int} (h : a = b) : Ending.returned (.int k a) = .returned (.int k b) := by rw [h]
/-- Where a sequence first occurs: from i on, d places are left. -/
def occF (l seq : List Int) : Nat → Int → Int
  | 0, _ => -1
  | d + 1, i => if cut l i seq.length = seq then i else occF l seq d (i + 1)
def occI (l seq : List Int) : Int := if seq.length ≤ l.length then occF l seq (l.length - seq.length + 1) 0 else -1

set_option maxHeartbeats 1000000 in
set_option maxRecDepth 100000 in
theorem occurs_calls (A0 : Option Addr) (n0 c0 : Nat) (l : List Int) (A1 : Option Addr) (n1 c1 : Nat) (seq : List Int) (w : World) (hn0 : n0 = l.length) (hn1 : n1 = seq.length) (hr0 : Kd.C (Kd.int .i64) w A0 l.length l) (hc0 : l.length ≤ c0) (hr1 : Kd.C (Kd.int .i64) w A1 seq.length seq) (hc1 : seq.length ≤ c1) (hl : l.length ≤ 1000000000) (hs : seq.length ≤ 1000000000) :
    Calls Try.prog 138 #[.slice A0 n0 c0, .slice A1 n1 c1] w fun e w' => e = .returned (.int .i64 (occI l seq)) ∧ Drawn0 w w' := by
  subst hn0 hn1
  have HR0 := Aside0.mk hr0
  have HR1 := Aside0.mk hr1
  clear hr0 hr1
  go_enter Try.func138, Try.ntmps138
  go_wp2_with fail
  go_loopw [5] (fun v5 wr => ∃ (i : Int), 0 ≤ i ∧ i ≤ l.length + 1 ∧ v5 = .int .i64 i ∧ Drawn0 w wr ∧ Aside0 ((if i + seq.length ≤ l.length then occF l seq (l.length + 1 - seq.length - i).toNat i else -1) = occI l seq)) (fun v5 _ => (l.length + 2 - intOf v5).toNat)
  case atStart =>
    refine ⟨0, by omega, by omega, rfl, Drawn0.refl _, ⟨?_⟩⟩
    unfold occI
    by_cases h : seq.length ≤ l.length
    · rw [if_pos h, if_pos (by omega)]; congr 1; omega
    · rw [if_neg h, if_neg (by omega)]
  case round =>
    obtain ⟨i, hi0, hi1, rfl, ⟨nd, rfl⟩, hO⟩ := hrel
    by_cases h : i + seq.length ≤ l.length
    · have t1 : decide (i + (seq.length : Int) ≤ (l.length : Int)) = true := decide_eq_true h
      have O := hO.out
      rw [if_pos h] at O
      obtain ⟨d, hd⟩ : ∃ d, ((l.length : Int) + 1 - seq.length - i).toNat = d + 1 := ⟨((l.length : Int) + 1 - seq.length - i).toNat - 1, by omega⟩
      rw [hd, occF] at O
      have hcl := cut_length (xs := l) (s := i) (m := (seq.length : Int)) hi0 (by omega) h
      have HP := part_calls A0 l.length c0 l i seq.length (w.drewN nd) rfl (Kd.C_drewN HR0.out nd) hc0 hi0 (by omega) h
      by_cases he : cut l i seq.length = seq
      · rw [if_pos he] at O
        have HE := fun (A' : Option Addr) (hC : Kd.C (Kd.int .i64) (w.drewN nd) A' ((seq.length : Int)).toNat (cut l i seq.length)) => equal_calls A' ((seq.length : Int)).toNat ((seq.length : Int)).toNat (cut l i seq.length) A1 seq.length c1 seq true (w.drewN nd) hcl.symm rfl (by rw [hcl]; exact hC) (by omega) (Kd.C_drewN HR1.out nd) hc1 (by simp [he])
        have HPa := Aside0.mk HP
        have HEa := Aside0.mk HE
        have Oa := Aside0.mk O
        clear HP HE O hO h he hd hcl
        go_wp2_with (first | (go_at_call 108; refine HPa.out.mono ?_; rintro e w2 ⟨A', rfl, hC', rfl⟩; have HC' := Aside0.mk hC'; clear hC') | (go_at_call 107; refine (HEa.out _ HC'.out).mono ?_; rintro e w2 ⟨rfl, ⟨n2, rfl⟩⟩))
        go_ret
        exact ⟨ret_int Oa.out, ⟨⟨_, rfl⟩⟩⟩
      · rw [if_neg he] at O
        have HE := fun (A' : Option Addr) (hC : Kd.C (Kd.int .i64) (w.drewN nd) A' ((seq.length : Int)).toNat (cut l i seq.length)) => equal_calls A' ((seq.length : Int)).toNat ((seq.length : Int)).toNat (cut l i seq.length) A1 seq.length c1 seq false (w.drewN nd) hcl.symm rfl (by rw [hcl]; exact hC) (by omega) (Kd.C_drewN HR1.out nd) hc1 (by simp [he])
        have HPa := Aside0.mk HP
        have HEa := Aside0.mk HE
        have O2 : (if i + 1 + seq.length ≤ l.length then occF l seq ((l.length : Int) + 1 - seq.length - (i + 1)).toNat (i + 1) else -1) = occI l seq := by
          rw [← O]
          by_cases h2 : i + 1 + seq.length ≤ l.length
          · rw [if_pos h2]; congr 1; omega
          · rw [if_neg h2, show d = 0 by omega, occF]
        have Oa := Aside0.mk O2
        clear HP HE O O2 hO he hd hcl
        go_wp2_with (first | (go_at_call 108; refine HPa.out.mono ?_; rintro e w2 ⟨A', rfl, hC', rfl⟩; have HC' := Aside0.mk hC'; clear hC') | (go_at_call 107; refine (HEa.out _ HC'.out).mono ?_; rintro e w2 ⟨rfl, ⟨n2, rfl⟩⟩))
        go_roundw
        case rel => exact ⟨i + 1, by omega, by omega, rfl, ⟨⟨_, rfl⟩⟩, Oa⟩
        case measure => simp [intOf]; omega
    · have t1 : decide (i + (seq.length : Int) ≤ (l.length : Int)) = false := decide_eq_false h
      have O := hO.out
      rw [if_neg h] at O
      have Oa := Aside0.mk O
      clear O hO h
      go_wp2
      go_ret
      exact ⟨ret_int Oa.out, ⟨⟨_, rfl⟩⟩⟩

/-- The longest end of l that is a beginning of seq, from n on downward. -/
def ovF (l seq : List Int) : Nat → Nat
  | 0 => 0
  | n + 1 => if cut l ((l.length : Int) - ((n + 1 : Nat) : Int)) ((n + 1 : Nat) : Int) = cut seq 0 ((n + 1 : Nat) : Int) then n + 1 else ovF l seq n
def ov (l seq : List Int) : Nat := ovF l seq (min l.length seq.length)
theorem ovF_le (l seq : List Int) : ∀ n, ovF l seq n ≤ n := by
  intro n
  induction n with
  | zero => simp [ovF]
  | succ n ih => rw [ovF]; split <;> omega
/-- Codes behind placing, and the start. -/
def placeP (l seq : List Int) : List Int × Int :=
  if 0 ≤ occI l seq then (l, occI l seq) else (l ++ seq.drop (ov l seq), (l.length : Int) - ov l seq)
end Go.Proofs.Ytdlijioedokgjaa.Q

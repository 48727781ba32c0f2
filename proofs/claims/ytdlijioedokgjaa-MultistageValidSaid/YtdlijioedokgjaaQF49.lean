/- Several texts in one file (mergeq.py): QF115, QF80, QF100, QF101, QF49. -/
import Derived.Test.YtdlijioedokgjaaQ0
/- Written by a program of this session (hprint.py), which drives the print over contracts proved by hand. Not trusted: Lean checks it. -/
namespace Go.Proofs.Ytdlijioedokgjaa.Q
open Go.RowKit Go.Proofs.YtdlijioedokgjaaW.PrintWords Go.Proofs.YtdlijioedokgjaaW.PrintLast Go.Proofs.YtdlijioedokgjaaW.PrintMore
attribute [local go_sem] max2_int min2_int max_two min_two max_three min_three max_four min_four   -- for this text's walks alone
set_option linter.unusedVariables false
set_option linter.unusedSimpArgs false

/-! ### unicodetextref13_bits: function 115 -/
mutual
def unicodetextref13_bits.j0 : Nat → List Int → Int → Bool → Option (Int)
  | 0, _, _, _ => none
  | k + 1, x0, x3, x12 => if x12 = true then (some 0) else (unicodetextref13_bits.l0 k x0 x3 0)
def unicodetextref13_bits.l0 : Nat → List Int → Int → Int → Option (Int)
  | 0, _, _, _ => none
  | k + 1, x0, x3, x4 => if x4 < (x0.length : Int) then (if 0 ≤ x4 then (if (rd x0 x4) < 1 then (some 0) else (if (rd x0 x4) > 12 then (some 0) else (unicodetextref13_bits.l0 k x0 (wrap64 (x3 + (rd x0 x4))) (wrap64 (x4 + 1))))) else (none)) else (if x3 < 9 then (some 0) else (if x3 > 16 then (some 0) else (some x3)))
end
def unicodetextref13_bits.f (k : Nat) (l0 : List Int) : Option (Int) := if (l0.length : Int) < 1 then (unicodetextref13_bits.j0 k l0 0 true) else (unicodetextref13_bits.j0 k l0 0 (decide ((l0.length : Int) > 3)))
theorem unicodetextref13_bits.mono_l : ∀ k, (∀ y0 y1 y2, LeO (unicodetextref13_bits.j0 k y0 y1 y2) (unicodetextref13_bits.j0 (k + 1) y0 y1 y2)) ∧ (∀ y0 y1 y2, LeO (unicodetextref13_bits.l0 k y0 y1 y2) (unicodetextref13_bits.l0 (k + 1) y0 y1 y2))
  | 0 => ⟨fun _ _ _ r h => by simp [unicodetextref13_bits.j0] at h, fun _ _ _ r h => by simp [unicodetextref13_bits.l0] at h⟩
  | k + 1 => by
    obtain ⟨ih0, ih1⟩ := unicodetextref13_bits.mono_l k
    refine ⟨?_, ?_⟩
    · intro y0 y1 y2
      unfold unicodetextref13_bits.j0
      repeat' first
      | (with_reducible exact ih0 _ _ _)
      | (with_reducible exact ih1 _ _ _)
      | (with_reducible exact LeO.refl _)
      | (with_reducible exact LeO.none _)
      | (with_reducible refine LeO.ite ?_ ?_)
      | (with_reducible refine LeO.bind ?_ (fun _ => ?_))
      | exact ih0 _ _ _
      | exact ih1 _ _ _
      | exact LeO.none _
      | refine LeO.ite ?_ ?_
      | refine LeO.bind ?_ (fun _ => ?_)
    · intro y0 y1 y2
      unfold unicodetextref13_bits.l0
      repeat' first
      | (with_reducible exact ih0 _ _ _)
      | (with_reducible exact ih1 _ _ _)
      | (with_reducible exact LeO.refl _)
      | (with_reducible exact LeO.none _)
      | (with_reducible refine LeO.ite ?_ ?_)
      | (with_reducible refine LeO.bind ?_ (fun _ => ?_))
      | exact ih0 _ _ _
      | exact ih1 _ _ _
      | exact LeO.none _
      | refine LeO.ite ?_ ?_
      | refine LeO.bind ?_ (fun _ => ?_)
theorem unicodetextref13_bits.mono : ∀ a0 k, LeO (unicodetextref13_bits.f k a0) (unicodetextref13_bits.f (k + 1) a0) := by
  intro a0 k
  obtain ⟨ih0, ih1⟩ := unicodetextref13_bits.mono_l k
  unfold unicodetextref13_bits.f
  repeat' first
      | (with_reducible exact ih0 _ _ _)
      | (with_reducible exact ih1 _ _ _)
      | (with_reducible exact LeO.refl _)
      | (with_reducible exact LeO.none _)
      | (with_reducible refine LeO.ite ?_ ?_)
      | (with_reducible refine LeO.bind ?_ (fun _ => ?_))
      | exact ih0 _ _ _
      | exact ih1 _ _ _
      | exact LeO.none _
      | refine LeO.ite ?_ ?_
      | refine LeO.bind ?_ (fun _ => ?_)
set_option maxHeartbeats 8000000 in
set_option maxRecDepth 100000 in
theorem unicodetextref13_bits.calls (k : Nat) (A0 : Option Addr) (c0 : Nat) (l0 : List Int) (r : Int) (w : World) (hr0 : Kd.C (Kd.int .i64) w A0 l0.length l0) (hc0 : l0.length ≤ c0) (h : unicodetextref13_bits.f k l0 = some r) :
    Calls Try.prog 115 #[.slice A0 l0.length c0] w fun e w' => e = .returned (.int .i64 r) ∧ Drawn0 w w' := by
  have HR0 := Aside0.mk hr0
  have HC0 := Aside0.mk hc0
  clear hr0 hc0
  have H : (if (l0.length : Int) < 1 then (unicodetextref13_bits.j0 k l0 0 true) else (unicodetextref13_bits.j0 k l0 0 (decide ((l0.length : Int) > 3)))) = some r := h
  clear h
  have HC2 := Aside0.mk H
  clear H
  go_enter Try.func115, Try.ntmps115
  go_upto_region 2 with (fail)
  go_cut [12] (fun v12 wc => ∃ (kq : Nat) (x12_1 : Bool), v12 = .bool x12_1 ∧ Aside0 (unicodetextref13_bits.j0 kq l0 0 x12_1 = some r) ∧ Aside0 (kq ≤ k) ∧ Drawn0 w wc)
  case first =>
    have H := HC2.out
    clear HC2
    by_cases c3 : (l0.length : Int) < 1
    · rw [if_pos c3] at H
      have c3b0 : decide ((l0.length : Int) < 1) = true := decide_eq_true c3
      have c3b1 : decide (l0.length < 1) = true := decide_eq_true (by omega)
      clear c3
      (first | rw [c3b0] | (simp only [i64_w, i32_w]; rw [c3b0]) | skip)
      have H' := Aside0.mk H
      clear H
      go_wp2
      go_meet
      case rel => exact ⟨_, (true), (by first | rfl | (simp; done) | (simp [*]; done)), H', ⟨by first | omega | exact Nat.le_refl _⟩, by repeat (first | exact Drawn0.refl _ | apply Drawn0.step)⟩
    · rw [if_neg c3] at H
      have c3b0 : decide ((l0.length : Int) < 1) = false := decide_eq_false c3
      have c3b1 : decide (l0.length < 1) = false := decide_eq_false (by omega)
      clear c3
      (first | rw [c3b0] | (simp only [i64_w, i32_w]; rw [c3b0]) | skip)
      have H' := Aside0.mk H
      clear H
      go_wp2
      go_meet
      case rel => exact ⟨_, (decide ((l0.length : Int) > 3)), (by first | rfl | (simp; done) | (simp [*]; done)), H', ⟨by first | omega | exact Nat.le_refl _⟩, by repeat (first | exact Drawn0.refl _ | apply Drawn0.step)⟩
  case rest =>
    clear HC2
    try clear c1
    try clear p2
    try clear c3
    try clear c3b0
    try clear c3b1
    obtain ⟨kq, x12_1, rfl, HA, HJ1, ⟨mc1, rfl⟩⟩ := hcut
    cases kq with
    | zero => exact absurd HA.out (by simp [unicodetextref13_bits.j0])
    | succ kj1 =>
      have H := HA.out
      clear HA
      simp only [unicodetextref13_bits.j0] at H
      by_cases c4 : x12_1 = true
      · subst c4
        have H1 : (some 0) = some r := by rw [if_pos rfl] at H; exact H
        clear H
        have H := H1
        clear H1
        obtain rfl := Option.some.inj H
        go_wp2
        go_ret
        exact ⟨by first | rfl | (simp; done) | (simp [*]; done), by repeat (first | exact Drawn0.refl _ | apply Drawn0.step)⟩
      · replace c4 := Bool.eq_false_iff.mpr c4
        subst c4
        have H1 : (unicodetextref13_bits.l0 kj1 l0 0 0) = some r := by rw [if_neg (show ¬ (false = true) by decide)] at H; exact H
        clear H
        have H := H1
        clear H1
        have H' := Aside0.mk H
        clear H
        go_wp2
        go_loopg [3, 4] kj1 (fun kq v3 v4 w' => ∃ (x3_2 : Int) (x4_2 : Int), v3 = .int .i64 x3_2 ∧ v4 = .int .i64 x4_2 ∧ Aside0 (unicodetextref13_bits.l0 kq l0 x3_2 x4_2 = some r) ∧ Aside0 (kq ≤ kj1) ∧ Drawn0 w w')
        case atStart => exact ⟨(0), (0), (by first | rfl | (simp; done) | (simp [*]; done)), (by first | rfl | (simp; done) | (simp [*]; done)), H', ⟨Nat.le_refl _⟩, by repeat (first | exact Drawn0.refl _ | apply Drawn0.step)⟩
        case round =>
          clear H'
          try clear c1
          try clear p2
          try clear c3
          try clear c3b0
          try clear c3b1
          try clear c4
          try clear p2
          obtain ⟨x3_2, x4_2, rfl, rfl, HA, HK2, ⟨m2, rfl⟩⟩ := hrel
          cases gk with
          | zero => exact absurd HA.out (by simp [unicodetextref13_bits.l0])
          | succ k2 =>
            have H := HA.out
            clear HA
            simp only [unicodetextref13_bits.l0] at H
            by_cases c5 : x4_2 < (l0.length : Int)
            · rw [if_pos c5] at H
              have c5b0 : decide (x4_2 < (l0.length : Int)) = true := decide_eq_true c5
              clear c5
              by_cases c6 : 0 ≤ x4_2
              · rw [if_pos c6] at H
                have c6b0 : decide (0 ≤ x4_2) = true := decide_eq_true c6
                clear c6
                by_cases c7 : (rd l0 x4_2) < 1
                · rw [if_pos c7] at H
                  have c7b0 : decide ((rd l0 x4_2) < 1) = true := decide_eq_true c7
                  clear c7
                  obtain rfl := Option.some.inj H
                  have p262 : 0 ≤ (x4_2 : Int) := of_decide_eq_true (by first | (with_reducible assumption) | assumption)
                  have q262 : x4_2 < (l0.length : Int) := of_decide_eq_true (by first | (with_reducible assumption) | assumption)
                  obtain ⟨ad262, e262, hx262_0⟩ := Kd.at_int HR0.out x4_2 p262 q262
                  cases e262
                  replace p262 := eq_true p262
                  replace q262 := eq_true q262
                  go_wp2
                  go_ret
                  exact ⟨by first | rfl | (simp; done) | (simp [*]; done), by repeat (first | exact Drawn0.refl _ | apply Drawn0.step)⟩
                · rw [if_neg c7] at H
                  have c7b0 : decide ((rd l0 x4_2) < 1) = false := decide_eq_false c7
                  clear c7
                  by_cases c8 : (rd l0 x4_2) > 12
                  · rw [if_pos c8] at H
                    have c8b0 : decide (12 < (rd l0 x4_2)) = true := decide_eq_true c8
                    clear c8
                    obtain rfl := Option.some.inj H
                    have p262 : 0 ≤ (x4_2 : Int) := of_decide_eq_true (by first | (with_reducible assumption) | assumption)
                    have q262 : x4_2 < (l0.length : Int) := of_decide_eq_true (by first | (with_reducible assumption) | assumption)
                    obtain ⟨ad262, e262, hx262_0⟩ := Kd.at_int HR0.out x4_2 p262 q262
                    cases e262
                    replace p262 := eq_true p262
                    replace q262 := eq_true q262
                    have p263 : 0 ≤ (x4_2 : Int) := of_decide_eq_true (by first | (with_reducible assumption) | assumption)
                    have q263 : x4_2 < (l0.length : Int) := of_decide_eq_true (by first | (with_reducible assumption) | assumption)
                    obtain ⟨ad263, e263, hx263_0⟩ := Kd.at_int HR0.out x4_2 p263 q263
                    obtain rfl : ad262 = ad263 := (by injection e263)
                    replace p263 := eq_true p263
                    replace q263 := eq_true q263
                    go_wp2
                    go_ret
                    exact ⟨by first | rfl | (simp; done) | (simp [*]; done), by repeat (first | exact Drawn0.refl _ | apply Drawn0.step)⟩
                  · rw [if_neg c8] at H
                    have c8b0 : decide (12 < (rd l0 x4_2)) = false := decide_eq_false c8
                    clear c8
                    have H' := Aside0.mk H
                    clear H
                    have p262 : 0 ≤ (x4_2 : Int) := of_decide_eq_true (by first | (with_reducible assumption) | assumption)
                    have q262 : x4_2 < (l0.length : Int) := of_decide_eq_true (by first | (with_reducible assumption) | assumption)
                    obtain ⟨ad262, e262, hx262_0⟩ := Kd.at_int HR0.out x4_2 p262 q262
                    cases e262
                    replace p262 := eq_true p262
                    replace q262 := eq_true q262
                    have p263 : 0 ≤ (x4_2 : Int) := of_decide_eq_true (by first | (with_reducible assumption) | assumption)
                    have q263 : x4_2 < (l0.length : Int) := of_decide_eq_true (by first | (with_reducible assumption) | assumption)
                    obtain ⟨ad263, e263, hx263_0⟩ := Kd.at_int HR0.out x4_2 p263 q263
                    obtain rfl : ad262 = ad263 := (by injection e263)
                    replace p263 := eq_true p263
                    replace q263 := eq_true q263
                    have p264 : 0 ≤ (x4_2 : Int) := of_decide_eq_true (by first | (with_reducible assumption) | assumption)
                    have q264 : x4_2 < (l0.length : Int) := of_decide_eq_true (by first | (with_reducible assumption) | assumption)
                    obtain ⟨ad264, e264, hx264_0⟩ := Kd.at_int HR0.out x4_2 p264 q264
                    obtain rfl : ad262 = ad264 := (by injection e264)
                    replace p264 := eq_true p264
                    replace q264 := eq_true q264
                    go_wp2
                    go_roundg k2
                    case measure => have := HJ1.out; have := HK2.out; omega
                    case rel => exact ⟨(wrap64 (x3_2 + (rd l0 x4_2))), (wrap64 (x4_2 + 1)), (by first | rfl | (simp; done) | (simp [*]; done)), (by first | rfl | (simp; done) | (simp [*]; done)), H', ⟨by have := HJ1.out; have := HK2.out; omega⟩, by repeat (first | exact Drawn0.refl _ | apply Drawn0.step)⟩
              · rw [if_neg c6] at H
                exact absurd H (by simp)
            · rw [if_neg c5] at H
              have c5b0 : decide (x4_2 < (l0.length : Int)) = false := decide_eq_false c5
              clear c5
              by_cases c9 : x3_2 < 9
              · rw [if_pos c9] at H
                have c9b0 : decide (x3_2 < 9) = true := decide_eq_true c9
                clear c9
                obtain rfl := Option.some.inj H
                go_wp2
                go_ret
                exact ⟨by first | rfl | (simp; done) | (simp [*]; done), by repeat (first | exact Drawn0.refl _ | apply Drawn0.step)⟩
              · rw [if_neg c9] at H
                have c9b0 : decide (x3_2 < 9) = false := decide_eq_false c9
                clear c9
                by_cases c10 : x3_2 > 16
                · rw [if_pos c10] at H
                  have c10b0 : decide (16 < x3_2) = true := decide_eq_true c10
                  clear c10
                  obtain rfl := Option.some.inj H
                  go_wp2
                  go_ret
                  exact ⟨by first | rfl | (simp; done) | (simp [*]; done), by repeat (first | exact Drawn0.refl _ | apply Drawn0.step)⟩
                · rw [if_neg c10] at H
                  have c10b0 : decide (16 < x3_2) = false := decide_eq_false c10
                  clear c10
                  obtain rfl := Option.some.inj H
                  go_wp2
                  go_ret
                  exact ⟨by first | rfl | (simp; done) | (simp [*]; done), by repeat (first | exact Drawn0.refl _ | apply Drawn0.step)⟩

end Go.Proofs.Ytdlijioedokgjaa.Q
/- Written by a program of this session (hprint.py), which drives the print over contracts proved by hand. Not trusted: Lean checks it. -/
namespace Go.Proofs.Ytdlijioedokgjaa.Q
open Go.RowKit Go.Proofs.YtdlijioedokgjaaW.PrintWords Go.Proofs.YtdlijioedokgjaaW.PrintLast Go.Proofs.YtdlijioedokgjaaW.PrintMore
attribute [local go_sem] max2_int min2_int max_two min_two max_three min_three max_four min_four   -- for this text's walks alone
set_option linter.unusedVariables false
set_option linter.unusedSimpArgs false

/-! ### unicodetextref13_Formed: function 80 -/
mutual
def unicodetextref13_Formed.j0 : Nat → Bool → List Int → List (List Int) → Option (Bool)
  | 0, _, _, _ => none
  | k + 1, x31, x266000, x266001 => if x31 = true then (some false) else (unicodetextref13_Formed.l0 k 1 x266000 x266001)
def unicodetextref13_Formed.l0 : Nat → Int → List Int → List (List Int) → Option (Bool)
  | 0, _, _, _ => none
  | k + 1, x4, x266000, x266001 => if x4 < (x266001.length : Int) then (if 0 ≤ (wrap64 (x4 - 1)) then (if (wrap64 (x4 - 1)) < (x266000.length : Int) then (if 0 ≤ (rd x266000 (wrap64 (x4 - 1))) then (if 0 ≤ x4 then (if (shl .i64 1 (rd x266000 (wrap64 (x4 - 1)))) = 0 then (none) else (if (((rd_L2 x266001 x4).length : Int) % (shl .i64 1 (rd x266000 (wrap64 (x4 - 1))))) = 0 then (unicodetextref13_Formed.l1 k x4 (shl .i64 1 (rd x266000 (wrap64 (x4 - 1)))) 0 x266000 x266001) else (some false))) else (none)) else (none)) else (none)) else (none)) else (some true)
def unicodetextref13_Formed.l1 : Nat → Int → Int → Int → List Int → List (List Int) → Option (Bool)
  | 0, _, _, _, _, _ => none
  | k + 1, x4, x5, x6, x266000, x266001 => if 0 ≤ (wrap64 (x4 - 1)) then (if (wrap64 (x4 - 1)) < (x266001.length : Int) then (if x6 < ((rd_L2 x266001 (wrap64 (x4 - 1))).length : Int) then (if 0 ≤ x6 then (if (rd (rd_L2 x266001 (wrap64 (x4 - 1))) x6) < 0 then (some false) else (if 0 ≤ x4 then (if x4 < (x266001.length : Int) then (if x5 = 0 then (none) else (if (rd (rd_L2 x266001 (wrap64 (x4 - 1))) x6) ≥ (wrap64 (((rd_L2 x266001 x4).length : Int) / x5)) then (some false) else (unicodetextref13_Formed.l1 k x4 x5 (wrap64 (x6 + 1)) x266000 x266001))) else (none)) else (none))) else (none)) else (unicodetextref13_Formed.l0 k (wrap64 (x4 + 1)) x266000 x266001)) else (none)) else (none)
end
def unicodetextref13_Formed.f (k : Nat) (l0_0 : List Int) (l0_1 : List (List Int)) : Option (Bool) := (unicodetextref13_bits.f k l0_0).bind fun t266 => (if t266 = 0 then (unicodetextref13_Formed.j0 k true l0_0 l0_1) else (if (l0_1.length : Int) = (wrap64 ((l0_0.length : Int) + 1)) then (if 0 < (l0_1.length : Int) then (if 0 ≤ t266 then (unicodetextref13_Formed.j0 k (((rd_L2 l0_1 0).length : Int) != (shr .i64 1114112 t266)) l0_0 l0_1) else (none)) else (none)) else (unicodetextref13_Formed.j0 k true l0_0 l0_1)))
theorem unicodetextref13_Formed.mono_l : ∀ k, (∀ y0 y1 y2, LeO (unicodetextref13_Formed.j0 k y0 y1 y2) (unicodetextref13_Formed.j0 (k + 1) y0 y1 y2)) ∧ (∀ y0 y1 y2, LeO (unicodetextref13_Formed.l0 k y0 y1 y2) (unicodetextref13_Formed.l0 (k + 1) y0 y1 y2)) ∧ (∀ y0 y1 y2 y3 y4, LeO (unicodetextref13_Formed.l1 k y0 y1 y2 y3 y4) (unicodetextref13_Formed.l1 (k + 1) y0 y1 y2 y3 y4))
  | 0 => ⟨fun _ _ _ r h => by simp [unicodetextref13_Formed.j0] at h, fun _ _ _ r h => by simp [unicodetextref13_Formed.l0] at h, fun _ _ _ _ _ r h => by simp [unicodetextref13_Formed.l1] at h⟩
  | k + 1 => by
    obtain ⟨ih0, ih1, ih2⟩ := unicodetextref13_Formed.mono_l k
    refine ⟨?_, ?_, ?_⟩
    · intro y0 y1 y2
      unfold unicodetextref13_Formed.j0
      repeat' first
      | (with_reducible exact ih0 _ _ _)
      | (with_reducible exact ih1 _ _ _)
      | (with_reducible exact ih2 _ _ _ _ _)
      | (with_reducible exact unicodetextref13_bits.mono _ _)
      | (with_reducible exact LeO.refl _)
      | (with_reducible exact LeO.none _)
      | (with_reducible refine LeO.ite ?_ ?_)
      | (with_reducible refine LeO.bind ?_ (fun _ => ?_))
      | exact ih0 _ _ _
      | exact ih1 _ _ _
      | exact ih2 _ _ _ _ _
      | exact unicodetextref13_bits.mono _ _
      | exact LeO.none _
      | refine LeO.ite ?_ ?_
      | refine LeO.bind ?_ (fun _ => ?_)
    · intro y0 y1 y2
      unfold unicodetextref13_Formed.l0
      repeat' first
      | (with_reducible exact ih0 _ _ _)
      | (with_reducible exact ih1 _ _ _)
      | (with_reducible exact ih2 _ _ _ _ _)
      | (with_reducible exact unicodetextref13_bits.mono _ _)
      | (with_reducible exact LeO.refl _)
      | (with_reducible exact LeO.none _)
      | (with_reducible refine LeO.ite ?_ ?_)
      | (with_reducible refine LeO.bind ?_ (fun _ => ?_))
      | exact ih0 _ _ _
      | exact ih1 _ _ _
      | exact ih2 _ _ _ _ _
      | exact unicodetextref13_bits.mono _ _
      | exact LeO.none _
      | refine LeO.ite ?_ ?_
      | refine LeO.bind ?_ (fun _ => ?_)
    · intro y0 y1 y2 y3 y4
      unfold unicodetextref13_Formed.l1
      repeat' first
      | (with_reducible exact ih0 _ _ _)
      | (with_reducible exact ih1 _ _ _)
      | (with_reducible exact ih2 _ _ _ _ _)
      | (with_reducible exact unicodetextref13_bits.mono _ _)
      | (with_reducible exact LeO.refl _)
      | (with_reducible exact LeO.none _)
      | (with_reducible refine LeO.ite ?_ ?_)
      | (with_reducible refine LeO.bind ?_ (fun _ => ?_))
      | exact ih0 _ _ _
      | exact ih1 _ _ _
      | exact ih2 _ _ _ _ _
      | exact unicodetextref13_bits.mono _ _
      | exact LeO.none _
      | refine LeO.ite ?_ ?_
      | refine LeO.bind ?_ (fun _ => ?_)
theorem unicodetextref13_Formed.mono : ∀ a0 a1 k, LeO (unicodetextref13_Formed.f k a0 a1) (unicodetextref13_Formed.f (k + 1) a0 a1) := by
  intro a0 a1 k
  obtain ⟨ih0, ih1, ih2⟩ := unicodetextref13_Formed.mono_l k
  unfold unicodetextref13_Formed.f
  repeat' first
      | (with_reducible exact ih0 _ _ _)
      | (with_reducible exact ih1 _ _ _)
      | (with_reducible exact ih2 _ _ _ _ _)
      | (with_reducible exact unicodetextref13_bits.mono _ _)
      | (with_reducible exact LeO.refl _)
      | (with_reducible exact LeO.none _)
      | (with_reducible refine LeO.ite ?_ ?_)
      | (with_reducible refine LeO.bind ?_ (fun _ => ?_))
      | exact ih0 _ _ _
      | exact ih1 _ _ _
      | exact ih2 _ _ _ _ _
      | exact unicodetextref13_bits.mono _ _
      | exact LeO.none _
      | refine LeO.ite ?_ ?_
      | refine LeO.bind ?_ (fun _ => ?_)
set_option maxHeartbeats 8000000 in
set_option maxRecDepth 100000 in
theorem unicodetextref13_Formed.calls (k : Nat) (A0_0 : Option Addr) (c0_0 : Nat) (l0_0 : List Int) (A0_1 : Option Addr) (c0_1 : Nat) (l0_1 : List (List Int)) (r : Bool) (w : World) (hr0_0 : Kd.C (Kd.int .i64) w A0_0 l0_0.length l0_0) (hc0_0 : l0_0.length ≤ c0_0) (hr0_1 : Kd.C (Kd.slice 3 (Kd.int .i64)) w A0_1 l0_1.length l0_1) (hc0_1 : l0_1.length ≤ c0_1) (h : unicodetextref13_Formed.f k l0_0 l0_1 = some r) :
    Calls Try.prog 80 #[.agg #[.slice A0_0 l0_0.length c0_0, .slice A0_1 l0_1.length c0_1]] w fun e w' => e = .returned (.bool r) ∧ Below w.heap.size w w' := by
  have hu46 := Try.underlying46
  have HR0_0 := Aside0.mk hr0_0
  have HC0_0 := Aside0.mk hc0_0
  clear hr0_0 hc0_0
  have HR0_1 := Aside0.mk hr0_1
  have HC0_1 := Aside0.mk hc0_1
  clear hr0_1 hc0_1
  have HB := Aside0.mk (Below.refl w.heap.size w)
  have H : ((unicodetextref13_bits.f k l0_0).bind fun t266 => (if t266 = 0 then (unicodetextref13_Formed.j0 k true l0_0 l0_1) else (if (l0_1.length : Int) = (wrap64 ((l0_0.length : Int) + 1)) then (if 0 < (l0_1.length : Int) then (if 0 ≤ t266 then (unicodetextref13_Formed.j0 k (((rd_L2 l0_1 0).length : Int) != (shr .i64 1114112 t266)) l0_0 l0_1) else (none)) else (none)) else (unicodetextref13_Formed.j0 k true l0_0 l0_1)))) = some r := h
  clear h
  replace H := Option.bind_eq_some_iff.mp H
  obtain ⟨t266, A20, H⟩ := H
  replace H : (if t266 = 0 then (unicodetextref13_Formed.j0 k true l0_0 l0_1) else (if (l0_1.length : Int) = (wrap64 ((l0_0.length : Int) + 1)) then (if 0 < (l0_1.length : Int) then (if 0 ≤ t266 then (unicodetextref13_Formed.j0 k (((rd_L2 l0_1 0).length : Int) != (shr .i64 1114112 t266)) l0_0 l0_1) else (none)) else (none)) else (unicodetextref13_Formed.j0 k true l0_0 l0_1))) = some r := H
  have A2 := Aside0.mk A20
  clear A20
  have HC3 := Aside0.mk H
  clear H
  go_enter Try.func80, Try.ntmps80
  go_upto_region 2 with (first | ((with_reducible refine gate_dst (N := 1) rfl ?_); (try (refine gate_guard (by rfl) ?_; dsimp only)); refine box_event ?hg (N := 1) ?hd (cs := #[.slice A0_0 l0_0.length c0_0, .slice A0_1 l0_1.length c0_1]) (t := 46) ?hr ?_; (case hd => rfl); (case hg => rfl); (case hr => first | (go_simp; done) | (go_simp; rfl)); intro gb265 hg w4 hbox hb; have n0_ := Aside0.mk (below_step (by repeat (first | (with_reducible first | exact HB.out | apply below_alloc | apply pw_below_drewN | apply below_drew1) | exact HB.out)) hb); have n1_ := Aside0.mk (hbox); have n2_ := Aside0.mk ((by rw [hg]; exact (below_size (by repeat (first | (with_reducible first | exact HB.out | apply below_alloc | apply pw_below_drewN | apply below_drew1) | exact HB.out))) : w.heap.size ≤ gb265)); have n3_ := Aside0.mk ((by rw [hg]; exact (below_size (by repeat (first | (with_reducible first | exact HB.out | apply below_alloc | apply pw_below_drewN | apply below_drew1) | exact HB.out))) : w.heap.size ≤ gb265)); clear HB; have HB := n0_; have BK265 := n1_; have GW265 := n2_; have GE265 := n3_; clear n0_ n1_ n2_ n3_; clear hb hbox hg; have hcz5_0 : w4.cell? ⟨gb265, 0, none⟩ = some (.slice A0_0 l0_0.length c0_0) := (blk_cell BK265.out 0).trans rfl; have hcz5_1 : w4.cell? ⟨gb265, 1, none⟩ = some (.slice A0_1 l0_1.length c0_1) := (blk_cell BK265.out 1).trans rfl; have hfz5_0 := blk_frozen BK265.out 0; have hfz5_1 := blk_frozen BK265.out 1) | (go_at_call 115; (with_reducible refine (unicodetextref13_bits.calls k _ _ l0_0 t266 _ ?side1 ?side2 A2.out).mono ?_); (case side1 => repeat (first | exact (Kd.C_below HR0_0.out HB.out) | (with_reducible refine Kd.C_alloc ?_ _) | (with_reducible refine Kd.C_drewN ?_ _) | (with_reducible refine Kd.C_drew ?_))); (case side2 => exact HC0_0.out); rintro e w' ⟨rfl, ⟨nd, rfl⟩⟩; (try first | exact ⟨rfl, _, World.drewN_drewN _ _ _⟩ | exact ⟨rfl, _, Eq.trans (World.drewN_drewN _ _ _) (congrArg (World.drewN _) (Nat.add_assoc _ _ _))⟩)))
  repeat (go_quiet (first | ((with_reducible refine gate_dst (N := 1) rfl ?_); (try (refine gate_guard (by rfl) ?_; dsimp only)); refine box_event ?hg (N := 1) ?hd (cs := #[.slice A0_0 l0_0.length c0_0, .slice A0_1 l0_1.length c0_1]) (t := 46) ?hr ?_; (case hd => rfl); (case hg => rfl); (case hr => first | (go_simp; done) | (go_simp; rfl)); intro gb265 hg w4 hbox hb; have n0_ := Aside0.mk (below_step (by repeat (first | (with_reducible first | exact HB.out | apply below_alloc | apply pw_below_drewN | apply below_drew1) | exact HB.out)) hb); have n1_ := Aside0.mk (hbox); have n2_ := Aside0.mk ((by rw [hg]; exact (below_size (by repeat (first | (with_reducible first | exact HB.out | apply below_alloc | apply pw_below_drewN | apply below_drew1) | exact HB.out))) : w.heap.size ≤ gb265)); have n3_ := Aside0.mk ((by rw [hg]; exact (below_size (by repeat (first | (with_reducible first | exact HB.out | apply below_alloc | apply pw_below_drewN | apply below_drew1) | exact HB.out))) : w.heap.size ≤ gb265)); clear HB; have HB := n0_; have BK265 := n1_; have GW265 := n2_; have GE265 := n3_; clear n0_ n1_ n2_ n3_; clear hb hbox hg; have hcz5_0 : w4.cell? ⟨gb265, 0, none⟩ = some (.slice A0_0 l0_0.length c0_0) := (blk_cell BK265.out 0).trans rfl; have hcz5_1 : w4.cell? ⟨gb265, 1, none⟩ = some (.slice A0_1 l0_1.length c0_1) := (blk_cell BK265.out 1).trans rfl; have hfz5_0 := blk_frozen BK265.out 0; have hfz5_1 := blk_frozen BK265.out 1) | (go_at_call 115; (with_reducible refine (unicodetextref13_bits.calls k _ _ l0_0 t266 _ ?side1 ?side2 A2.out).mono ?_); (case side1 => repeat (first | exact (Kd.C_below HR0_0.out HB.out) | (with_reducible refine Kd.C_alloc ?_ _) | (with_reducible refine Kd.C_drewN ?_ _) | (with_reducible refine Kd.C_drew ?_))); (case side2 => exact HC0_0.out); rintro e w' ⟨rfl, ⟨nd, rfl⟩⟩; (try first | exact ⟨rfl, _, World.drewN_drewN _ _ _⟩ | exact ⟨rfl, _, Eq.trans (World.drewN_drewN _ _ _) (congrArg (World.drewN _) (Nat.add_assoc _ _ _))⟩))); go_upto_region 2 with (first | ((with_reducible refine gate_dst (N := 1) rfl ?_); (try (refine gate_guard (by rfl) ?_; dsimp only)); refine box_event ?hg (N := 1) ?hd (cs := #[.slice A0_0 l0_0.length c0_0, .slice A0_1 l0_1.length c0_1]) (t := 46) ?hr ?_; (case hd => rfl); (case hg => rfl); (case hr => first | (go_simp; done) | (go_simp; rfl)); intro gb265 hg w4 hbox hb; have n0_ := Aside0.mk (below_step (by repeat (first | (with_reducible first | exact HB.out | apply below_alloc | apply pw_below_drewN | apply below_drew1) | exact HB.out)) hb); have n1_ := Aside0.mk (hbox); have n2_ := Aside0.mk ((by rw [hg]; exact (below_size (by repeat (first | (with_reducible first | exact HB.out | apply below_alloc | apply pw_below_drewN | apply below_drew1) | exact HB.out))) : w.heap.size ≤ gb265)); have n3_ := Aside0.mk ((by rw [hg]; exact (below_size (by repeat (first | (with_reducible first | exact HB.out | apply below_alloc | apply pw_below_drewN | apply below_drew1) | exact HB.out))) : w.heap.size ≤ gb265)); clear HB; have HB := n0_; have BK265 := n1_; have GW265 := n2_; have GE265 := n3_; clear n0_ n1_ n2_ n3_; clear hb hbox hg; have hcz5_0 : w4.cell? ⟨gb265, 0, none⟩ = some (.slice A0_0 l0_0.length c0_0) := (blk_cell BK265.out 0).trans rfl; have hcz5_1 : w4.cell? ⟨gb265, 1, none⟩ = some (.slice A0_1 l0_1.length c0_1) := (blk_cell BK265.out 1).trans rfl; have hfz5_0 := blk_frozen BK265.out 0; have hfz5_1 := blk_frozen BK265.out 1) | (go_at_call 115; (with_reducible refine (unicodetextref13_bits.calls k _ _ l0_0 t266 _ ?side1 ?side2 A2.out).mono ?_); (case side1 => repeat (first | exact (Kd.C_below HR0_0.out HB.out) | (with_reducible refine Kd.C_alloc ?_ _) | (with_reducible refine Kd.C_drewN ?_ _) | (with_reducible refine Kd.C_drew ?_))); (case side2 => exact HC0_0.out); rintro e w' ⟨rfl, ⟨nd, rfl⟩⟩; (try first | exact ⟨rfl, _, World.drewN_drewN _ _ _⟩ | exact ⟨rfl, _, Eq.trans (World.drewN_drewN _ _ _) (congrArg (World.drewN _) (Nat.add_assoc _ _ _))⟩))))
  (try simp only [Act.put, List.setIfInBounds_toArray, List.set_cons_zero, List.set_cons_succ])
  go_cut [31] (fun v31 wc => ∃ (kq : Nat) (x31_2 : Bool), v31 = .bool x31_2 ∧ Aside0 (unicodetextref13_Formed.j0 kq x31_2 l0_0 l0_1 = some r) ∧ Aside0 (kq ≤ k) ∧ Aside0 (wc.heap[gb265]? = some (.cells #[(.slice A0_0 l0_0.length c0_0), (.slice A0_1 l0_1.length c0_1)] 46 (0, 0))) ∧ Aside0 (Below w.heap.size w wc))
  case first =>
    have H := HC3.out
    clear HC3
    by_cases c6 : t266 = 0
    · rw [if_pos c6] at H
      have c6b0 : (t266 == 0) = true := beq_iff_eq.mpr c6
      have c6b1 : (t266 != 0) = false := bne_eq_false_iff_eq.mpr c6
      clear c6
      (first | rw [c6b0] | (simp only [i64_w, i32_w]; rw [c6b0]) | skip)
      have H' := Aside0.mk H
      clear H
      go_wp2
      repeat (go_quiet (fail); try go_wp2)
      go_meet
      case rel => exact ⟨_, (true), (by first | rfl | (simp; done) | (simp [*]; done)), H', ⟨by first | omega | exact Nat.le_refl _⟩, ⟨by (with_reducible repeat (first | refine blk_drewN ?_ _ | refine blk_drew ?_ | refine blk_alloc ?_ _)); exact BK265.out⟩, ⟨by repeat (first | (with_reducible first | exact HB.out | apply below_alloc | apply pw_below_drewN | apply below_drew1 | refine below_set ?_ GE265.out) | exact HB.out)⟩⟩
    · rw [if_neg c6] at H
      have c6b0 : (t266 == 0) = false := beq_eq_false_iff_ne.mpr c6
      have c6b1 : (t266 != 0) = true := bne_iff_ne.mpr c6
      (first | rw [c6b0] | (simp only [i64_w, i32_w]; rw [c6b0]) | skip)
      by_cases c7 : (l0_1.length : Int) = (wrap64 ((l0_0.length : Int) + 1))
      · rw [if_pos c7] at H
        have c7b0 : ((l0_1.length : Int) == (wrap64 ((l0_0.length : Int) + 1))) = true := beq_iff_eq.mpr c7
        have c7b1 : ((l0_1.length : Int) != (wrap64 ((l0_0.length : Int) + 1))) = false := bne_eq_false_iff_eq.mpr c7
        clear c7
        by_cases c8 : 0 < (l0_1.length : Int)
        · rw [if_pos c8] at H
          have c8b0 : decide (0 < (l0_1.length : Int)) = true := decide_eq_true c8
          have c8b1 : decide (0 < l0_1.length) = true := decide_eq_true (by omega)
          clear c8
          by_cases c9 : 0 ≤ t266
          · rw [if_pos c9] at H
            have c9b0 := eq_true c9
            have c9b1 : decide (0 ≤ t266) = true := decide_eq_true c9
            clear c9
            obtain ⟨ji10, hji10⟩ : ∃ j_ : Int, (shr .i64 1114112 t266) = j_ := ⟨_, rfl⟩
            replace H : (unicodetextref13_Formed.j0 k (((rd_L2 l0_1 0).length : Int) != (ji10)) l0_0 l0_1) = some r := by first | (rw [hji10] at H; exact H) | (simp only [hji10] at H ⊢; exact H)
            have hji10_ : (1114112 / 2 ^ min t266.toNat 64) = ji10 := hji10
            have hji10z : t266 ≤ 64 → (1114112 / 2 ^ t266.toNat) = ji10 := shr_small hji10
            have H' := Aside0.mk H
            clear H
            have hcz11_0 : w4.cell? ⟨gb265, 0, none⟩ = some (.slice A0_0 l0_0.length c0_0) := (blk_cell BK265.out 0).trans rfl
            have hcz11_1 : w4.cell? ⟨gb265, 1, none⟩ = some (.slice A0_1 l0_1.length c0_1) := (blk_cell BK265.out 1).trans rfl
            have hfz11_0 := blk_frozen BK265.out 0
            have hfz11_1 := blk_frozen BK265.out 1
            have p267 : 0 ≤ (0 : Int) := (by omega)
            have q267 : 0 < (l0_1.length : Int) := of_decide_eq_true (by first | (with_reducible assumption) | assumption)
            obtain ⟨ad267, A267_0, c267_0, e267, hx267_0, hl267_0, hi267_0⟩ := at_L2 HR0_1.out 0 p267 q267
            cases e267
            have qi267 : (0 < l0_1.length) = True := eq_true (by omega)
            (try rw [show ((0 : Int)).toNat = 0 from rfl] at hx267_0)
            (try rw [Addr.add_zero'] at hx267_0)
            replace hx267_0 := (HB.out.cell (World.block_lt_of_cell? w _ hx267_0)).trans hx267_0
            have HR267_0 := Aside0.mk hi267_0
            have HC267_0 := Aside0.mk hl267_0
            clear hi267_0 hl267_0
            replace p267 := eq_true p267
            replace q267 := eq_true q267
            go_wp2
            repeat (go_quiet (fail); try go_wp2)
            go_meet
            case rel => exact ⟨_, ((((rd_L2 l0_1 0).length : Int) != (ji10))), (by first | rfl | (simp; done) | (simp only [← hji10] <;> (first | rfl | simp)) | (simp [*]; done)), H', ⟨by first | omega | exact Nat.le_refl _⟩, ⟨by (with_reducible repeat (first | refine blk_drewN ?_ _ | refine blk_drew ?_ | refine blk_alloc ?_ _)); exact BK265.out⟩, ⟨by repeat (first | (with_reducible first | exact HB.out | apply below_alloc | apply pw_below_drewN | apply below_drew1 | refine below_set ?_ GE265.out) | exact HB.out)⟩⟩
          · rw [if_neg c9] at H
            exact absurd H (by simp)
        · rw [if_neg c8] at H
          exact absurd H (by simp)
      · rw [if_neg c7] at H
        have c7b0 : ((l0_1.length : Int) == (wrap64 ((l0_0.length : Int) + 1))) = false := beq_eq_false_iff_ne.mpr c7
        have c7b1 : ((l0_1.length : Int) != (wrap64 ((l0_0.length : Int) + 1))) = true := bne_iff_ne.mpr c7
        have H' := Aside0.mk H
        clear H
        have hcz12_0 : w4.cell? ⟨gb265, 0, none⟩ = some (.slice A0_0 l0_0.length c0_0) := (blk_cell BK265.out 0).trans rfl
        have hcz12_1 : w4.cell? ⟨gb265, 1, none⟩ = some (.slice A0_1 l0_1.length c0_1) := (blk_cell BK265.out 1).trans rfl
        have hfz12_0 := blk_frozen BK265.out 0
        have hfz12_1 := blk_frozen BK265.out 1
        go_wp2
        repeat (go_quiet (fail); try go_wp2)
        go_meet
        case rel => exact ⟨_, (true), (by first | rfl | (simp; done) | (simp [*]; done)), H', ⟨by first | omega | exact Nat.le_refl _⟩, ⟨by (with_reducible repeat (first | refine blk_drewN ?_ _ | refine blk_drew ?_ | refine blk_alloc ?_ _)); exact BK265.out⟩, ⟨by repeat (first | (with_reducible first | exact HB.out | apply below_alloc | apply pw_below_drewN | apply below_drew1 | refine below_set ?_ GE265.out) | exact HB.out)⟩⟩
  case rest =>
    clear HC3
    try clear c2
    try clear p2
    try clear q2
    try clear hx2
    try clear qi2
    try clear c6
    try clear c6b0
    try clear c6b1
    try clear p6
    try clear c7
    try clear c7b0
    try clear c7b1
    try clear c8
    try clear c8b0
    try clear c8b1
    try clear c9
    try clear c9b0
    try clear c9b1
    try clear hcz11_0
    try clear hcz11_1
    try clear hcz12_0
    try clear hcz12_1
    try clear hcz5_0
    try clear hcz5_1
    try clear hfz11_0
    try clear hfz11_1
    try clear hfz12_0
    try clear hfz12_1
    try clear hfz5_0
    try clear hfz5_1
    try clear hx267_0
    try clear p267
    try clear q267
    obtain ⟨kq, x31_2, rfl, HA, HJ2, BK265, HB⟩ := hcut
    cases kq with
    | zero => exact absurd HA.out (by simp [unicodetextref13_Formed.j0])
    | succ kj2 =>
      have H := HA.out
      clear HA
      simp only [unicodetextref13_Formed.j0] at H
      by_cases c13 : x31_2 = true
      · subst c13
        have H1 : (some false) = some r := by rw [if_pos rfl] at H; exact H
        clear H
        have H := H1
        clear H1
        obtain rfl := Option.some.inj H
        go_wp2
        repeat (go_quiet (fail); try go_wp2)
        go_ret
        exact ⟨by first | rfl | (simp [errW_none, errW_some] <;> rfl) | (simp [*, errW_none, errW_some] <;> rfl), by repeat (first | (with_reducible first | exact HB.out | apply below_alloc | apply pw_below_drewN | apply below_drew1 | refine below_set ?_ GE265.out) | exact HB.out)⟩
      · replace c13 := Bool.eq_false_iff.mpr c13
        subst c13
        have H1 : (unicodetextref13_Formed.l0 kj2 1 l0_0 l0_1) = some r := by rw [if_neg (show ¬ (false = true) by decide)] at H; exact H
        clear H
        have H := H1
        clear H1
        have H' := Aside0.mk H
        clear H
        go_wp2
        repeat (go_quiet (fail); try go_wp2)
        go_loopg [4] kj2 (fun kq v4 w' => ∃ (x4_2 : Int), v4 = .int .i64 x4_2 ∧ Aside0 (unicodetextref13_Formed.l0 kq x4_2 l0_0 l0_1 = some r) ∧ Aside0 (kq ≤ kj2) ∧ Aside0 (w'.heap[gb265]? = some (.cells #[(.slice A0_0 l0_0.length c0_0), (.slice A0_1 l0_1.length c0_1)] 46 (0, 0))) ∧ Aside0 (Below w.heap.size w w'))
        case atStart => exact ⟨(1), (by first | rfl | (simp; done) | (simp [*]; done)), H', ⟨Nat.le_refl _⟩, ⟨by (with_reducible repeat (first | refine blk_drewN ?_ _ | refine blk_drew ?_ | refine blk_alloc ?_ _)); exact BK265.out⟩, ⟨by repeat (first | (with_reducible first | exact HB.out | apply below_alloc | apply pw_below_drewN | apply below_drew1 | refine below_set ?_ GE265.out) | exact HB.out)⟩⟩
        case round =>
          clear H'
          try clear c1
          try clear c2
          try clear p2
          try clear q2
          try clear hx2
          try clear qi2
          try clear c6
          try clear c6b0
          try clear c6b1
          try clear p6
          try clear c7
          try clear c7b0
          try clear c7b1
          try clear c8
          try clear c8b0
          try clear c8b1
          try clear c9
          try clear c9b0
          try clear c9b1
          try clear c13
          try clear hcz11_0
          try clear hcz11_1
          try clear hcz12_0
          try clear hcz12_1
          try clear hcz5_0
          try clear hcz5_1
          try clear hfz11_0
          try clear hfz11_1
          try clear hfz12_0
          try clear hfz12_1
          try clear hfz5_0
          try clear hfz5_1
          try clear hx267_0
          try clear p2
          try clear p267
          try clear p6
          try clear q2
          try clear q267
          obtain ⟨x4_2, rfl, HA, HK2, BK265, HB⟩ := hrel
          cases gk with
          | zero => exact absurd HA.out (by simp [unicodetextref13_Formed.l0])
          | succ k2 =>
            have H := HA.out
            clear HA
            simp only [unicodetextref13_Formed.l0] at H
            by_cases c14 : x4_2 < (l0_1.length : Int)
            · rw [if_pos c14] at H
              have c14b0 : decide (x4_2 < (l0_1.length : Int)) = true := decide_eq_true c14
              clear c14
              obtain ⟨ji15, hji15⟩ : ∃ j_ : Int, (wrap64 (x4_2 - 1)) = j_ := ⟨_, rfl⟩
              replace H : (if 0 ≤ (ji15) then (if (ji15) < (l0_0.length : Int) then (if 0 ≤ (rd l0_0 (ji15)) then (if 0 ≤ x4_2 then (if (shl .i64 1 (rd l0_0 (ji15))) = 0 then (none) else (if (((rd_L2 l0_1 x4_2).length : Int) % (shl .i64 1 (rd l0_0 (ji15)))) = 0 then (unicodetextref13_Formed.l1 k2 x4_2 (shl .i64 1 (rd l0_0 (ji15))) 0 l0_0 l0_1) else (some false))) else (none)) else (none)) else (none)) else (none)) = some r := by first | (rw [hji15] at H; exact H) | (simp only [hji15] at H ⊢; exact H)
              have hji15w : (IntKind.i64.wrap (x4_2 - 1)) = ji15 := (i64_w _).trans hji15
              by_cases c16 : 0 ≤ (ji15)
              · rw [if_pos c16] at H
                have c16b0 : decide (0 ≤ (ji15)) = true := decide_eq_true c16
                clear c16
                by_cases c17 : (ji15) < (l0_0.length : Int)
                · rw [if_pos c17] at H
                  have c17b0 : decide ((ji15) < (l0_0.length : Int)) = true := decide_eq_true c17
                  clear c17
                  by_cases c18 : 0 ≤ (rd l0_0 (ji15))
                  · rw [if_pos c18] at H
                    have c18b0 := eq_true c18
                    have c18b1 : decide (0 ≤ (rd l0_0 (ji15))) = true := decide_eq_true c18
                    clear c18
                    obtain ⟨ji19, hji19⟩ : ∃ j_ : Int, (shl .i64 1 (rd l0_0 (ji15))) = j_ := ⟨_, rfl⟩
                    replace H : (if 0 ≤ x4_2 then (if (ji19) = 0 then (none) else (if (((rd_L2 l0_1 x4_2).length : Int) % (ji19)) = 0 then (unicodetextref13_Formed.l1 k2 x4_2 ji19 0 l0_0 l0_1) else (some false))) else (none)) = some r := by first | (rw [hji19] at H; exact H) | (simp only [hji19] at H ⊢; exact H)
                    have hji19_ : (IntKind.i64.wrap (1 * 2 ^ min (rd l0_0 (ji15)).toNat 64)) = ji19 := hji19
                    have hji19z : (rd l0_0 (ji15)) ≤ 64 → (IntKind.i64.wrap (1 * 2 ^ (rd l0_0 (ji15)).toNat)) = ji19 := shl_small hji19
                    have hji19u : (IntKind.i64.wrap (2 ^ min (rd l0_0 (ji15)).toNat 64)) = ji19 := by have h_ := hji19_; rw [Int.one_mul] at h_; exact h_
                    have hji19v : (rd l0_0 (ji15)) ≤ 64 → (IntKind.i64.wrap (2 ^ (rd l0_0 (ji15)).toNat)) = ji19 := fun hle_ => by have h_ := hji19z hle_; rw [Int.one_mul] at h_; exact h_
                    have hji19y : (wrap64 (1 * 2 ^ min (rd l0_0 (ji15)).toNat 64)) = ji19 := (i64_w _).symm.trans hji19_
                    have hji19x : (rd l0_0 (ji15)) ≤ 64 → (wrap64 (1 * 2 ^ (rd l0_0 (ji15)).toNat)) = ji19 := fun h_ => (i64_w _).symm.trans (hji19z h_)
                    by_cases c20 : 0 ≤ x4_2
                    · rw [if_pos c20] at H
                      have c20b0 : decide (0 ≤ x4_2) = true := decide_eq_true c20
                      clear c20
                      by_cases c21 : (ji19) = 0
                      · rw [if_pos c21] at H
                        exact absurd H (by simp)
                      · rw [if_neg c21] at H
                        have c21b0 : ((ji19) == 0) = false := beq_eq_false_iff_ne.mpr c21
                        have c21b1 : ((ji19) != 0) = true := bne_iff_ne.mpr c21
                        by_cases c22 : (((rd_L2 l0_1 x4_2).length : Int) % (ji19)) = 0
                        · rw [if_pos c22] at H
                          have c22b0 : ((((rd_L2 l0_1 x4_2).length : Int) % (ji19)) == 0) = true := beq_iff_eq.mpr c22
                          have c22b0t : (Int.tmod ((rd_L2 l0_1 x4_2).length : Int) (ji19) == 0) = true := by rw [Int.tmod_eq_emod_of_nonneg (Int.natCast_nonneg _)]; exact c22b0
                          have c22b1 : ((((rd_L2 l0_1 x4_2).length : Int) % (ji19)) != 0) = false := bne_eq_false_iff_eq.mpr c22
                          have c22b1t : (Int.tmod ((rd_L2 l0_1 x4_2).length : Int) (ji19) != 0) = false := by rw [Int.tmod_eq_emod_of_nonneg (Int.natCast_nonneg _)]; exact c22b1
                          clear c22
                          have H' := Aside0.mk H
                          clear H
                          have hcz23_0 : wr.cell? ⟨gb265, 0, none⟩ = some (.slice A0_0 l0_0.length c0_0) := (blk_cell BK265.out 0).trans rfl
                          have hcz23_1 : wr.cell? ⟨gb265, 1, none⟩ = some (.slice A0_1 l0_1.length c0_1) := (blk_cell BK265.out 1).trans rfl
                          have hfz23_0 := blk_frozen BK265.out 0
                          have hfz23_1 := blk_frozen BK265.out 1
                          have p268 : 0 ≤ ((ji15) : Int) := of_decide_eq_true (by first | (with_reducible assumption) | assumption)
                          have q268 : (ji15) < (l0_0.length : Int) := of_decide_eq_true (by first | (with_reducible assumption) | assumption)
                          obtain ⟨ad268, e268, hx268_0⟩ := Kd.at_int HR0_0.out (ji15) p268 q268
                          cases e268
                          replace hx268_0 := (HB.out.cell (World.block_lt_of_cell? w _ hx268_0)).trans hx268_0
                          replace p268 := eq_true p268
                          replace q268 := eq_true q268
                          have p269 : 0 ≤ (x4_2 : Int) := of_decide_eq_true (by first | (with_reducible assumption) | assumption)
                          have q269 : x4_2 < (l0_1.length : Int) := of_decide_eq_true (by first | (with_reducible assumption) | assumption)
                          obtain ⟨ad269, A269_0, c269_0, e269, hx269_0, hl269_0, hi269_0⟩ := at_L2 HR0_1.out x4_2 p269 q269
                          cases e269
                          replace hx269_0 := (HB.out.cell (World.block_lt_of_cell? w _ hx269_0)).trans hx269_0
                          have HR269_0 := Aside0.mk hi269_0
                          have HC269_0 := Aside0.mk hl269_0
                          clear hi269_0 hl269_0
                          replace p269 := eq_true p269
                          replace q269 := eq_true q269
                          go_wp2
                          repeat (go_quiet (fail); try go_wp2)
                          go_loopg [6] k2 (fun kq v6 w' => ∃ (x6_3 : Int), v6 = .int .i64 x6_3 ∧ Aside0 (unicodetextref13_Formed.l1 kq x4_2 ji19 x6_3 l0_0 l0_1 = some r) ∧ Aside0 (kq ≤ k2) ∧ Aside0 (w'.heap[gb265]? = some (.cells #[(.slice (some ad268) l0_0.length c0_0), (.slice (some ad269) l0_1.length c0_1)] 46 (0, 0))) ∧ Aside0 (Below w.heap.size w w'))
                          case atStart => exact ⟨(0), (by first | rfl | (simp; done) | (simp [*]; done)), H', ⟨Nat.le_refl _⟩, ⟨by (with_reducible repeat (first | refine blk_drewN ?_ _ | refine blk_drew ?_ | refine blk_alloc ?_ _)); exact BK265.out⟩, ⟨by repeat (first | (with_reducible first | exact HB.out | apply below_alloc | apply pw_below_drewN | apply below_drew1 | refine below_set ?_ GE265.out) | exact HB.out)⟩⟩
                          case round =>
                            clear H'
                            try clear c1
                            try clear c2
                            try clear p2
                            try clear q2
                            try clear hx2
                            try clear qi2
                            try clear c6
                            try clear c6b0
                            try clear c6b1
                            try clear p6
                            try clear c7
                            try clear c7b0
                            try clear c7b1
                            try clear c8
                            try clear c8b0
                            try clear c8b1
                            try clear c9
                            try clear c9b0
                            try clear c9b1
                            try clear c13
                            try clear c14
                            try clear c14b0
                            try clear c16
                            try clear c16b0
                            try clear c17
                            try clear c17b0
                            try clear c18
                            try clear c18b0
                            try clear c18b1
                            try clear c20
                            try clear c20b0
                            try clear c21
                            try clear c21b0
                            try clear c21b1
                            try clear c22
                            try clear c22b0
                            try clear c22b1
                            try clear hcz11_0
                            try clear hcz11_1
                            try clear hcz12_0
                            try clear hcz12_1
                            try clear hcz23_0
                            try clear hcz23_1
                            try clear hcz5_0
                            try clear hcz5_1
                            try clear hfz11_0
                            try clear hfz11_1
                            try clear hfz12_0
                            try clear hfz12_1
                            try clear hfz23_0
                            try clear hfz23_1
                            try clear hfz5_0
                            try clear hfz5_1
                            try clear hx267_0
                            try clear hx268_0
                            try clear hx269_0
                            try clear p2
                            try clear p267
                            try clear p268
                            try clear p269
                            try clear p6
                            try clear q2
                            try clear q267
                            try clear q268
                            try clear q269
                            obtain ⟨x6_3, rfl, HA, HK3, BK265, HB⟩ := hrel
                            cases gk with
                            | zero => exact absurd HA.out (by simp [unicodetextref13_Formed.l1])
                            | succ k3 =>
                              have H := HA.out
                              clear HA
                              simp only [unicodetextref13_Formed.l1] at H
                              replace H : (if 0 ≤ (ji15) then (if (ji15) < (l0_1.length : Int) then (if x6_3 < ((rd_L2 l0_1 (ji15)).length : Int) then (if 0 ≤ x6_3 then (if (rd (rd_L2 l0_1 (ji15)) x6_3) < 0 then (some false) else (if 0 ≤ x4_2 then (if x4_2 < (l0_1.length : Int) then (if ji19 = 0 then (none) else (if (rd (rd_L2 l0_1 (ji15)) x6_3) ≥ (wrap64 (((rd_L2 l0_1 x4_2).length : Int) / ji19)) then (some false) else (unicodetextref13_Formed.l1 k3 x4_2 ji19 (wrap64 (x6_3 + 1)) l0_0 l0_1))) else (none)) else (none))) else (none)) else (unicodetextref13_Formed.l0 k3 (wrap64 (x4_2 + 1)) l0_0 l0_1)) else (none)) else (none)) = some r := by first | (rw [hji15] at H; exact H) | (simp only [hji15] at H ⊢; exact H)
                              by_cases c25 : 0 ≤ (ji15)
                              · rw [if_pos c25] at H
                                have c25b0 : decide (0 ≤ (ji15)) = true := decide_eq_true c25
                                clear c25
                                by_cases c26 : (ji15) < (l0_1.length : Int)
                                · rw [if_pos c26] at H
                                  have c26b0 : decide ((ji15) < (l0_1.length : Int)) = true := decide_eq_true c26
                                  clear c26
                                  by_cases c27 : x6_3 < ((rd_L2 l0_1 (ji15)).length : Int)
                                  · rw [if_pos c27] at H
                                    have c27b0 : decide (x6_3 < ((rd_L2 l0_1 (ji15)).length : Int)) = true := decide_eq_true c27
                                    clear c27
                                    by_cases c28 : 0 ≤ x6_3
                                    · rw [if_pos c28] at H
                                      have c28b0 : decide (0 ≤ x6_3) = true := decide_eq_true c28
                                      clear c28
                                      by_cases c29 : (rd (rd_L2 l0_1 (ji15)) x6_3) < 0
                                      · rw [if_pos c29] at H
                                        have c29b0 : decide ((rd (rd_L2 l0_1 (ji15)) x6_3) < 0) = true := decide_eq_true c29
                                        clear c29
                                        obtain rfl := Option.some.inj H
                                        have hcz30_0 : wr.cell? ⟨gb265, 0, none⟩ = some (.slice (some ad268) l0_0.length c0_0) := (blk_cell BK265.out 0).trans rfl
                                        have hcz30_1 : wr.cell? ⟨gb265, 1, none⟩ = some (.slice (some ad269) l0_1.length c0_1) := (blk_cell BK265.out 1).trans rfl
                                        have hfz30_0 := blk_frozen BK265.out 0
                                        have hfz30_1 := blk_frozen BK265.out 1
                                        have p270 : 0 ≤ ((ji15) : Int) := of_decide_eq_true (by first | (with_reducible assumption) | assumption)
                                        have q270 : (ji15) < (l0_1.length : Int) := of_decide_eq_true (by first | (with_reducible assumption) | assumption)
                                        obtain ⟨ad270, A270_0, c270_0, e270, hx270_0, hl270_0, hi270_0⟩ := at_L2 HR0_1.out (ji15) p270 q270
                                        obtain rfl : ad269 = ad270 := (by injection e270)
                                        replace hx270_0 := (HB.out.cell (World.block_lt_of_cell? w _ hx270_0)).trans hx270_0
                                        have HR270_0 := Aside0.mk hi270_0
                                        have HC270_0 := Aside0.mk hl270_0
                                        clear hi270_0 hl270_0
                                        replace p270 := eq_true p270
                                        replace q270 := eq_true q270
                                        have p271 : 0 ≤ ((ji15) : Int) := of_decide_eq_true (by first | (with_reducible assumption) | assumption)
                                        have q271 : (ji15) < (l0_1.length : Int) := of_decide_eq_true (by first | (with_reducible assumption) | assumption)
                                        obtain ⟨ad271, A271_0, c271_0, e271, hx271_0, hl271_0, hi271_0⟩ := at_L2 HR0_1.out (ji15) p271 q271
                                        obtain rfl : ad269 = ad271 := (by injection e271)
                                        replace hx271_0 := (HB.out.cell (World.block_lt_of_cell? w _ hx271_0)).trans hx271_0
                                        have HR271_0 := Aside0.mk hi271_0
                                        have HC271_0 := Aside0.mk hl271_0
                                        clear hi271_0 hl271_0
                                        replace p271 := eq_true p271
                                        replace q271 := eq_true q271
                                        have ea_ := Option.some.inj (hx270_0.symm.trans hx271_0)
                                        injection ea_ with ea_ en_ ec_
                                        subst ea_
                                        subst ec_
                                        clear en_
                                        have p272 : 0 ≤ (x6_3 : Int) := of_decide_eq_true (by first | (with_reducible assumption) | assumption)
                                        have q272 : x6_3 < ((rd_L2 l0_1 (ji15)).length : Int) := of_decide_eq_true (by first | (with_reducible assumption) | assumption)
                                        obtain ⟨ad272, e272, hx272_0⟩ := Kd.at_int HR271_0.out x6_3 p272 q272
                                        cases e272
                                        replace hx272_0 := (HB.out.cell (World.block_lt_of_cell? w _ hx272_0)).trans hx272_0
                                        replace p272 := eq_true p272
                                        replace q272 := eq_true q272
                                        go_wp2
                                        repeat (go_quiet (fail); try go_wp2)
                                        go_ret
                                        exact ⟨by first | rfl | (simp [errW_none, errW_some] <;> rfl) | (simp only [← hji15, ← hji19, ← hji15]; first | rfl | (simp [errW_none, errW_some] <;> rfl)) | (simp [*, errW_none, errW_some] <;> rfl), by repeat (first | (with_reducible first | exact HB.out | apply below_alloc | apply pw_below_drewN | apply below_drew1 | refine below_set ?_ GE265.out) | exact HB.out)⟩
                                      · rw [if_neg c29] at H
                                        have c29b0 : decide ((rd (rd_L2 l0_1 (ji15)) x6_3) < 0) = false := decide_eq_false c29
                                        clear c29
                                        by_cases c31 : 0 ≤ x4_2
                                        · rw [if_pos c31] at H
                                          have c31b0 : decide (0 ≤ x4_2) = true := decide_eq_true c31
                                          clear c31
                                          by_cases c32 : x4_2 < (l0_1.length : Int)
                                          · rw [if_pos c32] at H
                                            have c32b0 : decide (x4_2 < (l0_1.length : Int)) = true := decide_eq_true c32
                                            clear c32
                                            by_cases c33 : ji19 = 0
                                            · rw [if_pos c33] at H
                                              exact absurd H (by simp)
                                            · rw [if_neg c33] at H
                                              have c33b0 : (ji19 == 0) = false := beq_eq_false_iff_ne.mpr c33
                                              have c33b1 : (ji19 != 0) = true := bne_iff_ne.mpr c33
                                              have hq_ : Int.tdiv ((rd_L2 l0_1 x4_2).length : Int) ji19 = ((rd_L2 l0_1 x4_2).length : Int) / ji19 := Int.tdiv_eq_ediv_of_nonneg (Int.natCast_nonneg _)
                                              by_cases c34 : (rd (rd_L2 l0_1 (ji15)) x6_3) ≥ (wrap64 (((rd_L2 l0_1 x4_2).length : Int) / ji19))
                                              · rw [if_pos c34] at H
                                                have c34b0 : decide ((wrap64 (((rd_L2 l0_1 x4_2).length : Int) / ji19)) ≤ (rd (rd_L2 l0_1 (ji15)) x6_3)) = true := decide_eq_true c34
                                                clear c34
                                                obtain rfl := Option.some.inj H
                                                have hcz35_0 : wr.cell? ⟨gb265, 0, none⟩ = some (.slice (some ad268) l0_0.length c0_0) := (blk_cell BK265.out 0).trans rfl
                                                have hcz35_1 : wr.cell? ⟨gb265, 1, none⟩ = some (.slice (some ad269) l0_1.length c0_1) := (blk_cell BK265.out 1).trans rfl
                                                have hfz35_0 := blk_frozen BK265.out 0
                                                have hfz35_1 := blk_frozen BK265.out 1
                                                have p270 : 0 ≤ ((ji15) : Int) := of_decide_eq_true (by first | (with_reducible assumption) | assumption)
                                                have q270 : (ji15) < (l0_1.length : Int) := of_decide_eq_true (by first | (with_reducible assumption) | assumption)
                                                obtain ⟨ad270, A270_0, c270_0, e270, hx270_0, hl270_0, hi270_0⟩ := at_L2 HR0_1.out (ji15) p270 q270
                                                obtain rfl : ad269 = ad270 := (by injection e270)
                                                replace hx270_0 := (HB.out.cell (World.block_lt_of_cell? w _ hx270_0)).trans hx270_0
                                                have HR270_0 := Aside0.mk hi270_0
                                                have HC270_0 := Aside0.mk hl270_0
                                                clear hi270_0 hl270_0
                                                replace p270 := eq_true p270
                                                replace q270 := eq_true q270
                                                have p271 : 0 ≤ ((ji15) : Int) := of_decide_eq_true (by first | (with_reducible assumption) | assumption)
                                                have q271 : (ji15) < (l0_1.length : Int) := of_decide_eq_true (by first | (with_reducible assumption) | assumption)
                                                obtain ⟨ad271, A271_0, c271_0, e271, hx271_0, hl271_0, hi271_0⟩ := at_L2 HR0_1.out (ji15) p271 q271
                                                obtain rfl : ad269 = ad271 := (by injection e271)
                                                replace hx271_0 := (HB.out.cell (World.block_lt_of_cell? w _ hx271_0)).trans hx271_0
                                                have HR271_0 := Aside0.mk hi271_0
                                                have HC271_0 := Aside0.mk hl271_0
                                                clear hi271_0 hl271_0
                                                replace p271 := eq_true p271
                                                replace q271 := eq_true q271
                                                have ea_ := Option.some.inj (hx270_0.symm.trans hx271_0)
                                                injection ea_ with ea_ en_ ec_
                                                subst ea_
                                                subst ec_
                                                clear en_
                                                have p272 : 0 ≤ (x6_3 : Int) := of_decide_eq_true (by first | (with_reducible assumption) | assumption)
                                                have q272 : x6_3 < ((rd_L2 l0_1 (ji15)).length : Int) := of_decide_eq_true (by first | (with_reducible assumption) | assumption)
                                                obtain ⟨ad272, e272, hx272_0⟩ := Kd.at_int HR271_0.out x6_3 p272 q272
                                                cases e272
                                                replace hx272_0 := (HB.out.cell (World.block_lt_of_cell? w _ hx272_0)).trans hx272_0
                                                replace p272 := eq_true p272
                                                replace q272 := eq_true q272
                                                have p273 : 0 ≤ ((ji15) : Int) := of_decide_eq_true (by first | (with_reducible assumption) | assumption)
                                                have q273 : (ji15) < (l0_1.length : Int) := of_decide_eq_true (by first | (with_reducible assumption) | assumption)
                                                obtain ⟨ad273, A273_0, c273_0, e273, hx273_0, hl273_0, hi273_0⟩ := at_L2 HR0_1.out (ji15) p273 q273
                                                obtain rfl : ad269 = ad273 := (by injection e273)
                                                replace hx273_0 := (HB.out.cell (World.block_lt_of_cell? w _ hx273_0)).trans hx273_0
                                                have HR273_0 := Aside0.mk hi273_0
                                                have HC273_0 := Aside0.mk hl273_0
                                                clear hi273_0 hl273_0
                                                replace p273 := eq_true p273
                                                replace q273 := eq_true q273
                                                have ea_ := Option.some.inj (hx270_0.symm.trans hx273_0)
                                                injection ea_ with ea_ en_ ec_
                                                subst ea_
                                                subst ec_
                                                clear en_
                                                have p274 : 0 ≤ (x6_3 : Int) := of_decide_eq_true (by first | (with_reducible assumption) | assumption)
                                                have q274 : x6_3 < ((rd_L2 l0_1 (ji15)).length : Int) := of_decide_eq_true (by first | (with_reducible assumption) | assumption)
                                                obtain ⟨ad274, e274, hx274_0⟩ := Kd.at_int HR273_0.out x6_3 p274 q274
                                                cases e274
                                                replace hx274_0 := (HB.out.cell (World.block_lt_of_cell? w _ hx274_0)).trans hx274_0
                                                replace p274 := eq_true p274
                                                replace q274 := eq_true q274
                                                have p275 : 0 ≤ (x4_2 : Int) := of_decide_eq_true (by first | (with_reducible assumption) | assumption)
                                                have q275 : x4_2 < (l0_1.length : Int) := of_decide_eq_true (by first | (with_reducible assumption) | assumption)
                                                obtain ⟨ad275, A275_0, c275_0, e275, hx275_0, hl275_0, hi275_0⟩ := at_L2 HR0_1.out x4_2 p275 q275
                                                obtain rfl : ad269 = ad275 := (by injection e275)
                                                replace hx275_0 := (HB.out.cell (World.block_lt_of_cell? w _ hx275_0)).trans hx275_0
                                                have HR275_0 := Aside0.mk hi275_0
                                                have HC275_0 := Aside0.mk hl275_0
                                                clear hi275_0 hl275_0
                                                replace p275 := eq_true p275
                                                replace q275 := eq_true q275
                                                go_wp2
                                                repeat (go_quiet (fail); try go_wp2)
                                                go_ret
                                                exact ⟨by first | rfl | (simp [errW_none, errW_some] <;> rfl) | (simp only [← hji15, ← hji19, ← hji15]; first | rfl | (simp [errW_none, errW_some] <;> rfl)) | (simp [*, errW_none, errW_some] <;> rfl), by repeat (first | (with_reducible first | exact HB.out | apply below_alloc | apply pw_below_drewN | apply below_drew1 | refine below_set ?_ GE265.out) | exact HB.out)⟩
                                              · rw [if_neg c34] at H
                                                have c34b0 : decide ((wrap64 (((rd_L2 l0_1 x4_2).length : Int) / ji19)) ≤ (rd (rd_L2 l0_1 (ji15)) x6_3)) = false := decide_eq_false c34
                                                clear c34
                                                have H' := Aside0.mk H
                                                clear H
                                                have hcz36_0 : wr.cell? ⟨gb265, 0, none⟩ = some (.slice (some ad268) l0_0.length c0_0) := (blk_cell BK265.out 0).trans rfl
                                                have hcz36_1 : wr.cell? ⟨gb265, 1, none⟩ = some (.slice (some ad269) l0_1.length c0_1) := (blk_cell BK265.out 1).trans rfl
                                                have hfz36_0 := blk_frozen BK265.out 0
                                                have hfz36_1 := blk_frozen BK265.out 1
                                                have p270 : 0 ≤ ((ji15) : Int) := of_decide_eq_true (by first | (with_reducible assumption) | assumption)
                                                have q270 : (ji15) < (l0_1.length : Int) := of_decide_eq_true (by first | (with_reducible assumption) | assumption)
                                                obtain ⟨ad270, A270_0, c270_0, e270, hx270_0, hl270_0, hi270_0⟩ := at_L2 HR0_1.out (ji15) p270 q270
                                                obtain rfl : ad269 = ad270 := (by injection e270)
                                                replace hx270_0 := (HB.out.cell (World.block_lt_of_cell? w _ hx270_0)).trans hx270_0
                                                have HR270_0 := Aside0.mk hi270_0
                                                have HC270_0 := Aside0.mk hl270_0
                                                clear hi270_0 hl270_0
                                                replace p270 := eq_true p270
                                                replace q270 := eq_true q270
                                                have p271 : 0 ≤ ((ji15) : Int) := of_decide_eq_true (by first | (with_reducible assumption) | assumption)
                                                have q271 : (ji15) < (l0_1.length : Int) := of_decide_eq_true (by first | (with_reducible assumption) | assumption)
                                                obtain ⟨ad271, A271_0, c271_0, e271, hx271_0, hl271_0, hi271_0⟩ := at_L2 HR0_1.out (ji15) p271 q271
                                                obtain rfl : ad269 = ad271 := (by injection e271)
                                                replace hx271_0 := (HB.out.cell (World.block_lt_of_cell? w _ hx271_0)).trans hx271_0
                                                have HR271_0 := Aside0.mk hi271_0
                                                have HC271_0 := Aside0.mk hl271_0
                                                clear hi271_0 hl271_0
                                                replace p271 := eq_true p271
                                                replace q271 := eq_true q271
                                                have ea_ := Option.some.inj (hx270_0.symm.trans hx271_0)
                                                injection ea_ with ea_ en_ ec_
                                                subst ea_
                                                subst ec_
                                                clear en_
                                                have p272 : 0 ≤ (x6_3 : Int) := of_decide_eq_true (by first | (with_reducible assumption) | assumption)
                                                have q272 : x6_3 < ((rd_L2 l0_1 (ji15)).length : Int) := of_decide_eq_true (by first | (with_reducible assumption) | assumption)
                                                obtain ⟨ad272, e272, hx272_0⟩ := Kd.at_int HR271_0.out x6_3 p272 q272
                                                cases e272
                                                replace hx272_0 := (HB.out.cell (World.block_lt_of_cell? w _ hx272_0)).trans hx272_0
                                                replace p272 := eq_true p272
                                                replace q272 := eq_true q272
                                                have p273 : 0 ≤ ((ji15) : Int) := of_decide_eq_true (by first | (with_reducible assumption) | assumption)
                                                have q273 : (ji15) < (l0_1.length : Int) := of_decide_eq_true (by first | (with_reducible assumption) | assumption)
                                                obtain ⟨ad273, A273_0, c273_0, e273, hx273_0, hl273_0, hi273_0⟩ := at_L2 HR0_1.out (ji15) p273 q273
                                                obtain rfl : ad269 = ad273 := (by injection e273)
                                                replace hx273_0 := (HB.out.cell (World.block_lt_of_cell? w _ hx273_0)).trans hx273_0
                                                have HR273_0 := Aside0.mk hi273_0
                                                have HC273_0 := Aside0.mk hl273_0
                                                clear hi273_0 hl273_0
                                                replace p273 := eq_true p273
                                                replace q273 := eq_true q273
                                                have ea_ := Option.some.inj (hx270_0.symm.trans hx273_0)
                                                injection ea_ with ea_ en_ ec_
                                                subst ea_
                                                subst ec_
                                                clear en_
                                                have p274 : 0 ≤ (x6_3 : Int) := of_decide_eq_true (by first | (with_reducible assumption) | assumption)
                                                have q274 : x6_3 < ((rd_L2 l0_1 (ji15)).length : Int) := of_decide_eq_true (by first | (with_reducible assumption) | assumption)
                                                obtain ⟨ad274, e274, hx274_0⟩ := Kd.at_int HR273_0.out x6_3 p274 q274
                                                cases e274
                                                replace hx274_0 := (HB.out.cell (World.block_lt_of_cell? w _ hx274_0)).trans hx274_0
                                                replace p274 := eq_true p274
                                                replace q274 := eq_true q274
                                                have p275 : 0 ≤ (x4_2 : Int) := of_decide_eq_true (by first | (with_reducible assumption) | assumption)
                                                have q275 : x4_2 < (l0_1.length : Int) := of_decide_eq_true (by first | (with_reducible assumption) | assumption)
                                                obtain ⟨ad275, A275_0, c275_0, e275, hx275_0, hl275_0, hi275_0⟩ := at_L2 HR0_1.out x4_2 p275 q275
                                                obtain rfl : ad269 = ad275 := (by injection e275)
                                                replace hx275_0 := (HB.out.cell (World.block_lt_of_cell? w _ hx275_0)).trans hx275_0
                                                have HR275_0 := Aside0.mk hi275_0
                                                have HC275_0 := Aside0.mk hl275_0
                                                clear hi275_0 hl275_0
                                                replace p275 := eq_true p275
                                                replace q275 := eq_true q275
                                                go_wp2
                                                repeat (go_quiet (fail); try go_wp2)
                                                go_roundg k3
                                                case measure => have := HJ2.out; have := HK2.out; have := HK3.out; omega
                                                case rel => exact ⟨(wrap64 (x6_3 + 1)), (by first | rfl | (simp; done) | (simp [*]; done)), H', ⟨by have := HJ2.out; have := HK2.out; have := HK3.out; omega⟩, ⟨by (with_reducible repeat (first | refine blk_drewN ?_ _ | refine blk_drew ?_ | refine blk_alloc ?_ _)); exact BK265.out⟩, ⟨by repeat (first | (with_reducible first | exact HB.out | apply below_alloc | apply pw_below_drewN | apply below_drew1 | refine below_set ?_ GE265.out) | exact HB.out)⟩⟩
                                          · rw [if_neg c32] at H
                                            exact absurd H (by simp)
                                        · rw [if_neg c31] at H
                                          exact absurd H (by simp)
                                    · rw [if_neg c28] at H
                                      exact absurd H (by simp)
                                  · rw [if_neg c27] at H
                                    have c27b0 : decide (x6_3 < ((rd_L2 l0_1 (ji15)).length : Int)) = false := decide_eq_false c27
                                    clear c27
                                    have H' := Aside0.mk H
                                    clear H
                                    have hcz37_0 : wr.cell? ⟨gb265, 0, none⟩ = some (.slice (some ad268) l0_0.length c0_0) := (blk_cell BK265.out 0).trans rfl
                                    have hcz37_1 : wr.cell? ⟨gb265, 1, none⟩ = some (.slice (some ad269) l0_1.length c0_1) := (blk_cell BK265.out 1).trans rfl
                                    have hfz37_0 := blk_frozen BK265.out 0
                                    have hfz37_1 := blk_frozen BK265.out 1
                                    have p270 : 0 ≤ ((ji15) : Int) := of_decide_eq_true (by first | (with_reducible assumption) | assumption)
                                    have q270 : (ji15) < (l0_1.length : Int) := of_decide_eq_true (by first | (with_reducible assumption) | assumption)
                                    obtain ⟨ad270, A270_0, c270_0, e270, hx270_0, hl270_0, hi270_0⟩ := at_L2 HR0_1.out (ji15) p270 q270
                                    obtain rfl : ad269 = ad270 := (by injection e270)
                                    replace hx270_0 := (HB.out.cell (World.block_lt_of_cell? w _ hx270_0)).trans hx270_0
                                    have HR270_0 := Aside0.mk hi270_0
                                    have HC270_0 := Aside0.mk hl270_0
                                    clear hi270_0 hl270_0
                                    replace p270 := eq_true p270
                                    replace q270 := eq_true q270
                                    go_wp2
                                    repeat (go_quiet (fail); try go_wp2)
                                    go_roundg k3
                                    case measure => have := HJ2.out; have := HK2.out; have := HK3.out; omega
                                    case rel => exact ⟨(wrap64 (x4_2 + 1)), (by first | rfl | (simp; done) | (simp [*]; done)), H', ⟨by have := HJ2.out; have := HK2.out; have := HK3.out; omega⟩, ⟨by (with_reducible repeat (first | refine blk_drewN ?_ _ | refine blk_drew ?_ | refine blk_alloc ?_ _)); exact BK265.out⟩, ⟨by repeat (first | (with_reducible first | exact HB.out | apply below_alloc | apply pw_below_drewN | apply below_drew1 | refine below_set ?_ GE265.out) | exact HB.out)⟩⟩
                                · rw [if_neg c26] at H
                                  exact absurd H (by simp)
                              · rw [if_neg c25] at H
                                exact absurd H (by simp)
                        · rw [if_neg c22] at H
                          have c22b0 : ((((rd_L2 l0_1 x4_2).length : Int) % (ji19)) == 0) = false := beq_eq_false_iff_ne.mpr c22
                          have c22b0t : (Int.tmod ((rd_L2 l0_1 x4_2).length : Int) (ji19) == 0) = false := by rw [Int.tmod_eq_emod_of_nonneg (Int.natCast_nonneg _)]; exact c22b0
                          have c22b1 : ((((rd_L2 l0_1 x4_2).length : Int) % (ji19)) != 0) = true := bne_iff_ne.mpr c22
                          have c22b1t : (Int.tmod ((rd_L2 l0_1 x4_2).length : Int) (ji19) != 0) = true := by rw [Int.tmod_eq_emod_of_nonneg (Int.natCast_nonneg _)]; exact c22b1
                          obtain rfl := Option.some.inj H
                          have hcz38_0 : wr.cell? ⟨gb265, 0, none⟩ = some (.slice A0_0 l0_0.length c0_0) := (blk_cell BK265.out 0).trans rfl
                          have hcz38_1 : wr.cell? ⟨gb265, 1, none⟩ = some (.slice A0_1 l0_1.length c0_1) := (blk_cell BK265.out 1).trans rfl
                          have hfz38_0 := blk_frozen BK265.out 0
                          have hfz38_1 := blk_frozen BK265.out 1
                          have p268 : 0 ≤ ((ji15) : Int) := of_decide_eq_true (by first | (with_reducible assumption) | assumption)
                          have q268 : (ji15) < (l0_0.length : Int) := of_decide_eq_true (by first | (with_reducible assumption) | assumption)
                          obtain ⟨ad268, e268, hx268_0⟩ := Kd.at_int HR0_0.out (ji15) p268 q268
                          cases e268
                          replace hx268_0 := (HB.out.cell (World.block_lt_of_cell? w _ hx268_0)).trans hx268_0
                          replace p268 := eq_true p268
                          replace q268 := eq_true q268
                          have p269 : 0 ≤ (x4_2 : Int) := of_decide_eq_true (by first | (with_reducible assumption) | assumption)
                          have q269 : x4_2 < (l0_1.length : Int) := of_decide_eq_true (by first | (with_reducible assumption) | assumption)
                          obtain ⟨ad269, A269_0, c269_0, e269, hx269_0, hl269_0, hi269_0⟩ := at_L2 HR0_1.out x4_2 p269 q269
                          cases e269
                          replace hx269_0 := (HB.out.cell (World.block_lt_of_cell? w _ hx269_0)).trans hx269_0
                          have HR269_0 := Aside0.mk hi269_0
                          have HC269_0 := Aside0.mk hl269_0
                          clear hi269_0 hl269_0
                          replace p269 := eq_true p269
                          replace q269 := eq_true q269
                          go_wp2
                          repeat (go_quiet (fail); try go_wp2)
                          go_ret
                          exact ⟨by first | rfl | (simp [errW_none, errW_some] <;> rfl) | (simp only [← hji15, ← hji19]; first | rfl | (simp [errW_none, errW_some] <;> rfl)) | (simp [*, errW_none, errW_some] <;> rfl), by repeat (first | (with_reducible first | exact HB.out | apply below_alloc | apply pw_below_drewN | apply below_drew1 | refine below_set ?_ GE265.out) | exact HB.out)⟩
                    · rw [if_neg c20] at H
                      exact absurd H (by simp)
                  · rw [if_neg c18] at H
                    exact absurd H (by simp)
                · rw [if_neg c17] at H
                  exact absurd H (by simp)
              · rw [if_neg c16] at H
                exact absurd H (by simp)
            · rw [if_neg c14] at H
              have c14b0 : decide (x4_2 < (l0_1.length : Int)) = false := decide_eq_false c14
              clear c14
              obtain rfl := Option.some.inj H
              have hcz39_0 : wr.cell? ⟨gb265, 0, none⟩ = some (.slice A0_0 l0_0.length c0_0) := (blk_cell BK265.out 0).trans rfl
              have hcz39_1 : wr.cell? ⟨gb265, 1, none⟩ = some (.slice A0_1 l0_1.length c0_1) := (blk_cell BK265.out 1).trans rfl
              have hfz39_0 := blk_frozen BK265.out 0
              have hfz39_1 := blk_frozen BK265.out 1
              go_wp2
              repeat (go_quiet (fail); try go_wp2)
              go_ret
              exact ⟨by first | rfl | (simp [errW_none, errW_some] <;> rfl) | (simp [*, errW_none, errW_some] <;> rfl), by repeat (first | (with_reducible first | exact HB.out | apply below_alloc | apply pw_below_drewN | apply below_drew1 | refine below_set ?_ GE265.out) | exact HB.out)⟩

end Go.Proofs.Ytdlijioedokgjaa.Q
/- Written by a program of this session (hprint.py), which drives the print over contracts proved by hand. Not trusted: Lean checks it. -/
namespace Go.Proofs.Ytdlijioedokgjaa.Q
open Go.RowKit Go.Proofs.YtdlijioedokgjaaW.PrintWords Go.Proofs.YtdlijioedokgjaaW.PrintLast Go.Proofs.YtdlijioedokgjaaW.PrintMore
attribute [local go_sem] max2_int min2_int max_two min_two max_three min_three max_four min_four   -- for this text's walks alone
set_option linter.unusedVariables false
set_option linter.unusedSimpArgs false

/-! ### unicodetextref13_first: function 100 -/
mutual
def unicodetextref13_first.l0 : Nat → List Int → Int → Int → Int → Option (Bool)
  | 0, _, _, _, _ => none
  | k + 1, x0, x1, x5, x6 => if x6 < (x0.length : Int) then (if 0 ≤ x6 then (if (rd x0 x6) < 0 then (unicodetextref13_first.j1 k x0 x1 x5 x6 true) else (if (rd x0 x6) > x5 then (unicodetextref13_first.j1 k x0 x1 x5 x6 true) else (unicodetextref13_first.j1 k x0 x1 x5 x6 (decide ((rd x0 x6) ≥ x1))))) else (none)) else (some (x5 == x1))
def unicodetextref13_first.j1 : Nat → List Int → Int → Int → Int → Bool → Option (Bool)
  | 0, _, _, _, _, _ => none
  | k + 1, x0, x1, x5, x6, x33 => if x33 = true then (some false) else (if 0 ≤ x6 then (if x6 < (x0.length : Int) then (if (rd x0 x6) = x5 then (unicodetextref13_first.l0 k x0 x1 (wrap64 (x5 + 1)) (wrap64 (x6 + 1))) else (unicodetextref13_first.l0 k x0 x1 x5 (wrap64 (x6 + 1)))) else (none)) else (none))
end
def unicodetextref13_first.f (k : Nat) (l0 : List Int) (a1 : Int) : Option (Bool) := unicodetextref13_first.l0 k l0 a1 0 0
theorem unicodetextref13_first.mono_l : ∀ k, (∀ y0 y1 y2 y3, LeO (unicodetextref13_first.l0 k y0 y1 y2 y3) (unicodetextref13_first.l0 (k + 1) y0 y1 y2 y3)) ∧ (∀ y0 y1 y2 y3 y4, LeO (unicodetextref13_first.j1 k y0 y1 y2 y3 y4) (unicodetextref13_first.j1 (k + 1) y0 y1 y2 y3 y4))
  | 0 => ⟨fun _ _ _ _ r h => by simp [unicodetextref13_first.l0] at h, fun _ _ _ _ _ r h => by simp [unicodetextref13_first.j1] at h⟩
  | k + 1 => by
    obtain ⟨ih0, ih1⟩ := unicodetextref13_first.mono_l k
    refine ⟨?_, ?_⟩
    · intro y0 y1 y2 y3
      unfold unicodetextref13_first.l0
      repeat' first
      | (with_reducible exact ih0 _ _ _ _)
      | (with_reducible exact ih1 _ _ _ _ _)
      | (with_reducible exact LeO.refl _)
      | (with_reducible exact LeO.none _)
      | (with_reducible refine LeO.ite ?_ ?_)
      | (with_reducible refine LeO.bind ?_ (fun _ => ?_))
      | exact ih0 _ _ _ _
      | exact ih1 _ _ _ _ _
      | exact LeO.none _
      | refine LeO.ite ?_ ?_
      | refine LeO.bind ?_ (fun _ => ?_)
    · intro y0 y1 y2 y3 y4
      unfold unicodetextref13_first.j1
      repeat' first
      | (with_reducible exact ih0 _ _ _ _)
      | (with_reducible exact ih1 _ _ _ _ _)
      | (with_reducible exact LeO.refl _)
      | (with_reducible exact LeO.none _)
      | (with_reducible refine LeO.ite ?_ ?_)
      | (with_reducible refine LeO.bind ?_ (fun _ => ?_))
      | exact ih0 _ _ _ _
      | exact ih1 _ _ _ _ _
      | exact LeO.none _
      | refine LeO.ite ?_ ?_
      | refine LeO.bind ?_ (fun _ => ?_)
theorem unicodetextref13_first.mono : ∀ a0 a1 k, LeO (unicodetextref13_first.f k a0 a1) (unicodetextref13_first.f (k + 1) a0 a1) := by
  intro a0 a1 k
  obtain ⟨ih0, ih1⟩ := unicodetextref13_first.mono_l k
  unfold unicodetextref13_first.f
  repeat' first
      | (with_reducible exact ih0 _ _ _ _)
      | (with_reducible exact ih1 _ _ _ _ _)
      | (with_reducible exact LeO.refl _)
      | (with_reducible exact LeO.none _)
      | (with_reducible refine LeO.ite ?_ ?_)
      | (with_reducible refine LeO.bind ?_ (fun _ => ?_))
      | exact ih0 _ _ _ _
      | exact ih1 _ _ _ _ _
      | exact LeO.none _
      | refine LeO.ite ?_ ?_
      | refine LeO.bind ?_ (fun _ => ?_)
set_option maxHeartbeats 8000000 in
set_option maxRecDepth 100000 in
theorem unicodetextref13_first.calls (k : Nat) (A0 : Option Addr) (c0 : Nat) (l0 : List Int) (a1 : Int) (r : Bool) (w : World) (hr0 : Kd.C (Kd.int .i64) w A0 l0.length l0) (hc0 : l0.length ≤ c0) (h : unicodetextref13_first.f k l0 a1 = some r) :
    Calls Try.prog 100 #[.slice A0 l0.length c0, .int .i64 a1] w fun e w' => e = .returned (.bool r) ∧ Drawn0 w w' := by
  have HR0 := Aside0.mk hr0
  have HC0 := Aside0.mk hc0
  clear hr0 hc0
  have H : (unicodetextref13_first.l0 k l0 a1 0 0) = some r := h
  clear h
  have H' := Aside0.mk H
  clear H
  go_enter Try.func100, Try.ntmps100
  go_wp2
  go_loopg [5, 6] k (fun kq v5 v6 w' => ∃ (x5_1 : Int) (x6_1 : Int), v5 = .int .i64 x5_1 ∧ v6 = .int .i64 x6_1 ∧ Aside0 (unicodetextref13_first.l0 kq l0 a1 x5_1 x6_1 = some r) ∧ Aside0 (kq ≤ k) ∧ Drawn0 w w')
  case atStart => exact ⟨(0), (0), (by first | rfl | (simp; done) | (simp [*]; done)), (by first | rfl | (simp; done) | (simp [*]; done)), H', ⟨Nat.le_refl _⟩, by repeat (first | exact Drawn0.refl _ | apply Drawn0.step)⟩
  case round =>
    clear H'
    try clear c1
    try clear p2
    obtain ⟨x5_1, x6_1, rfl, rfl, HA, HK1, ⟨m1, rfl⟩⟩ := hrel
    cases gk with
    | zero => exact absurd HA.out (by simp [unicodetextref13_first.l0])
    | succ k1 =>
      have H := HA.out
      clear HA
      simp only [unicodetextref13_first.l0] at H
      by_cases c3 : x6_1 < (l0.length : Int)
      · rw [if_pos c3] at H
        have c3b0 : decide (x6_1 < (l0.length : Int)) = true := decide_eq_true c3
        clear c3
        have HC4 := Aside0.mk H
        clear H
        go_upto_region 5 with (fail)
        go_cut [33] (fun v33 wc => ∃ (kq : Nat) (x33_3 : Bool), v33 = .bool x33_3 ∧ Aside0 (unicodetextref13_first.j1 kq l0 a1 x5_1 x6_1 x33_3 = some r) ∧ Aside0 (kq ≤ k1) ∧ Drawn0 w wc)
        case first =>
          have H := HC4.out
          clear HC4
          by_cases c5 : 0 ≤ x6_1
          · rw [if_pos c5] at H
            have c5b0 : decide (0 ≤ x6_1) = true := decide_eq_true c5
            clear c5
            (first | rw [c5b0] | (simp only [i64_w, i32_w]; rw [c5b0]) | skip)
            by_cases c6 : (rd l0 x6_1) < 0
            · rw [if_pos c6] at H
              have c6b0 : decide ((rd l0 x6_1) < 0) = true := decide_eq_true c6
              clear c6
              have H' := Aside0.mk H
              clear H
              have p360 : 0 ≤ (x6_1 : Int) := of_decide_eq_true (by first | (with_reducible assumption) | assumption)
              have q360 : x6_1 < (l0.length : Int) := of_decide_eq_true (by first | (with_reducible assumption) | assumption)
              obtain ⟨ad360, e360, hx360_0⟩ := Kd.at_int HR0.out x6_1 p360 q360
              cases e360
              replace p360 := eq_true p360
              replace q360 := eq_true q360
              go_wp2
              go_meet
              case rel => exact ⟨_, (true), (by first | rfl | (simp; done) | (simp [*]; done)), H', ⟨by have := HK1.out; first | omega | exact Nat.le_refl _⟩, by repeat (first | exact Drawn0.refl _ | apply Drawn0.step)⟩
            · rw [if_neg c6] at H
              have c6b0 : decide ((rd l0 x6_1) < 0) = false := decide_eq_false c6
              clear c6
              by_cases c7 : (rd l0 x6_1) > x5_1
              · rw [if_pos c7] at H
                have c7b0 : decide (x5_1 < (rd l0 x6_1)) = true := decide_eq_true c7
                clear c7
                have H' := Aside0.mk H
                clear H
                have p360 : 0 ≤ (x6_1 : Int) := of_decide_eq_true (by first | (with_reducible assumption) | assumption)
                have q360 : x6_1 < (l0.length : Int) := of_decide_eq_true (by first | (with_reducible assumption) | assumption)
                obtain ⟨ad360, e360, hx360_0⟩ := Kd.at_int HR0.out x6_1 p360 q360
                cases e360
                replace p360 := eq_true p360
                replace q360 := eq_true q360
                have p361 : 0 ≤ (x6_1 : Int) := of_decide_eq_true (by first | (with_reducible assumption) | assumption)
                have q361 : x6_1 < (l0.length : Int) := of_decide_eq_true (by first | (with_reducible assumption) | assumption)
                obtain ⟨ad361, e361, hx361_0⟩ := Kd.at_int HR0.out x6_1 p361 q361
                obtain rfl : ad360 = ad361 := (by injection e361)
                replace p361 := eq_true p361
                replace q361 := eq_true q361
                go_wp2
                go_meet
                case rel => exact ⟨_, (true), (by first | rfl | (simp; done) | (simp [*]; done)), H', ⟨by have := HK1.out; first | omega | exact Nat.le_refl _⟩, by repeat (first | exact Drawn0.refl _ | apply Drawn0.step)⟩
              · rw [if_neg c7] at H
                have c7b0 : decide (x5_1 < (rd l0 x6_1)) = false := decide_eq_false c7
                clear c7
                have H' := Aside0.mk H
                clear H
                have p360 : 0 ≤ (x6_1 : Int) := of_decide_eq_true (by first | (with_reducible assumption) | assumption)
                have q360 : x6_1 < (l0.length : Int) := of_decide_eq_true (by first | (with_reducible assumption) | assumption)
                obtain ⟨ad360, e360, hx360_0⟩ := Kd.at_int HR0.out x6_1 p360 q360
                cases e360
                replace p360 := eq_true p360
                replace q360 := eq_true q360
                have p361 : 0 ≤ (x6_1 : Int) := of_decide_eq_true (by first | (with_reducible assumption) | assumption)
                have q361 : x6_1 < (l0.length : Int) := of_decide_eq_true (by first | (with_reducible assumption) | assumption)
                obtain ⟨ad361, e361, hx361_0⟩ := Kd.at_int HR0.out x6_1 p361 q361
                obtain rfl : ad360 = ad361 := (by injection e361)
                replace p361 := eq_true p361
                replace q361 := eq_true q361
                have p362 : 0 ≤ (x6_1 : Int) := of_decide_eq_true (by first | (with_reducible assumption) | assumption)
                have q362 : x6_1 < (l0.length : Int) := of_decide_eq_true (by first | (with_reducible assumption) | assumption)
                obtain ⟨ad362, e362, hx362_0⟩ := Kd.at_int HR0.out x6_1 p362 q362
                obtain rfl : ad360 = ad362 := (by injection e362)
                replace p362 := eq_true p362
                replace q362 := eq_true q362
                go_wp2
                go_meet
                case rel => exact ⟨_, (decide ((rd l0 x6_1) ≥ a1)), (by first | rfl | (simp; done) | (simp [*]; done)), H', ⟨by have := HK1.out; first | omega | exact Nat.le_refl _⟩, by repeat (first | exact Drawn0.refl _ | apply Drawn0.step)⟩
          · rw [if_neg c5] at H
            exact absurd H (by simp)
        case rest =>
          clear HC4
          try clear c1
          try clear p2
          try clear c3
          try clear c3b0
          try clear p3
          try clear q3
          try clear hx3
          try clear c5
          try clear c5b0
          try clear c6
          try clear c6b0
          try clear c7
          try clear c7b0
          try clear hx360_0
          try clear hx361_0
          try clear hx362_0
          try clear p2
          try clear p360
          try clear p361
          try clear p362
          try clear q360
          try clear q361
          try clear q362
          obtain ⟨kq, x33_3, rfl, HA, HJ3, ⟨mc3, rfl⟩⟩ := hcut
          cases kq with
          | zero => exact absurd HA.out (by simp [unicodetextref13_first.j1])
          | succ kj3 =>
            have H := HA.out
            clear HA
            simp only [unicodetextref13_first.j1] at H
            by_cases c8 : x33_3 = true
            · subst c8
              have H1 : (some false) = some r := by rw [if_pos rfl] at H; exact H
              clear H
              have H := H1
              clear H1
              obtain rfl := Option.some.inj H
              go_wp2
              go_ret
              exact ⟨by first | rfl | (simp; done) | (simp [*]; done), by repeat (first | exact Drawn0.refl _ | apply Drawn0.step)⟩
            · replace c8 := Bool.eq_false_iff.mpr c8
              subst c8
              have H1 : (if 0 ≤ x6_1 then (if x6_1 < (l0.length : Int) then (if (rd l0 x6_1) = x5_1 then (unicodetextref13_first.l0 kj3 l0 a1 (wrap64 (x5_1 + 1)) (wrap64 (x6_1 + 1))) else (unicodetextref13_first.l0 kj3 l0 a1 x5_1 (wrap64 (x6_1 + 1)))) else (none)) else (none)) = some r := by rw [if_neg (show ¬ (false = true) by decide)] at H; exact H
              clear H
              have H := H1
              clear H1
              by_cases c9 : 0 ≤ x6_1
              · rw [if_pos c9] at H
                have c9b0 : decide (0 ≤ x6_1) = true := decide_eq_true c9
                clear c9
                by_cases c10 : x6_1 < (l0.length : Int)
                · rw [if_pos c10] at H
                  have c10b0 : decide (x6_1 < (l0.length : Int)) = true := decide_eq_true c10
                  clear c10
                  by_cases c11 : (rd l0 x6_1) = x5_1
                  · rw [if_pos c11] at H
                    have c11b0 : ((rd l0 x6_1) == x5_1) = true := beq_iff_eq.mpr c11
                    have c11b1 : ((rd l0 x6_1) != x5_1) = false := bne_eq_false_iff_eq.mpr c11
                    clear c11
                    have H' := Aside0.mk H
                    clear H
                    have p363 : 0 ≤ (x6_1 : Int) := of_decide_eq_true (by first | (with_reducible assumption) | assumption)
                    have q363 : x6_1 < (l0.length : Int) := of_decide_eq_true (by first | (with_reducible assumption) | assumption)
                    obtain ⟨ad363, e363, hx363_0⟩ := Kd.at_int HR0.out x6_1 p363 q363
                    cases e363
                    replace p363 := eq_true p363
                    replace q363 := eq_true q363
                    go_wp2
                    go_roundg kj3
                    case measure => have := HK1.out; have := HJ3.out; omega
                    case rel => exact ⟨(wrap64 (x5_1 + 1)), (wrap64 (x6_1 + 1)), (by first | rfl | (simp; done) | (simp [*]; done)), (by first | rfl | (simp; done) | (simp [*]; done)), H', ⟨by have := HK1.out; have := HJ3.out; omega⟩, by repeat (first | exact Drawn0.refl _ | apply Drawn0.step)⟩
                  · rw [if_neg c11] at H
                    have c11b0 : ((rd l0 x6_1) == x5_1) = false := beq_eq_false_iff_ne.mpr c11
                    have c11b1 : ((rd l0 x6_1) != x5_1) = true := bne_iff_ne.mpr c11
                    have H' := Aside0.mk H
                    clear H
                    have p363 : 0 ≤ (x6_1 : Int) := of_decide_eq_true (by first | (with_reducible assumption) | assumption)
                    have q363 : x6_1 < (l0.length : Int) := of_decide_eq_true (by first | (with_reducible assumption) | assumption)
                    obtain ⟨ad363, e363, hx363_0⟩ := Kd.at_int HR0.out x6_1 p363 q363
                    cases e363
                    replace p363 := eq_true p363
                    replace q363 := eq_true q363
                    go_wp2
                    go_roundg kj3
                    case measure => have := HK1.out; have := HJ3.out; omega
                    case rel => exact ⟨(x5_1), (wrap64 (x6_1 + 1)), (by first | rfl | (simp; done) | (simp [*]; done)), (by first | rfl | (simp; done) | (simp [*]; done)), H', ⟨by have := HK1.out; have := HJ3.out; omega⟩, by repeat (first | exact Drawn0.refl _ | apply Drawn0.step)⟩
                · rw [if_neg c10] at H
                  exact absurd H (by simp)
              · rw [if_neg c9] at H
                exact absurd H (by simp)
      · rw [if_neg c3] at H
        have c3b0 : decide (x6_1 < (l0.length : Int)) = false := decide_eq_false c3
        clear c3
        obtain rfl := Option.some.inj H
        go_wp2
        go_ret
        exact ⟨by first | rfl | (simp; done) | (simp [*]; done), by repeat (first | exact Drawn0.refl _ | apply Drawn0.step)⟩

end Go.Proofs.Ytdlijioedokgjaa.Q
/- Written by a program of this session (hprint.py), which drives the print over contracts proved by hand. Not trusted: Lean checks it. -/
namespace Go.Proofs.Ytdlijioedokgjaa.Q
open Go.RowKit Go.Proofs.YtdlijioedokgjaaW.PrintWords Go.Proofs.YtdlijioedokgjaaW.PrintLast Go.Proofs.YtdlijioedokgjaaW.PrintMore
attribute [local go_sem] max2_int min2_int max_two min_two max_three min_three max_four min_four   -- for this text's walks alone
set_option linter.unusedVariables false
set_option linter.unusedSimpArgs false

/-! ### unicodetextref13_same: function 101 -/
def unicodetextref13_same.l0 : Nat → List Int → List Int → Int → Option (Bool)
  | 0, _, _, _ => none
  | k + 1, x0, x1, x5 => if x5 < (x0.length : Int) then (if 0 ≤ x5 then (if x5 < (x1.length : Int) then (if (rd x0 x5) = (rd x1 x5) then (unicodetextref13_same.l0 k x0 x1 (wrap64 (x5 + 1))) else (some false)) else (none)) else (none)) else (some true)
def unicodetextref13_same.f (k : Nat) (l0 : List Int) (l1 : List Int) : Option (Bool) := if (l0.length : Int) = (l1.length : Int) then (unicodetextref13_same.l0 k l0 l1 0) else (some false)
theorem unicodetextref13_same.mono_l : ∀ k, (∀ y0 y1 y2, LeO (unicodetextref13_same.l0 k y0 y1 y2) (unicodetextref13_same.l0 (k + 1) y0 y1 y2))
  | 0 => fun _ _ _ r h => by simp [unicodetextref13_same.l0] at h
  | k + 1 => by
    have ih0 := unicodetextref13_same.mono_l k
    · intro y0 y1 y2
      unfold unicodetextref13_same.l0
      repeat' first
      | (with_reducible exact ih0 _ _ _)
      | (with_reducible exact LeO.refl _)
      | (with_reducible exact LeO.none _)
      | (with_reducible refine LeO.ite ?_ ?_)
      | (with_reducible refine LeO.bind ?_ (fun _ => ?_))
      | exact ih0 _ _ _
      | exact LeO.none _
      | refine LeO.ite ?_ ?_
      | refine LeO.bind ?_ (fun _ => ?_)
theorem unicodetextref13_same.mono : ∀ a0 a1 k, LeO (unicodetextref13_same.f k a0 a1) (unicodetextref13_same.f (k + 1) a0 a1) := by
  intro a0 a1 k
  have ih0 := unicodetextref13_same.mono_l k
  unfold unicodetextref13_same.f
  repeat' first
      | (with_reducible exact ih0 _ _ _)
      | (with_reducible exact LeO.refl _)
      | (with_reducible exact LeO.none _)
      | (with_reducible refine LeO.ite ?_ ?_)
      | (with_reducible refine LeO.bind ?_ (fun _ => ?_))
      | exact ih0 _ _ _
      | exact LeO.none _
      | refine LeO.ite ?_ ?_
      | refine LeO.bind ?_ (fun _ => ?_)
set_option maxHeartbeats 8000000 in
set_option maxRecDepth 100000 in
theorem unicodetextref13_same.calls (k : Nat) (A0 : Option Addr) (c0 : Nat) (l0 : List Int) (A1 : Option Addr) (c1 : Nat) (l1 : List Int) (r : Bool) (w : World) (hr0 : Kd.C (Kd.int .i64) w A0 l0.length l0) (hc0 : l0.length ≤ c0) (hr1 : Kd.C (Kd.int .i64) w A1 l1.length l1) (hc1 : l1.length ≤ c1) (h : unicodetextref13_same.f k l0 l1 = some r) :
    Calls Try.prog 101 #[.slice A0 l0.length c0, .slice A1 l1.length c1] w fun e w' => e = .returned (.bool r) ∧ Drawn0 w w' := by
  have HR0 := Aside0.mk hr0
  have HC0 := Aside0.mk hc0
  clear hr0 hc0
  have HR1 := Aside0.mk hr1
  have HC1 := Aside0.mk hc1
  clear hr1 hc1
  have H : (if (l0.length : Int) = (l1.length : Int) then (unicodetextref13_same.l0 k l0 l1 0) else (some false)) = some r := h
  clear h
  by_cases c3 : (l0.length : Int) = (l1.length : Int)
  · rw [if_pos c3] at H
    have c3b0 : ((l0.length : Int) == (l1.length : Int)) = true := beq_iff_eq.mpr c3
    have c3b1 : ((l0.length : Int) != (l1.length : Int)) = false := bne_eq_false_iff_eq.mpr c3
    have c3b2 : (l0.length == l1.length) = true := by first | simpa using c3 | (simp at c3 ⊢; omega)
    clear c3
    have H' := Aside0.mk H
    clear H
    go_enter Try.func101, Try.ntmps101
    go_wp2
    repeat (go_quiet (fail); try go_wp2)
    go_loopg [5] k (fun kq v5 w' => ∃ (x5_1 : Int), v5 = .int .i64 x5_1 ∧ Aside0 (unicodetextref13_same.l0 kq l0 l1 x5_1 = some r) ∧ Aside0 (kq ≤ k) ∧ Drawn0 w w')
    case atStart => exact ⟨(0), (by first | rfl | (simp; done) | (simp [*]; done)), H', ⟨Nat.le_refl _⟩, by repeat (first | exact Drawn0.refl _ | apply Drawn0.step)⟩
    case round =>
      clear H'
      try clear c1
      try clear p2
      try clear c3
      try clear c3b0
      try clear c3b1
      try clear c3b2
      obtain ⟨x5_1, rfl, HA, HK1, ⟨m1, rfl⟩⟩ := hrel
      cases gk with
      | zero => exact absurd HA.out (by simp [unicodetextref13_same.l0])
      | succ k1 =>
        have H := HA.out
        clear HA
        simp only [unicodetextref13_same.l0] at H
        by_cases c4 : x5_1 < (l0.length : Int)
        · rw [if_pos c4] at H
          have c4b0 : decide (x5_1 < (l0.length : Int)) = true := decide_eq_true c4
          clear c4
          by_cases c5 : 0 ≤ x5_1
          · rw [if_pos c5] at H
            have c5b0 : decide (0 ≤ x5_1) = true := decide_eq_true c5
            clear c5
            by_cases c6 : x5_1 < (l1.length : Int)
            · rw [if_pos c6] at H
              have c6b0 : decide (x5_1 < (l1.length : Int)) = true := decide_eq_true c6
              clear c6
              by_cases c7 : (rd l0 x5_1) = (rd l1 x5_1)
              · rw [if_pos c7] at H
                have c7b0 : ((rd l0 x5_1) == (rd l1 x5_1)) = true := beq_iff_eq.mpr c7
                have c7b1 : ((rd l0 x5_1) != (rd l1 x5_1)) = false := bne_eq_false_iff_eq.mpr c7
                clear c7
                have H' := Aside0.mk H
                clear H
                have p364 : 0 ≤ (x5_1 : Int) := of_decide_eq_true (by first | (with_reducible assumption) | assumption)
                have q364 : x5_1 < (l0.length : Int) := of_decide_eq_true (by first | (with_reducible assumption) | assumption)
                obtain ⟨ad364, e364, hx364_0⟩ := Kd.at_int HR0.out x5_1 p364 q364
                cases e364
                replace p364 := eq_true p364
                replace q364 := eq_true q364
                have p365 : 0 ≤ (x5_1 : Int) := of_decide_eq_true (by first | (with_reducible assumption) | assumption)
                have q365 : x5_1 < (l1.length : Int) := of_decide_eq_true (by first | (with_reducible assumption) | assumption)
                obtain ⟨ad365, e365, hx365_0⟩ := Kd.at_int HR1.out x5_1 p365 q365
                cases e365
                replace p365 := eq_true p365
                replace q365 := eq_true q365
                go_wp2
                repeat (go_quiet (fail); try go_wp2)
                go_roundg k1
                case measure => have := HK1.out; omega
                case rel => exact ⟨(wrap64 (x5_1 + 1)), (by first | rfl | (simp; done) | (simp [*]; done)), H', ⟨by have := HK1.out; omega⟩, by repeat (first | exact Drawn0.refl _ | apply Drawn0.step)⟩
              · rw [if_neg c7] at H
                have c7b0 : ((rd l0 x5_1) == (rd l1 x5_1)) = false := beq_eq_false_iff_ne.mpr c7
                have c7b1 : ((rd l0 x5_1) != (rd l1 x5_1)) = true := bne_iff_ne.mpr c7
                obtain rfl := Option.some.inj H
                have p364 : 0 ≤ (x5_1 : Int) := of_decide_eq_true (by first | (with_reducible assumption) | assumption)
                have q364 : x5_1 < (l0.length : Int) := of_decide_eq_true (by first | (with_reducible assumption) | assumption)
                obtain ⟨ad364, e364, hx364_0⟩ := Kd.at_int HR0.out x5_1 p364 q364
                cases e364
                replace p364 := eq_true p364
                replace q364 := eq_true q364
                have p365 : 0 ≤ (x5_1 : Int) := of_decide_eq_true (by first | (with_reducible assumption) | assumption)
                have q365 : x5_1 < (l1.length : Int) := of_decide_eq_true (by first | (with_reducible assumption) | assumption)
                obtain ⟨ad365, e365, hx365_0⟩ := Kd.at_int HR1.out x5_1 p365 q365
                cases e365
                replace p365 := eq_true p365
                replace q365 := eq_true q365
                go_wp2
                repeat (go_quiet (fail); try go_wp2)
                go_ret
                exact ⟨by first | rfl | (simp; done) | (simp [*]; done), by repeat (first | exact Drawn0.refl _ | apply Drawn0.step)⟩
            · rw [if_neg c6] at H
              exact absurd H (by simp)
          · rw [if_neg c5] at H
            exact absurd H (by simp)
        · rw [if_neg c4] at H
          have c4b0 : decide (x5_1 < (l0.length : Int)) = false := decide_eq_false c4
          clear c4
          obtain rfl := Option.some.inj H
          go_wp2
          repeat (go_quiet (fail); try go_wp2)
          go_ret
          exact ⟨by first | rfl | (simp; done) | (simp [*]; done), by repeat (first | exact Drawn0.refl _ | apply Drawn0.step)⟩
  · rw [if_neg c3] at H
    have c3b0 : ((l0.length : Int) == (l1.length : Int)) = false := beq_eq_false_iff_ne.mpr c3
    have c3b1 : ((l0.length : Int) != (l1.length : Int)) = true := bne_iff_ne.mpr c3
    have c3b2 : (l0.length == l1.length) = false := by first | simpa using c3 | (simp at c3 ⊢; omega)
    obtain rfl := Option.some.inj H
    go_enter Try.func101, Try.ntmps101
    go_wp2
    repeat (go_quiet (fail); try go_wp2)
    go_ret
    exact ⟨by first | rfl | (simp; done) | (simp [*]; done), by repeat (first | exact Drawn0.refl _ | apply Drawn0.step)⟩

end Go.Proofs.Ytdlijioedokgjaa.Q
/- Written by a program of this session (hprint.py), which drives the print over contracts proved by hand. Not trusted: Lean checks it. -/
namespace Go.Proofs.Ytdlijioedokgjaa.Q
open Go.RowKit Go.Proofs.YtdlijioedokgjaaW.PrintWords Go.Proofs.YtdlijioedokgjaaW.PrintLast Go.Proofs.YtdlijioedokgjaaW.PrintMore
attribute [local go_sem] max2_int min2_int max_two min_two max_three min_three max_four min_four   -- for this text's walks alone
set_option linter.unusedVariables false
set_option linter.unusedSimpArgs false

/-! ### unicodetextref13_Valid: function 49 -/
mutual
def unicodetextref13_Valid.l0 : Nat → Int → List Int → List (List Int) → Option (Bool)
  | 0, _, _, _ => none
  | k + 1, x3, x367000, x367001 => if x3 < (x367001.length : Int) then (if 0 ≤ (wrap64 (x3 - 1)) then (if (wrap64 (x3 - 1)) < (x367000.length : Int) then (if 0 ≤ (rd x367000 (wrap64 (x3 - 1))) then (if 0 ≤ x3 then (if (wrap64 (x3 - 1)) < (x367001.length : Int) then (if (shl .i64 1 (rd x367000 (wrap64 (x3 - 1)))) = 0 then (none) else ((unicodetextref13_first.f k (rd_L2 x367001 (wrap64 (x3 - 1))) (wrap64 (((rd_L2 x367001 x3).length : Int) / (shl .i64 1 (rd x367000 (wrap64 (x3 - 1))))))).bind fun t371 => (if t371 = true then (unicodetextref13_Valid.l1 k x3 (shl .i64 1 (rd x367000 (wrap64 (x3 - 1)))) (rd_L2 x367001 x3) 0 x367000 x367001) else (some false)))) else (none)) else (none)) else (none)) else (none)) else (none)) else (some true)
def unicodetextref13_Valid.l1 : Nat → Int → Int → List Int → Int → List Int → List (List Int) → Option (Bool)
  | 0, _, _, _, _, _, _ => none
  | k + 1, x3, x4, x5, x6, x367000, x367001 => if x6 < (x5.length : Int) then (unicodetextref13_Valid.l2 k x3 x4 x5 x6 0 x367000 x367001) else (unicodetextref13_Valid.l0 k (wrap64 (x3 + 1)) x367000 x367001)
def unicodetextref13_Valid.l2 : Nat → Int → Int → List Int → Int → Int → List Int → List (List Int) → Option (Bool)
  | 0, _, _, _, _, _, _, _ => none
  | k + 1, x3, x4, x5, x6, x7, x367000, x367001 => if x7 < x6 then (if 0 ≤ x6 then (if x6 ≤ (wrap64 (x6 + x4)) then (if (wrap64 (x6 + x4)) ≤ (x5.length : Int) then (if 0 ≤ x7 then (if x7 ≤ (wrap64 (x7 + x4)) then (if (wrap64 (x7 + x4)) ≤ (x5.length : Int) then ((unicodetextref13_same.f k ((x5.take ((wrap64 (x6 + x4)) : Int).toNat).drop (x6 : Int).toNat) ((x5.take ((wrap64 (x7 + x4)) : Int).toNat).drop (x7 : Int).toNat)).bind fun t374 => (if t374 = true then (some false) else (unicodetextref13_Valid.l2 k x3 x4 x5 x6 (wrap64 (x7 + x4)) x367000 x367001))) else (none)) else (none)) else (none)) else (none)) else (none)) else (none)) else (unicodetextref13_Valid.l1 k x3 x4 x5 (wrap64 (x6 + x4)) x367000 x367001)
end
def unicodetextref13_Valid.f (k : Nat) (l0_0 : List Int) (l0_1 : List (List Int)) : Option (Bool) := (unicodetextref13_Formed.f k l0_0 l0_1).bind fun t367 => (if t367 = true then (unicodetextref13_Valid.l0 k 1 l0_0 l0_1) else (some false))
theorem unicodetextref13_Valid.mono_l : ∀ k, (∀ y0 y1 y2, LeO (unicodetextref13_Valid.l0 k y0 y1 y2) (unicodetextref13_Valid.l0 (k + 1) y0 y1 y2)) ∧ (∀ y0 y1 y2 y3 y4 y5, LeO (unicodetextref13_Valid.l1 k y0 y1 y2 y3 y4 y5) (unicodetextref13_Valid.l1 (k + 1) y0 y1 y2 y3 y4 y5)) ∧ (∀ y0 y1 y2 y3 y4 y5 y6, LeO (unicodetextref13_Valid.l2 k y0 y1 y2 y3 y4 y5 y6) (unicodetextref13_Valid.l2 (k + 1) y0 y1 y2 y3 y4 y5 y6))
  | 0 => ⟨fun _ _ _ r h => by simp [unicodetextref13_Valid.l0] at h, fun _ _ _ _ _ _ r h => by simp [unicodetextref13_Valid.l1] at h, fun _ _ _ _ _ _ _ r h => by simp [unicodetextref13_Valid.l2] at h⟩
  | k + 1 => by
    obtain ⟨ih0, ih1, ih2⟩ := unicodetextref13_Valid.mono_l k
    refine ⟨?_, ?_, ?_⟩
    · intro y0 y1 y2
      unfold unicodetextref13_Valid.l0
      repeat' first
      | (with_reducible exact ih0 _ _ _)
      | (with_reducible exact ih1 _ _ _ _ _ _)
      | (with_reducible exact ih2 _ _ _ _ _ _ _)
      | (with_reducible exact unicodetextref13_Formed.mono _ _ _)
      | (with_reducible exact unicodetextref13_first.mono _ _ _)
      | (with_reducible exact unicodetextref13_same.mono _ _ _)
      | (with_reducible exact LeO.refl _)
      | (with_reducible exact LeO.none _)
      | (with_reducible refine LeO.ite ?_ ?_)
      | (with_reducible refine LeO.bind ?_ (fun _ => ?_))
      | exact ih0 _ _ _
      | exact ih1 _ _ _ _ _ _
      | exact ih2 _ _ _ _ _ _ _
      | exact unicodetextref13_Formed.mono _ _ _
      | exact unicodetextref13_first.mono _ _ _
      | exact unicodetextref13_same.mono _ _ _
      | exact LeO.none _
      | refine LeO.ite ?_ ?_
      | refine LeO.bind ?_ (fun _ => ?_)
    · intro y0 y1 y2 y3 y4 y5
      unfold unicodetextref13_Valid.l1
      repeat' first
      | (with_reducible exact ih0 _ _ _)
      | (with_reducible exact ih1 _ _ _ _ _ _)
      | (with_reducible exact ih2 _ _ _ _ _ _ _)
      | (with_reducible exact unicodetextref13_Formed.mono _ _ _)
      | (with_reducible exact unicodetextref13_first.mono _ _ _)
      | (with_reducible exact unicodetextref13_same.mono _ _ _)
      | (with_reducible exact LeO.refl _)
      | (with_reducible exact LeO.none _)
      | (with_reducible refine LeO.ite ?_ ?_)
      | (with_reducible refine LeO.bind ?_ (fun _ => ?_))
      | exact ih0 _ _ _
      | exact ih1 _ _ _ _ _ _
      | exact ih2 _ _ _ _ _ _ _
      | exact unicodetextref13_Formed.mono _ _ _
      | exact unicodetextref13_first.mono _ _ _
      | exact unicodetextref13_same.mono _ _ _
      | exact LeO.none _
      | refine LeO.ite ?_ ?_
      | refine LeO.bind ?_ (fun _ => ?_)
    · intro y0 y1 y2 y3 y4 y5 y6
      unfold unicodetextref13_Valid.l2
      repeat' first
      | (with_reducible exact ih0 _ _ _)
      | (with_reducible exact ih1 _ _ _ _ _ _)
      | (with_reducible exact ih2 _ _ _ _ _ _ _)
      | (with_reducible exact unicodetextref13_Formed.mono _ _ _)
      | (with_reducible exact unicodetextref13_first.mono _ _ _)
      | (with_reducible exact unicodetextref13_same.mono _ _ _)
      | (with_reducible exact LeO.refl _)
      | (with_reducible exact LeO.none _)
      | (with_reducible refine LeO.ite ?_ ?_)
      | (with_reducible refine LeO.bind ?_ (fun _ => ?_))
      | exact ih0 _ _ _
      | exact ih1 _ _ _ _ _ _
      | exact ih2 _ _ _ _ _ _ _
      | exact unicodetextref13_Formed.mono _ _ _
      | exact unicodetextref13_first.mono _ _ _
      | exact unicodetextref13_same.mono _ _ _
      | exact LeO.none _
      | refine LeO.ite ?_ ?_
      | refine LeO.bind ?_ (fun _ => ?_)
theorem unicodetextref13_Valid.mono : ∀ a0 a1 k, LeO (unicodetextref13_Valid.f k a0 a1) (unicodetextref13_Valid.f (k + 1) a0 a1) := by
  intro a0 a1 k
  obtain ⟨ih0, ih1, ih2⟩ := unicodetextref13_Valid.mono_l k
  unfold unicodetextref13_Valid.f
  repeat' first
      | (with_reducible exact ih0 _ _ _)
      | (with_reducible exact ih1 _ _ _ _ _ _)
      | (with_reducible exact ih2 _ _ _ _ _ _ _)
      | (with_reducible exact unicodetextref13_Formed.mono _ _ _)
      | (with_reducible exact unicodetextref13_first.mono _ _ _)
      | (with_reducible exact unicodetextref13_same.mono _ _ _)
      | (with_reducible exact LeO.refl _)
      | (with_reducible exact LeO.none _)
      | (with_reducible refine LeO.ite ?_ ?_)
      | (with_reducible refine LeO.bind ?_ (fun _ => ?_))
      | exact ih0 _ _ _
      | exact ih1 _ _ _ _ _ _
      | exact ih2 _ _ _ _ _ _ _
      | exact unicodetextref13_Formed.mono _ _ _
      | exact unicodetextref13_first.mono _ _ _
      | exact unicodetextref13_same.mono _ _ _
      | exact LeO.none _
      | refine LeO.ite ?_ ?_
      | refine LeO.bind ?_ (fun _ => ?_)
set_option maxHeartbeats 8000000 in
set_option maxRecDepth 100000 in
theorem unicodetextref13_Valid.calls (k : Nat) (A0_0 : Option Addr) (c0_0 : Nat) (l0_0 : List Int) (A0_1 : Option Addr) (c0_1 : Nat) (l0_1 : List (List Int)) (r : Bool) (w : World) (hr0_0 : Kd.C (Kd.int .i64) w A0_0 l0_0.length l0_0) (hc0_0 : l0_0.length ≤ c0_0) (hr0_1 : Kd.C (Kd.slice 3 (Kd.int .i64)) w A0_1 l0_1.length l0_1) (hc0_1 : l0_1.length ≤ c0_1) (h : unicodetextref13_Valid.f k l0_0 l0_1 = some r) :
    Calls Try.prog 49 #[.agg #[.slice A0_0 l0_0.length c0_0, .slice A0_1 l0_1.length c0_1]] w fun e w' => e = .returned (.bool r) ∧ Below w.heap.size w w' := by
  have hu46 := Try.underlying46
  have HR0_0 := Aside0.mk hr0_0
  have HC0_0 := Aside0.mk hc0_0
  clear hr0_0 hc0_0
  have HR0_1 := Aside0.mk hr0_1
  have HC0_1 := Aside0.mk hc0_1
  clear hr0_1 hc0_1
  have HB := Aside0.mk (Below.refl w.heap.size w)
  have H : ((unicodetextref13_Formed.f k l0_0 l0_1).bind fun t367 => (if t367 = true then (unicodetextref13_Valid.l0 k 1 l0_0 l0_1) else (some false))) = some r := h
  clear h
  replace H := Option.bind_eq_some_iff.mp H
  obtain ⟨t367, A20, H⟩ := H
  replace H : (if t367 = true then (unicodetextref13_Valid.l0 k 1 l0_0 l0_1) else (some false)) = some r := H
  have A2 := Aside0.mk A20
  clear A20
  by_cases c3 : t367 = true
  · subst c3
    have H1 : (unicodetextref13_Valid.l0 k 1 l0_0 l0_1) = some r := by rw [if_pos rfl] at H; exact H
    clear H
    have H := H1
    clear H1
    have H' := Aside0.mk H
    clear H
    go_enter Try.func49, Try.ntmps49
    go_wp2_with (first | ((with_reducible refine gate_dst (N := 1) rfl ?_); refine box_event ?hg (N := 1) ?hd (cs := #[.slice A0_0 l0_0.length c0_0, .slice A0_1 l0_1.length c0_1]) (t := 46) ?hr ?_; (case hd => rfl); (case hg => rfl); (case hr => first | (go_simp; done) | (go_simp; rfl)); intro gb366 hg w4 hbox hb; have n0_ := Aside0.mk (below_step (by repeat (first | (with_reducible first | exact HB.out | apply below_alloc | apply pw_below_drewN | apply below_drew1) | exact HB.out)) hb); have n1_ := Aside0.mk (hbox); have n2_ := Aside0.mk ((by rw [hg]; exact (below_size (by repeat (first | (with_reducible first | exact HB.out | apply below_alloc | apply pw_below_drewN | apply below_drew1) | exact HB.out))) : w.heap.size ≤ gb366)); have n3_ := Aside0.mk ((by rw [hg]; exact (below_size (by repeat (first | (with_reducible first | exact HB.out | apply below_alloc | apply pw_below_drewN | apply below_drew1) | exact HB.out))) : w.heap.size ≤ gb366)); clear HB; have HB := n0_; have BK366 := n1_; have GW366 := n2_; have GE366 := n3_; clear n0_ n1_ n2_ n3_; clear hb hbox hg; have hcz5_0 : w4.cell? ⟨gb366, 0, none⟩ = some (.slice A0_0 l0_0.length c0_0) := (blk_cell BK366.out 0).trans rfl; have hcz5_1 : w4.cell? ⟨gb366, 1, none⟩ = some (.slice A0_1 l0_1.length c0_1) := (blk_cell BK366.out 1).trans rfl; have hfz5_0 := blk_frozen BK366.out 0; have hfz5_1 := blk_frozen BK366.out 1) | (go_at_call 80; (with_reducible refine (unicodetextref13_Formed.calls k _ _ l0_0 _ _ l0_1 true _ ?side1 ?side2 ?side3 ?side4 A2.out).mono ?_); (case side1 => repeat (first | exact (Kd.C_below HR0_0.out HB.out) | (with_reducible refine Kd.C_alloc ?_ _) | (with_reducible refine Kd.C_drewN ?_ _) | (with_reducible refine Kd.C_drew ?_))); (case side2 => exact HC0_0.out); (case side3 => repeat (first | exact (Kd.C_below HR0_1.out HB.out) | (with_reducible refine Kd.C_alloc ?_ _) | (with_reducible refine Kd.C_drewN ?_ _) | (with_reducible refine Kd.C_drew ?_))); (case side4 => exact HC0_1.out); rintro e w6 ⟨rfl, hb⟩; have n0_ := Aside0.mk (blk_below (g := gb366) (o := .cells #[.slice A0_0 l0_0.length c0_0, .slice A0_1 l0_1.length c0_1] 46 (0, 0)) (by (with_reducible repeat (first | refine blk_drewN ?_ _ | refine blk_drew ?_ | refine blk_alloc ?_ _)); exact BK366.out) hb); have n1_ := Aside0.mk (below_step (by repeat (first | (with_reducible first | exact HB.out | apply below_alloc | apply pw_below_drewN | apply below_drew1 | refine below_set ?_ GE366.out) | exact HB.out)) hb); clear BK366; clear HB; have BK366 := n0_; have HB := n1_; clear n0_ n1_; (try clear hb); (try clear hb2); (try clear hk); (try clear hi)))
    repeat (go_quiet (first | ((with_reducible refine gate_dst (N := 1) rfl ?_); refine box_event ?hg (N := 1) ?hd (cs := #[.slice A0_0 l0_0.length c0_0, .slice A0_1 l0_1.length c0_1]) (t := 46) ?hr ?_; (case hd => rfl); (case hg => rfl); (case hr => first | (go_simp; done) | (go_simp; rfl)); intro gb366 hg w4 hbox hb; have n0_ := Aside0.mk (below_step (by repeat (first | (with_reducible first | exact HB.out | apply below_alloc | apply pw_below_drewN | apply below_drew1) | exact HB.out)) hb); have n1_ := Aside0.mk (hbox); have n2_ := Aside0.mk ((by rw [hg]; exact (below_size (by repeat (first | (with_reducible first | exact HB.out | apply below_alloc | apply pw_below_drewN | apply below_drew1) | exact HB.out))) : w.heap.size ≤ gb366)); have n3_ := Aside0.mk ((by rw [hg]; exact (below_size (by repeat (first | (with_reducible first | exact HB.out | apply below_alloc | apply pw_below_drewN | apply below_drew1) | exact HB.out))) : w.heap.size ≤ gb366)); clear HB; have HB := n0_; have BK366 := n1_; have GW366 := n2_; have GE366 := n3_; clear n0_ n1_ n2_ n3_; clear hb hbox hg; have hcz5_0 : w4.cell? ⟨gb366, 0, none⟩ = some (.slice A0_0 l0_0.length c0_0) := (blk_cell BK366.out 0).trans rfl; have hcz5_1 : w4.cell? ⟨gb366, 1, none⟩ = some (.slice A0_1 l0_1.length c0_1) := (blk_cell BK366.out 1).trans rfl; have hfz5_0 := blk_frozen BK366.out 0; have hfz5_1 := blk_frozen BK366.out 1) | (go_at_call 80; (with_reducible refine (unicodetextref13_Formed.calls k _ _ l0_0 _ _ l0_1 true _ ?side1 ?side2 ?side3 ?side4 A2.out).mono ?_); (case side1 => repeat (first | exact (Kd.C_below HR0_0.out HB.out) | (with_reducible refine Kd.C_alloc ?_ _) | (with_reducible refine Kd.C_drewN ?_ _) | (with_reducible refine Kd.C_drew ?_))); (case side2 => exact HC0_0.out); (case side3 => repeat (first | exact (Kd.C_below HR0_1.out HB.out) | (with_reducible refine Kd.C_alloc ?_ _) | (with_reducible refine Kd.C_drewN ?_ _) | (with_reducible refine Kd.C_drew ?_))); (case side4 => exact HC0_1.out); rintro e w6 ⟨rfl, hb⟩; have n0_ := Aside0.mk (blk_below (g := gb366) (o := .cells #[.slice A0_0 l0_0.length c0_0, .slice A0_1 l0_1.length c0_1] 46 (0, 0)) (by (with_reducible repeat (first | refine blk_drewN ?_ _ | refine blk_drew ?_ | refine blk_alloc ?_ _)); exact BK366.out) hb); have n1_ := Aside0.mk (below_step (by repeat (first | (with_reducible first | exact HB.out | apply below_alloc | apply pw_below_drewN | apply below_drew1 | refine below_set ?_ GE366.out) | exact HB.out)) hb); clear BK366; clear HB; have BK366 := n0_; have HB := n1_; clear n0_ n1_; (try clear hb); (try clear hb2); (try clear hk); (try clear hi))); try go_wp2_with (first | ((with_reducible refine gate_dst (N := 1) rfl ?_); refine box_event ?hg (N := 1) ?hd (cs := #[.slice A0_0 l0_0.length c0_0, .slice A0_1 l0_1.length c0_1]) (t := 46) ?hr ?_; (case hd => rfl); (case hg => rfl); (case hr => first | (go_simp; done) | (go_simp; rfl)); intro gb366 hg w4 hbox hb; have n0_ := Aside0.mk (below_step (by repeat (first | (with_reducible first | exact HB.out | apply below_alloc | apply pw_below_drewN | apply below_drew1) | exact HB.out)) hb); have n1_ := Aside0.mk (hbox); have n2_ := Aside0.mk ((by rw [hg]; exact (below_size (by repeat (first | (with_reducible first | exact HB.out | apply below_alloc | apply pw_below_drewN | apply below_drew1) | exact HB.out))) : w.heap.size ≤ gb366)); have n3_ := Aside0.mk ((by rw [hg]; exact (below_size (by repeat (first | (with_reducible first | exact HB.out | apply below_alloc | apply pw_below_drewN | apply below_drew1) | exact HB.out))) : w.heap.size ≤ gb366)); clear HB; have HB := n0_; have BK366 := n1_; have GW366 := n2_; have GE366 := n3_; clear n0_ n1_ n2_ n3_; clear hb hbox hg; have hcz5_0 : w4.cell? ⟨gb366, 0, none⟩ = some (.slice A0_0 l0_0.length c0_0) := (blk_cell BK366.out 0).trans rfl; have hcz5_1 : w4.cell? ⟨gb366, 1, none⟩ = some (.slice A0_1 l0_1.length c0_1) := (blk_cell BK366.out 1).trans rfl; have hfz5_0 := blk_frozen BK366.out 0; have hfz5_1 := blk_frozen BK366.out 1) | (go_at_call 80; (with_reducible refine (unicodetextref13_Formed.calls k _ _ l0_0 _ _ l0_1 true _ ?side1 ?side2 ?side3 ?side4 A2.out).mono ?_); (case side1 => repeat (first | exact (Kd.C_below HR0_0.out HB.out) | (with_reducible refine Kd.C_alloc ?_ _) | (with_reducible refine Kd.C_drewN ?_ _) | (with_reducible refine Kd.C_drew ?_))); (case side2 => exact HC0_0.out); (case side3 => repeat (first | exact (Kd.C_below HR0_1.out HB.out) | (with_reducible refine Kd.C_alloc ?_ _) | (with_reducible refine Kd.C_drewN ?_ _) | (with_reducible refine Kd.C_drew ?_))); (case side4 => exact HC0_1.out); rintro e w6 ⟨rfl, hb⟩; have n0_ := Aside0.mk (blk_below (g := gb366) (o := .cells #[.slice A0_0 l0_0.length c0_0, .slice A0_1 l0_1.length c0_1] 46 (0, 0)) (by (with_reducible repeat (first | refine blk_drewN ?_ _ | refine blk_drew ?_ | refine blk_alloc ?_ _)); exact BK366.out) hb); have n1_ := Aside0.mk (below_step (by repeat (first | (with_reducible first | exact HB.out | apply below_alloc | apply pw_below_drewN | apply below_drew1 | refine below_set ?_ GE366.out) | exact HB.out)) hb); clear BK366; clear HB; have BK366 := n0_; have HB := n1_; clear n0_ n1_; (try clear hb); (try clear hb2); (try clear hk); (try clear hi))))
    go_loopg [3] k (fun kq v3 w' => ∃ (x3_1 : Int), v3 = .int .i64 x3_1 ∧ Aside0 (unicodetextref13_Valid.l0 kq x3_1 l0_0 l0_1 = some r) ∧ Aside0 (kq ≤ k) ∧ Aside0 (w'.heap[gb366]? = some (.cells #[(.slice A0_0 l0_0.length c0_0), (.slice A0_1 l0_1.length c0_1)] 46 (0, 0))) ∧ Aside0 (Below w.heap.size w w'))
    case atStart => exact ⟨(1), (by first | rfl | (simp; done) | (simp [*]; done)), H', ⟨Nat.le_refl _⟩, ⟨by (with_reducible repeat (first | refine blk_drewN ?_ _ | refine blk_drew ?_ | refine blk_alloc ?_ _)); exact BK366.out⟩, ⟨by repeat (first | (with_reducible first | exact HB.out | apply below_alloc | apply pw_below_drewN | apply below_drew1 | refine below_set ?_ GE366.out) | exact HB.out)⟩⟩
    case round =>
      clear H'
      try clear p2
      try clear c3
      try clear c4
      try clear hcz5_0
      try clear hcz5_1
      try clear hfz5_0
      try clear hfz5_1
      obtain ⟨x3_1, rfl, HA, HK1, BK366, HB⟩ := hrel
      cases gk with
      | zero => exact absurd HA.out (by simp [unicodetextref13_Valid.l0])
      | succ k1 =>
        have H := HA.out
        clear HA
        simp only [unicodetextref13_Valid.l0] at H
        by_cases c7 : x3_1 < (l0_1.length : Int)
        · rw [if_pos c7] at H
          have c7b0 : decide (x3_1 < (l0_1.length : Int)) = true := decide_eq_true c7
          clear c7
          obtain ⟨ji8, hji8⟩ : ∃ j_ : Int, (wrap64 (x3_1 - 1)) = j_ := ⟨_, rfl⟩
          replace H : (if 0 ≤ (ji8) then (if (ji8) < (l0_0.length : Int) then (if 0 ≤ (rd l0_0 (ji8)) then (if 0 ≤ x3_1 then (if (ji8) < (l0_1.length : Int) then (if (shl .i64 1 (rd l0_0 (ji8))) = 0 then (none) else ((unicodetextref13_first.f k1 (rd_L2 l0_1 (ji8)) (wrap64 (((rd_L2 l0_1 x3_1).length : Int) / (shl .i64 1 (rd l0_0 (ji8)))))).bind fun t371 => (if t371 = true then (unicodetextref13_Valid.l1 k1 x3_1 (shl .i64 1 (rd l0_0 (ji8))) (rd_L2 l0_1 x3_1) 0 l0_0 l0_1) else (some false)))) else (none)) else (none)) else (none)) else (none)) else (none)) = some r := by first | (rw [hji8] at H; exact H) | (simp only [hji8] at H ⊢; exact H)
          have hji8w : (IntKind.i64.wrap (x3_1 - 1)) = ji8 := (i64_w _).trans hji8
          by_cases c9 : 0 ≤ (ji8)
          · rw [if_pos c9] at H
            have c9b0 : decide (0 ≤ (ji8)) = true := decide_eq_true c9
            clear c9
            by_cases c10 : (ji8) < (l0_0.length : Int)
            · rw [if_pos c10] at H
              have c10b0 : decide ((ji8) < (l0_0.length : Int)) = true := decide_eq_true c10
              clear c10
              by_cases c11 : 0 ≤ (rd l0_0 (ji8))
              · rw [if_pos c11] at H
                have c11b0 := eq_true c11
                have c11b1 : decide (0 ≤ (rd l0_0 (ji8))) = true := decide_eq_true c11
                clear c11
                obtain ⟨ji12, hji12⟩ : ∃ j_ : Int, (shl .i64 1 (rd l0_0 (ji8))) = j_ := ⟨_, rfl⟩
                replace H : (if 0 ≤ x3_1 then (if (ji8) < (l0_1.length : Int) then (if (ji12) = 0 then (none) else ((unicodetextref13_first.f k1 (rd_L2 l0_1 (ji8)) (wrap64 (((rd_L2 l0_1 x3_1).length : Int) / (ji12)))).bind fun t371 => (if t371 = true then (unicodetextref13_Valid.l1 k1 x3_1 ji12 (rd_L2 l0_1 x3_1) 0 l0_0 l0_1) else (some false)))) else (none)) else (none)) = some r := by first | (rw [hji12] at H; exact H) | (simp only [hji12] at H ⊢; exact H)
                have hji12_ : (IntKind.i64.wrap (1 * 2 ^ min (rd l0_0 (ji8)).toNat 64)) = ji12 := hji12
                have hji12z : (rd l0_0 (ji8)) ≤ 64 → (IntKind.i64.wrap (1 * 2 ^ (rd l0_0 (ji8)).toNat)) = ji12 := shl_small hji12
                have hji12u : (IntKind.i64.wrap (2 ^ min (rd l0_0 (ji8)).toNat 64)) = ji12 := by have h_ := hji12_; rw [Int.one_mul] at h_; exact h_
                have hji12v : (rd l0_0 (ji8)) ≤ 64 → (IntKind.i64.wrap (2 ^ (rd l0_0 (ji8)).toNat)) = ji12 := fun hle_ => by have h_ := hji12z hle_; rw [Int.one_mul] at h_; exact h_
                have hji12y : (wrap64 (1 * 2 ^ min (rd l0_0 (ji8)).toNat 64)) = ji12 := (i64_w _).symm.trans hji12_
                have hji12x : (rd l0_0 (ji8)) ≤ 64 → (wrap64 (1 * 2 ^ (rd l0_0 (ji8)).toNat)) = ji12 := fun h_ => (i64_w _).symm.trans (hji12z h_)
                by_cases c13 : 0 ≤ x3_1
                · rw [if_pos c13] at H
                  have c13b0 : decide (0 ≤ x3_1) = true := decide_eq_true c13
                  clear c13
                  by_cases c14 : (ji8) < (l0_1.length : Int)
                  · rw [if_pos c14] at H
                    have c14b0 : decide ((ji8) < (l0_1.length : Int)) = true := decide_eq_true c14
                    clear c14
                    by_cases c15 : (ji12) = 0
                    · rw [if_pos c15] at H
                      exact absurd H (by simp)
                    · rw [if_neg c15] at H
                      have c15b0 : ((ji12) == 0) = false := beq_eq_false_iff_ne.mpr c15
                      have c15b1 : ((ji12) != 0) = true := bne_iff_ne.mpr c15
                      replace H := Option.bind_eq_some_iff.mp H
                      obtain ⟨t371, A160, H⟩ := H
                      replace H : (if t371 = true then (unicodetextref13_Valid.l1 k1 x3_1 ji12 (rd_L2 l0_1 x3_1) 0 l0_0 l0_1) else (some false)) = some r := H
                      have A16 := Aside0.mk A160
                      clear A160
                      by_cases c17 : t371 = true
                      · subst c17
                        have H1 : (unicodetextref13_Valid.l1 k1 x3_1 ji12 (rd_L2 l0_1 x3_1) 0 l0_0 l0_1) = some r := by rw [if_pos rfl] at H; exact H
                        clear H
                        have H := H1
                        clear H1
                        have H' := Aside0.mk H
                        clear H
                        have hcz18_0 : wr.cell? ⟨gb366, 0, none⟩ = some (.slice A0_0 l0_0.length c0_0) := (blk_cell BK366.out 0).trans rfl
                        have hcz18_1 : wr.cell? ⟨gb366, 1, none⟩ = some (.slice A0_1 l0_1.length c0_1) := (blk_cell BK366.out 1).trans rfl
                        have hfz18_0 := blk_frozen BK366.out 0
                        have hfz18_1 := blk_frozen BK366.out 1
                        have p368 : 0 ≤ ((ji8) : Int) := of_decide_eq_true (by first | (with_reducible assumption) | assumption)
                        have q368 : (ji8) < (l0_0.length : Int) := of_decide_eq_true (by first | (with_reducible assumption) | assumption)
                        obtain ⟨ad368, e368, hx368_0⟩ := Kd.at_int HR0_0.out (ji8) p368 q368
                        cases e368
                        replace hx368_0 := (HB.out.cell (World.block_lt_of_cell? w _ hx368_0)).trans hx368_0
                        replace p368 := eq_true p368
                        replace q368 := eq_true q368
                        have p369 : 0 ≤ (x3_1 : Int) := of_decide_eq_true (by first | (with_reducible assumption) | assumption)
                        have q369 : x3_1 < (l0_1.length : Int) := of_decide_eq_true (by first | (with_reducible assumption) | assumption)
                        obtain ⟨ad369, A369_0, c369_0, e369, hx369_0, hl369_0, hi369_0⟩ := at_L2 HR0_1.out x3_1 p369 q369
                        cases e369
                        replace hx369_0 := (HB.out.cell (World.block_lt_of_cell? w _ hx369_0)).trans hx369_0
                        have HR369_0 := Aside0.mk hi369_0
                        have HC369_0 := Aside0.mk hl369_0
                        clear hi369_0 hl369_0
                        replace p369 := eq_true p369
                        replace q369 := eq_true q369
                        have p370 : 0 ≤ ((ji8) : Int) := of_decide_eq_true (by first | (with_reducible assumption) | assumption)
                        have q370 : (ji8) < (l0_1.length : Int) := of_decide_eq_true (by first | (with_reducible assumption) | assumption)
                        obtain ⟨ad370, A370_0, c370_0, e370, hx370_0, hl370_0, hi370_0⟩ := at_L2 HR0_1.out (ji8) p370 q370
                        obtain rfl : ad369 = ad370 := (by injection e370)
                        replace hx370_0 := (HB.out.cell (World.block_lt_of_cell? w _ hx370_0)).trans hx370_0
                        have HR370_0 := Aside0.mk hi370_0
                        have HC370_0 := Aside0.mk hl370_0
                        clear hi370_0 hl370_0
                        replace p370 := eq_true p370
                        replace q370 := eq_true q370
                        go_wp2_with (first | (go_at_call 100; (with_reducible refine (unicodetextref13_first.calls k1 _ _ (rd_L2 l0_1 (ji8)) (wrap64 (((rd_L2 l0_1 x3_1).length : Int) / (ji12))) true _ ?side1 ?side2 A16.out).mono ?_); (case side1 => repeat (first | exact (Kd.C_below HR370_0.out HB.out) | (with_reducible refine Kd.C_alloc ?_ _) | (with_reducible refine Kd.C_drewN ?_ _) | (with_reducible refine Kd.C_drew ?_))); (case side2 => exact HC370_0.out); rintro e w' ⟨rfl, ⟨nd, rfl⟩⟩; (try first | exact ⟨rfl, _, World.drewN_drewN _ _ _⟩ | exact ⟨rfl, _, Eq.trans (World.drewN_drewN _ _ _) (congrArg (World.drewN _) (Nat.add_assoc _ _ _))⟩)))
                        repeat (go_quiet (first | (go_at_call 100; (with_reducible refine (unicodetextref13_first.calls k1 _ _ (rd_L2 l0_1 (ji8)) (wrap64 (((rd_L2 l0_1 x3_1).length : Int) / (ji12))) true _ ?side1 ?side2 A16.out).mono ?_); (case side1 => repeat (first | exact (Kd.C_below HR370_0.out HB.out) | (with_reducible refine Kd.C_alloc ?_ _) | (with_reducible refine Kd.C_drewN ?_ _) | (with_reducible refine Kd.C_drew ?_))); (case side2 => exact HC370_0.out); rintro e w' ⟨rfl, ⟨nd, rfl⟩⟩; (try first | exact ⟨rfl, _, World.drewN_drewN _ _ _⟩ | exact ⟨rfl, _, Eq.trans (World.drewN_drewN _ _ _) (congrArg (World.drewN _) (Nat.add_assoc _ _ _))⟩))); try go_wp2_with (first | (go_at_call 100; (with_reducible refine (unicodetextref13_first.calls k1 _ _ (rd_L2 l0_1 (ji8)) (wrap64 (((rd_L2 l0_1 x3_1).length : Int) / (ji12))) true _ ?side1 ?side2 A16.out).mono ?_); (case side1 => repeat (first | exact (Kd.C_below HR370_0.out HB.out) | (with_reducible refine Kd.C_alloc ?_ _) | (with_reducible refine Kd.C_drewN ?_ _) | (with_reducible refine Kd.C_drew ?_))); (case side2 => exact HC370_0.out); rintro e w' ⟨rfl, ⟨nd, rfl⟩⟩; (try first | exact ⟨rfl, _, World.drewN_drewN _ _ _⟩ | exact ⟨rfl, _, Eq.trans (World.drewN_drewN _ _ _) (congrArg (World.drewN _) (Nat.add_assoc _ _ _))⟩))))
                        go_loopg [6] k1 (fun kq v6 w' => ∃ (x6_2 : Int), v6 = .int .i64 x6_2 ∧ Aside0 (unicodetextref13_Valid.l1 kq x3_1 ji12 (rd_L2 l0_1 x3_1) x6_2 l0_0 l0_1 = some r) ∧ Aside0 (kq ≤ k1) ∧ Aside0 (w'.heap[gb366]? = some (.cells #[(.slice (some ad368) l0_0.length c0_0), (.slice (some ad369) l0_1.length c0_1)] 46 (0, 0))) ∧ Aside0 (Below w.heap.size w w'))
                        case atStart => exact ⟨(0), (by first | rfl | (simp; done) | (simp [*]; done)), H', ⟨Nat.le_refl _⟩, ⟨by (with_reducible repeat (first | refine blk_drewN ?_ _ | refine blk_drew ?_ | refine blk_alloc ?_ _)); exact BK366.out⟩, ⟨by repeat (first | (with_reducible first | exact HB.out | apply below_alloc | apply pw_below_drewN | apply below_drew1 | refine below_set ?_ GE366.out) | exact HB.out)⟩⟩
                        case round =>
                          clear H'
                          try clear c1
                          try clear p2
                          try clear c3
                          try clear p3
                          try clear q3
                          try clear hx3
                          try clear c4
                          try clear p6
                          try clear c7
                          try clear c7b0
                          try clear c9
                          try clear c9b0
                          try clear c10
                          try clear c10b0
                          try clear c11
                          try clear c11b0
                          try clear c11b1
                          try clear c13
                          try clear c13b0
                          try clear c14
                          try clear c14b0
                          try clear c15
                          try clear c15b0
                          try clear c15b1
                          try clear c17
                          try clear hcz18_0
                          try clear hcz18_1
                          try clear hcz5_0
                          try clear hcz5_1
                          try clear hfz18_0
                          try clear hfz18_1
                          try clear hfz5_0
                          try clear hfz5_1
                          try clear hx368_0
                          try clear hx369_0
                          try clear hx370_0
                          try clear p2
                          try clear p368
                          try clear p369
                          try clear p370
                          try clear q368
                          try clear q369
                          try clear q370
                          obtain ⟨x6_2, rfl, HA, HK2, BK366, HB⟩ := hrel
                          cases gk with
                          | zero => exact absurd HA.out (by simp [unicodetextref13_Valid.l1])
                          | succ k2 =>
                            have H := HA.out
                            clear HA
                            simp only [unicodetextref13_Valid.l1] at H
                            by_cases c19 : x6_2 < ((rd_L2 l0_1 x3_1).length : Int)
                            · rw [if_pos c19] at H
                              have c19b0 : decide (x6_2 < ((rd_L2 l0_1 x3_1).length : Int)) = true := decide_eq_true c19
                              clear c19
                              have H' := Aside0.mk H
                              clear H
                              go_wp2
                              repeat (go_quiet (fail); try go_wp2)
                              go_loopg [7] k2 (fun kq v7 w' => ∃ (x7_3 : Int), v7 = .int .i64 x7_3 ∧ Aside0 (unicodetextref13_Valid.l2 kq x3_1 ji12 (rd_L2 l0_1 x3_1) x6_2 x7_3 l0_0 l0_1 = some r) ∧ Aside0 (kq ≤ k2) ∧ Aside0 (w'.heap[gb366]? = some (.cells #[(.slice (some ad368) l0_0.length c0_0), (.slice (some ad369) l0_1.length c0_1)] 46 (0, 0))) ∧ Aside0 (Below w.heap.size w w'))
                              case atStart => exact ⟨(0), (by first | rfl | (simp; done) | (simp [*]; done)), H', ⟨Nat.le_refl _⟩, ⟨by (with_reducible repeat (first | refine blk_drewN ?_ _ | refine blk_drew ?_ | refine blk_alloc ?_ _)); exact BK366.out⟩, ⟨by repeat (first | (with_reducible first | exact HB.out | apply below_alloc | apply pw_below_drewN | apply below_drew1 | refine below_set ?_ GE366.out) | exact HB.out)⟩⟩
                              case round =>
                                clear H'
                                try clear c1
                                try clear p2
                                try clear c3
                                try clear p3
                                try clear q3
                                try clear hx3
                                try clear c4
                                try clear p6
                                try clear c7
                                try clear c7b0
                                try clear c9
                                try clear c9b0
                                try clear c10
                                try clear c10b0
                                try clear c11
                                try clear c11b0
                                try clear c11b1
                                try clear c13
                                try clear c13b0
                                try clear c14
                                try clear c14b0
                                try clear c15
                                try clear c15b0
                                try clear c15b1
                                try clear c17
                                try clear c19
                                try clear c19b0
                                try clear hcz18_0
                                try clear hcz18_1
                                try clear hcz5_0
                                try clear hcz5_1
                                try clear hfz18_0
                                try clear hfz18_1
                                try clear hfz5_0
                                try clear hfz5_1
                                try clear hx368_0
                                try clear hx369_0
                                try clear hx370_0
                                try clear p2
                                try clear p3
                                try clear p368
                                try clear p369
                                try clear p370
                                try clear p6
                                try clear q3
                                try clear q368
                                try clear q369
                                try clear q370
                                obtain ⟨x7_3, rfl, HA, HK3, BK366, HB⟩ := hrel
                                cases gk with
                                | zero => exact absurd HA.out (by simp [unicodetextref13_Valid.l2])
                                | succ k3 =>
                                  have H := HA.out
                                  clear HA
                                  simp only [unicodetextref13_Valid.l2] at H
                                  by_cases c20 : x7_3 < x6_2
                                  · rw [if_pos c20] at H
                                    have c20b0 : decide (x7_3 < x6_2) = true := decide_eq_true c20
                                    clear c20
                                    by_cases c21 : 0 ≤ x6_2
                                    · rw [if_pos c21] at H
                                      have c21b0 := eq_true c21
                                      have c21b1 : decide (0 ≤ x6_2) = true := decide_eq_true c21
                                      clear c21
                                      by_cases c22 : x6_2 ≤ (wrap64 (x6_2 + ji12))
                                      · rw [if_pos c22] at H
                                        have c22b0 := eq_true c22
                                        have c22b1 : decide (x6_2 ≤ (wrap64 (x6_2 + ji12))) = true := decide_eq_true c22
                                        by_cases c23 : (wrap64 (x6_2 + ji12)) ≤ ((rd_L2 l0_1 x3_1).length : Int)
                                        · rw [if_pos c23] at H
                                          have c23b0 := eq_true c23
                                          have c23b1 : decide ((wrap64 (x6_2 + ji12)) ≤ ((rd_L2 l0_1 x3_1).length : Int)) = true := decide_eq_true c23
                                          by_cases c24 : 0 ≤ x7_3
                                          · rw [if_pos c24] at H
                                            have c24b0 := eq_true c24
                                            have c24b1 : decide (0 ≤ x7_3) = true := decide_eq_true c24
                                            clear c24
                                            by_cases c25 : x7_3 ≤ (wrap64 (x7_3 + ji12))
                                            · rw [if_pos c25] at H
                                              have c25b0 := eq_true c25
                                              have c25b1 : decide (x7_3 ≤ (wrap64 (x7_3 + ji12))) = true := decide_eq_true c25
                                              by_cases c26 : (wrap64 (x7_3 + ji12)) ≤ ((rd_L2 l0_1 x3_1).length : Int)
                                              · rw [if_pos c26] at H
                                                have c26b0 := eq_true c26
                                                have c26b1 : decide ((wrap64 (x7_3 + ji12)) ≤ ((rd_L2 l0_1 x3_1).length : Int)) = true := decide_eq_true c26
                                                replace H := Option.bind_eq_some_iff.mp H
                                                obtain ⟨t374, A270, H⟩ := H
                                                replace H : (if t374 = true then (some false) else (unicodetextref13_Valid.l2 k3 x3_1 ji12 (rd_L2 l0_1 x3_1) x6_2 (wrap64 (x7_3 + ji12)) l0_0 l0_1)) = some r := H
                                                have A27 := Aside0.mk A270
                                                clear A270
                                                by_cases c28 : t374 = true
                                                · subst c28
                                                  have H1 : (some false) = some r := by rw [if_pos rfl] at H; exact H
                                                  clear H
                                                  have H := H1
                                                  clear H1
                                                  obtain rfl := Option.some.inj H
                                                  obtain ⟨i029, hi029, _, hsz29, _⟩ := info_parts info3
                                                  obtain ⟨A29, hcut29, hA29, hC29⟩ := print_mid_of (P := Try.prog) (Value.int .i64) 0 26 3 .i64 .i64 Try.underlying26 hi029 hsz29 A369_0 c369_0 (rd_L2 l0_1 x3_1) x6_2 (wrap64 (x6_2 + ji12)) (of_decide_eq_true (by first | (with_reducible assumption) | assumption)) (by first | omega | exact of_decide_eq_true (by first | (with_reducible assumption) | assumption)) (of_decide_eq_true (by first | (with_reducible assumption) | assumption)) HC369_0.out
                                                  have HR372 := Aside0.mk (Kd.C_of_reads (h1 := fun _ => rfl) (hA29 _ (Kd.reads_of_C HR369_0.out)))
                                                  have HC372 := Aside0.mk hC29
                                                  clear hA29 hC29 hi029 hsz29
                                                  obtain ⟨i030, hi030, _, hsz30, _⟩ := info_parts info3
                                                  obtain ⟨A30, hcut30, hA30, hC30⟩ := print_mid_of (P := Try.prog) (Value.int .i64) 0 26 3 .i64 .i64 Try.underlying26 hi030 hsz30 A369_0 c369_0 (rd_L2 l0_1 x3_1) x7_3 (wrap64 (x7_3 + ji12)) (of_decide_eq_true (by first | (with_reducible assumption) | assumption)) (by first | omega | exact of_decide_eq_true (by first | (with_reducible assumption) | assumption)) (of_decide_eq_true (by first | (with_reducible assumption) | assumption)) HC369_0.out
                                                  have HR373 := Aside0.mk (Kd.C_of_reads (h1 := fun _ => rfl) (hA30 _ (Kd.reads_of_C HR369_0.out)))
                                                  have HC373 := Aside0.mk hC30
                                                  clear hA30 hC30 hi030 hsz30
                                                  have HD1_ := Aside0.mk (show (wrap64 (x6_2 + ji12)).toNat - (x6_2 : Int).toNat = (((rd_L2 l0_1 x3_1).take ((wrap64 (x6_2 + ji12)) : Int).toNat).drop (x6_2 : Int).toNat).length from (by rw [List.length_drop, List.length_take]; (have h1_ : wrap64 (x6_2 + ji12) ≤ ((rd_L2 l0_1 x3_1).length : Int) := by assumption); omega))
                                                  have HD2_ := Aside0.mk (show (wrap64 (x7_3 + ji12)).toNat - (x7_3 : Int).toNat = (((rd_L2 l0_1 x3_1).take ((wrap64 (x7_3 + ji12)) : Int).toNat).drop (x7_3 : Int).toNat).length from (by rw [List.length_drop, List.length_take]; (have h1_ : wrap64 (x7_3 + ji12) ≤ ((rd_L2 l0_1 x3_1).length : Int) := by assumption); omega))
                                                  go_wp2_with (first | (go_at_call 101; rw [HD1_.out, HD2_.out]; (with_reducible refine (unicodetextref13_same.calls k3 _ _ (((rd_L2 l0_1 x3_1).take ((wrap64 (x6_2 + ji12)) : Int).toNat).drop (x6_2 : Int).toNat) _ _ (((rd_L2 l0_1 x3_1).take ((wrap64 (x7_3 + ji12)) : Int).toNat).drop (x7_3 : Int).toNat) true _ ?side1 ?side2 ?side3 ?side4 A27.out).mono ?_); (case side1 => repeat (first | exact (Kd.C_below HR372.out HB.out) | (with_reducible refine Kd.C_alloc ?_ _) | (with_reducible refine Kd.C_drewN ?_ _) | (with_reducible refine Kd.C_drew ?_))); (case side2 => exact HC372.out); (case side3 => repeat (first | exact (Kd.C_below HR373.out HB.out) | (with_reducible refine Kd.C_alloc ?_ _) | (with_reducible refine Kd.C_drewN ?_ _) | (with_reducible refine Kd.C_drew ?_))); (case side4 => exact HC373.out); rintro e w' ⟨rfl, ⟨nd, rfl⟩⟩; (try first | exact ⟨rfl, _, World.drewN_drewN _ _ _⟩ | exact ⟨rfl, _, Eq.trans (World.drewN_drewN _ _ _) (congrArg (World.drewN _) (Nat.add_assoc _ _ _))⟩)))
                                                  repeat (go_quiet (first | (go_at_call 101; rw [HD1_.out, HD2_.out]; (with_reducible refine (unicodetextref13_same.calls k3 _ _ (((rd_L2 l0_1 x3_1).take ((wrap64 (x6_2 + ji12)) : Int).toNat).drop (x6_2 : Int).toNat) _ _ (((rd_L2 l0_1 x3_1).take ((wrap64 (x7_3 + ji12)) : Int).toNat).drop (x7_3 : Int).toNat) true _ ?side1 ?side2 ?side3 ?side4 A27.out).mono ?_); (case side1 => repeat (first | exact (Kd.C_below HR372.out HB.out) | (with_reducible refine Kd.C_alloc ?_ _) | (with_reducible refine Kd.C_drewN ?_ _) | (with_reducible refine Kd.C_drew ?_))); (case side2 => exact HC372.out); (case side3 => repeat (first | exact (Kd.C_below HR373.out HB.out) | (with_reducible refine Kd.C_alloc ?_ _) | (with_reducible refine Kd.C_drewN ?_ _) | (with_reducible refine Kd.C_drew ?_))); (case side4 => exact HC373.out); rintro e w' ⟨rfl, ⟨nd, rfl⟩⟩; (try first | exact ⟨rfl, _, World.drewN_drewN _ _ _⟩ | exact ⟨rfl, _, Eq.trans (World.drewN_drewN _ _ _) (congrArg (World.drewN _) (Nat.add_assoc _ _ _))⟩))); try go_wp2_with (first | (go_at_call 101; rw [HD1_.out, HD2_.out]; (with_reducible refine (unicodetextref13_same.calls k3 _ _ (((rd_L2 l0_1 x3_1).take ((wrap64 (x6_2 + ji12)) : Int).toNat).drop (x6_2 : Int).toNat) _ _ (((rd_L2 l0_1 x3_1).take ((wrap64 (x7_3 + ji12)) : Int).toNat).drop (x7_3 : Int).toNat) true _ ?side1 ?side2 ?side3 ?side4 A27.out).mono ?_); (case side1 => repeat (first | exact (Kd.C_below HR372.out HB.out) | (with_reducible refine Kd.C_alloc ?_ _) | (with_reducible refine Kd.C_drewN ?_ _) | (with_reducible refine Kd.C_drew ?_))); (case side2 => exact HC372.out); (case side3 => repeat (first | exact (Kd.C_below HR373.out HB.out) | (with_reducible refine Kd.C_alloc ?_ _) | (with_reducible refine Kd.C_drewN ?_ _) | (with_reducible refine Kd.C_drew ?_))); (case side4 => exact HC373.out); rintro e w' ⟨rfl, ⟨nd, rfl⟩⟩; (try first | exact ⟨rfl, _, World.drewN_drewN _ _ _⟩ | exact ⟨rfl, _, Eq.trans (World.drewN_drewN _ _ _) (congrArg (World.drewN _) (Nat.add_assoc _ _ _))⟩))))
                                                  go_ret
                                                  exact ⟨by first | rfl | (simp [errW_none, errW_some] <;> rfl) | (simp only [← hji8, ← hji12]; first | rfl | (simp [errW_none, errW_some] <;> rfl)) | (simp [*, errW_none, errW_some] <;> rfl), by repeat (first | (with_reducible first | exact HB.out | apply below_alloc | apply pw_below_drewN | apply below_drew1 | refine below_set ?_ GE366.out) | exact HB.out)⟩
                                                · replace c28 := Bool.eq_false_iff.mpr c28
                                                  subst c28
                                                  have H1 : (unicodetextref13_Valid.l2 k3 x3_1 ji12 (rd_L2 l0_1 x3_1) x6_2 (wrap64 (x7_3 + ji12)) l0_0 l0_1) = some r := by rw [if_neg (show ¬ (false = true) by decide)] at H; exact H
                                                  clear H
                                                  have H := H1
                                                  clear H1
                                                  have H' := Aside0.mk H
                                                  clear H
                                                  obtain ⟨i031, hi031, _, hsz31, _⟩ := info_parts info3
                                                  obtain ⟨A31, hcut31, hA31, hC31⟩ := print_mid_of (P := Try.prog) (Value.int .i64) 0 26 3 .i64 .i64 Try.underlying26 hi031 hsz31 A369_0 c369_0 (rd_L2 l0_1 x3_1) x6_2 (wrap64 (x6_2 + ji12)) (of_decide_eq_true (by first | (with_reducible assumption) | assumption)) (by first | omega | exact of_decide_eq_true (by first | (with_reducible assumption) | assumption)) (of_decide_eq_true (by first | (with_reducible assumption) | assumption)) HC369_0.out
                                                  have HR372 := Aside0.mk (Kd.C_of_reads (h1 := fun _ => rfl) (hA31 _ (Kd.reads_of_C HR369_0.out)))
                                                  have HC372 := Aside0.mk hC31
                                                  clear hA31 hC31 hi031 hsz31
                                                  obtain ⟨i032, hi032, _, hsz32, _⟩ := info_parts info3
                                                  obtain ⟨A32, hcut32, hA32, hC32⟩ := print_mid_of (P := Try.prog) (Value.int .i64) 0 26 3 .i64 .i64 Try.underlying26 hi032 hsz32 A369_0 c369_0 (rd_L2 l0_1 x3_1) x7_3 (wrap64 (x7_3 + ji12)) (of_decide_eq_true (by first | (with_reducible assumption) | assumption)) (by first | omega | exact of_decide_eq_true (by first | (with_reducible assumption) | assumption)) (of_decide_eq_true (by first | (with_reducible assumption) | assumption)) HC369_0.out
                                                  have HR373 := Aside0.mk (Kd.C_of_reads (h1 := fun _ => rfl) (hA32 _ (Kd.reads_of_C HR369_0.out)))
                                                  have HC373 := Aside0.mk hC32
                                                  clear hA32 hC32 hi032 hsz32
                                                  have HD1_ := Aside0.mk (show (wrap64 (x6_2 + ji12)).toNat - (x6_2 : Int).toNat = (((rd_L2 l0_1 x3_1).take ((wrap64 (x6_2 + ji12)) : Int).toNat).drop (x6_2 : Int).toNat).length from (by rw [List.length_drop, List.length_take]; (have h1_ : wrap64 (x6_2 + ji12) ≤ ((rd_L2 l0_1 x3_1).length : Int) := by assumption); omega))
                                                  have HD2_ := Aside0.mk (show (wrap64 (x7_3 + ji12)).toNat - (x7_3 : Int).toNat = (((rd_L2 l0_1 x3_1).take ((wrap64 (x7_3 + ji12)) : Int).toNat).drop (x7_3 : Int).toNat).length from (by rw [List.length_drop, List.length_take]; (have h1_ : wrap64 (x7_3 + ji12) ≤ ((rd_L2 l0_1 x3_1).length : Int) := by assumption); omega))
                                                  go_wp2_with (first | (go_at_call 101; rw [HD1_.out, HD2_.out]; (with_reducible refine (unicodetextref13_same.calls k3 _ _ (((rd_L2 l0_1 x3_1).take ((wrap64 (x6_2 + ji12)) : Int).toNat).drop (x6_2 : Int).toNat) _ _ (((rd_L2 l0_1 x3_1).take ((wrap64 (x7_3 + ji12)) : Int).toNat).drop (x7_3 : Int).toNat) false _ ?side1 ?side2 ?side3 ?side4 A27.out).mono ?_); (case side1 => repeat (first | exact (Kd.C_below HR372.out HB.out) | (with_reducible refine Kd.C_alloc ?_ _) | (with_reducible refine Kd.C_drewN ?_ _) | (with_reducible refine Kd.C_drew ?_))); (case side2 => exact HC372.out); (case side3 => repeat (first | exact (Kd.C_below HR373.out HB.out) | (with_reducible refine Kd.C_alloc ?_ _) | (with_reducible refine Kd.C_drewN ?_ _) | (with_reducible refine Kd.C_drew ?_))); (case side4 => exact HC373.out); rintro e w' ⟨rfl, ⟨nd, rfl⟩⟩; (try first | exact ⟨rfl, _, World.drewN_drewN _ _ _⟩ | exact ⟨rfl, _, Eq.trans (World.drewN_drewN _ _ _) (congrArg (World.drewN _) (Nat.add_assoc _ _ _))⟩)))
                                                  repeat (go_quiet (first | (go_at_call 101; rw [HD1_.out, HD2_.out]; (with_reducible refine (unicodetextref13_same.calls k3 _ _ (((rd_L2 l0_1 x3_1).take ((wrap64 (x6_2 + ji12)) : Int).toNat).drop (x6_2 : Int).toNat) _ _ (((rd_L2 l0_1 x3_1).take ((wrap64 (x7_3 + ji12)) : Int).toNat).drop (x7_3 : Int).toNat) false _ ?side1 ?side2 ?side3 ?side4 A27.out).mono ?_); (case side1 => repeat (first | exact (Kd.C_below HR372.out HB.out) | (with_reducible refine Kd.C_alloc ?_ _) | (with_reducible refine Kd.C_drewN ?_ _) | (with_reducible refine Kd.C_drew ?_))); (case side2 => exact HC372.out); (case side3 => repeat (first | exact (Kd.C_below HR373.out HB.out) | (with_reducible refine Kd.C_alloc ?_ _) | (with_reducible refine Kd.C_drewN ?_ _) | (with_reducible refine Kd.C_drew ?_))); (case side4 => exact HC373.out); rintro e w' ⟨rfl, ⟨nd, rfl⟩⟩; (try first | exact ⟨rfl, _, World.drewN_drewN _ _ _⟩ | exact ⟨rfl, _, Eq.trans (World.drewN_drewN _ _ _) (congrArg (World.drewN _) (Nat.add_assoc _ _ _))⟩))); try go_wp2_with (first | (go_at_call 101; rw [HD1_.out, HD2_.out]; (with_reducible refine (unicodetextref13_same.calls k3 _ _ (((rd_L2 l0_1 x3_1).take ((wrap64 (x6_2 + ji12)) : Int).toNat).drop (x6_2 : Int).toNat) _ _ (((rd_L2 l0_1 x3_1).take ((wrap64 (x7_3 + ji12)) : Int).toNat).drop (x7_3 : Int).toNat) false _ ?side1 ?side2 ?side3 ?side4 A27.out).mono ?_); (case side1 => repeat (first | exact (Kd.C_below HR372.out HB.out) | (with_reducible refine Kd.C_alloc ?_ _) | (with_reducible refine Kd.C_drewN ?_ _) | (with_reducible refine Kd.C_drew ?_))); (case side2 => exact HC372.out); (case side3 => repeat (first | exact (Kd.C_below HR373.out HB.out) | (with_reducible refine Kd.C_alloc ?_ _) | (with_reducible refine Kd.C_drewN ?_ _) | (with_reducible refine Kd.C_drew ?_))); (case side4 => exact HC373.out); rintro e w' ⟨rfl, ⟨nd, rfl⟩⟩; (try first | exact ⟨rfl, _, World.drewN_drewN _ _ _⟩ | exact ⟨rfl, _, Eq.trans (World.drewN_drewN _ _ _) (congrArg (World.drewN _) (Nat.add_assoc _ _ _))⟩))))
                                                  go_roundg k3
                                                  case measure => have := HK1.out; have := HK2.out; have := HK3.out; omega
                                                  case rel => exact ⟨(wrap64 (x7_3 + ji12)), (by first | rfl | (simp; done) | (simp only [← hji12] <;> (first | rfl | simp)) | (simp [*]; done)), H', ⟨by have := HK1.out; have := HK2.out; have := HK3.out; omega⟩, ⟨by (with_reducible repeat (first | refine blk_drewN ?_ _ | refine blk_drew ?_ | refine blk_alloc ?_ _)); exact BK366.out⟩, ⟨by repeat (first | (with_reducible first | exact HB.out | apply below_alloc | apply pw_below_drewN | apply below_drew1 | refine below_set ?_ GE366.out) | exact HB.out)⟩⟩
                                              · rw [if_neg c26] at H
                                                exact absurd H (by simp)
                                            · rw [if_neg c25] at H
                                              exact absurd H (by simp)
                                          · rw [if_neg c24] at H
                                            exact absurd H (by simp)
                                        · rw [if_neg c23] at H
                                          exact absurd H (by simp)
                                      · rw [if_neg c22] at H
                                        exact absurd H (by simp)
                                    · rw [if_neg c21] at H
                                      exact absurd H (by simp)
                                  · rw [if_neg c20] at H
                                    have c20b0 : decide (x7_3 < x6_2) = false := decide_eq_false c20
                                    clear c20
                                    have H' := Aside0.mk H
                                    clear H
                                    go_wp2
                                    repeat (go_quiet (fail); try go_wp2)
                                    go_roundg k3
                                    case measure => have := HK1.out; have := HK2.out; have := HK3.out; omega
                                    case rel => exact ⟨(wrap64 (x6_2 + ji12)), (by first | rfl | (simp; done) | (simp only [← hji12] <;> (first | rfl | simp)) | (simp [*]; done)), H', ⟨by have := HK1.out; have := HK2.out; have := HK3.out; omega⟩, ⟨by (with_reducible repeat (first | refine blk_drewN ?_ _ | refine blk_drew ?_ | refine blk_alloc ?_ _)); exact BK366.out⟩, ⟨by repeat (first | (with_reducible first | exact HB.out | apply below_alloc | apply pw_below_drewN | apply below_drew1 | refine below_set ?_ GE366.out) | exact HB.out)⟩⟩
                            · rw [if_neg c19] at H
                              have c19b0 : decide (x6_2 < ((rd_L2 l0_1 x3_1).length : Int)) = false := decide_eq_false c19
                              clear c19
                              have H' := Aside0.mk H
                              clear H
                              go_wp2
                              repeat (go_quiet (fail); try go_wp2)
                              go_roundg k2
                              case measure => have := HK1.out; have := HK2.out; omega
                              case rel => exact ⟨(wrap64 (x3_1 + 1)), (by first | rfl | (simp; done) | (simp [*]; done)), H', ⟨by have := HK1.out; have := HK2.out; omega⟩, ⟨by (with_reducible repeat (first | refine blk_drewN ?_ _ | refine blk_drew ?_ | refine blk_alloc ?_ _)); exact BK366.out⟩, ⟨by repeat (first | (with_reducible first | exact HB.out | apply below_alloc | apply pw_below_drewN | apply below_drew1 | refine below_set ?_ GE366.out) | exact HB.out)⟩⟩
                      · replace c17 := Bool.eq_false_iff.mpr c17
                        subst c17
                        have H1 : (some false) = some r := by rw [if_neg (show ¬ (false = true) by decide)] at H; exact H
                        clear H
                        have H := H1
                        clear H1
                        obtain rfl := Option.some.inj H
                        have hcz33_0 : wr.cell? ⟨gb366, 0, none⟩ = some (.slice A0_0 l0_0.length c0_0) := (blk_cell BK366.out 0).trans rfl
                        have hcz33_1 : wr.cell? ⟨gb366, 1, none⟩ = some (.slice A0_1 l0_1.length c0_1) := (blk_cell BK366.out 1).trans rfl
                        have hfz33_0 := blk_frozen BK366.out 0
                        have hfz33_1 := blk_frozen BK366.out 1
                        have p368 : 0 ≤ ((ji8) : Int) := of_decide_eq_true (by first | (with_reducible assumption) | assumption)
                        have q368 : (ji8) < (l0_0.length : Int) := of_decide_eq_true (by first | (with_reducible assumption) | assumption)
                        obtain ⟨ad368, e368, hx368_0⟩ := Kd.at_int HR0_0.out (ji8) p368 q368
                        cases e368
                        replace hx368_0 := (HB.out.cell (World.block_lt_of_cell? w _ hx368_0)).trans hx368_0
                        replace p368 := eq_true p368
                        replace q368 := eq_true q368
                        have p369 : 0 ≤ (x3_1 : Int) := of_decide_eq_true (by first | (with_reducible assumption) | assumption)
                        have q369 : x3_1 < (l0_1.length : Int) := of_decide_eq_true (by first | (with_reducible assumption) | assumption)
                        obtain ⟨ad369, A369_0, c369_0, e369, hx369_0, hl369_0, hi369_0⟩ := at_L2 HR0_1.out x3_1 p369 q369
                        cases e369
                        replace hx369_0 := (HB.out.cell (World.block_lt_of_cell? w _ hx369_0)).trans hx369_0
                        have HR369_0 := Aside0.mk hi369_0
                        have HC369_0 := Aside0.mk hl369_0
                        clear hi369_0 hl369_0
                        replace p369 := eq_true p369
                        replace q369 := eq_true q369
                        have p370 : 0 ≤ ((ji8) : Int) := of_decide_eq_true (by first | (with_reducible assumption) | assumption)
                        have q370 : (ji8) < (l0_1.length : Int) := of_decide_eq_true (by first | (with_reducible assumption) | assumption)
                        obtain ⟨ad370, A370_0, c370_0, e370, hx370_0, hl370_0, hi370_0⟩ := at_L2 HR0_1.out (ji8) p370 q370
                        obtain rfl : ad369 = ad370 := (by injection e370)
                        replace hx370_0 := (HB.out.cell (World.block_lt_of_cell? w _ hx370_0)).trans hx370_0
                        have HR370_0 := Aside0.mk hi370_0
                        have HC370_0 := Aside0.mk hl370_0
                        clear hi370_0 hl370_0
                        replace p370 := eq_true p370
                        replace q370 := eq_true q370
                        go_wp2_with (first | (go_at_call 100; (with_reducible refine (unicodetextref13_first.calls k1 _ _ (rd_L2 l0_1 (ji8)) (wrap64 (((rd_L2 l0_1 x3_1).length : Int) / (ji12))) false _ ?side1 ?side2 A16.out).mono ?_); (case side1 => repeat (first | exact (Kd.C_below HR370_0.out HB.out) | (with_reducible refine Kd.C_alloc ?_ _) | (with_reducible refine Kd.C_drewN ?_ _) | (with_reducible refine Kd.C_drew ?_))); (case side2 => exact HC370_0.out); rintro e w' ⟨rfl, ⟨nd, rfl⟩⟩; (try first | exact ⟨rfl, _, World.drewN_drewN _ _ _⟩ | exact ⟨rfl, _, Eq.trans (World.drewN_drewN _ _ _) (congrArg (World.drewN _) (Nat.add_assoc _ _ _))⟩)))
                        repeat (go_quiet (first | (go_at_call 100; (with_reducible refine (unicodetextref13_first.calls k1 _ _ (rd_L2 l0_1 (ji8)) (wrap64 (((rd_L2 l0_1 x3_1).length : Int) / (ji12))) false _ ?side1 ?side2 A16.out).mono ?_); (case side1 => repeat (first | exact (Kd.C_below HR370_0.out HB.out) | (with_reducible refine Kd.C_alloc ?_ _) | (with_reducible refine Kd.C_drewN ?_ _) | (with_reducible refine Kd.C_drew ?_))); (case side2 => exact HC370_0.out); rintro e w' ⟨rfl, ⟨nd, rfl⟩⟩; (try first | exact ⟨rfl, _, World.drewN_drewN _ _ _⟩ | exact ⟨rfl, _, Eq.trans (World.drewN_drewN _ _ _) (congrArg (World.drewN _) (Nat.add_assoc _ _ _))⟩))); try go_wp2_with (first | (go_at_call 100; (with_reducible refine (unicodetextref13_first.calls k1 _ _ (rd_L2 l0_1 (ji8)) (wrap64 (((rd_L2 l0_1 x3_1).length : Int) / (ji12))) false _ ?side1 ?side2 A16.out).mono ?_); (case side1 => repeat (first | exact (Kd.C_below HR370_0.out HB.out) | (with_reducible refine Kd.C_alloc ?_ _) | (with_reducible refine Kd.C_drewN ?_ _) | (with_reducible refine Kd.C_drew ?_))); (case side2 => exact HC370_0.out); rintro e w' ⟨rfl, ⟨nd, rfl⟩⟩; (try first | exact ⟨rfl, _, World.drewN_drewN _ _ _⟩ | exact ⟨rfl, _, Eq.trans (World.drewN_drewN _ _ _) (congrArg (World.drewN _) (Nat.add_assoc _ _ _))⟩))))
                        go_ret
                        exact ⟨by first | rfl | (simp [errW_none, errW_some] <;> rfl) | (simp only [← hji8, ← hji12]; first | rfl | (simp [errW_none, errW_some] <;> rfl)) | (simp [*, errW_none, errW_some] <;> rfl), by repeat (first | (with_reducible first | exact HB.out | apply below_alloc | apply pw_below_drewN | apply below_drew1 | refine below_set ?_ GE366.out) | exact HB.out)⟩
                  · rw [if_neg c14] at H
                    exact absurd H (by simp)
                · rw [if_neg c13] at H
                  exact absurd H (by simp)
              · rw [if_neg c11] at H
                exact absurd H (by simp)
            · rw [if_neg c10] at H
              exact absurd H (by simp)
          · rw [if_neg c9] at H
            exact absurd H (by simp)
        · rw [if_neg c7] at H
          have c7b0 : decide (x3_1 < (l0_1.length : Int)) = false := decide_eq_false c7
          clear c7
          obtain rfl := Option.some.inj H
          have hcz34_0 : wr.cell? ⟨gb366, 0, none⟩ = some (.slice A0_0 l0_0.length c0_0) := (blk_cell BK366.out 0).trans rfl
          have hcz34_1 : wr.cell? ⟨gb366, 1, none⟩ = some (.slice A0_1 l0_1.length c0_1) := (blk_cell BK366.out 1).trans rfl
          have hfz34_0 := blk_frozen BK366.out 0
          have hfz34_1 := blk_frozen BK366.out 1
          go_wp2
          repeat (go_quiet (fail); try go_wp2)
          go_ret
          exact ⟨by first | rfl | (simp [errW_none, errW_some] <;> rfl) | (simp [*, errW_none, errW_some] <;> rfl), by repeat (first | (with_reducible first | exact HB.out | apply below_alloc | apply pw_below_drewN | apply below_drew1 | refine below_set ?_ GE366.out) | exact HB.out)⟩
  · replace c3 := Bool.eq_false_iff.mpr c3
    subst c3
    have H1 : (some false) = some r := by rw [if_neg (show ¬ (false = true) by decide)] at H; exact H
    clear H
    have H := H1
    clear H1
    obtain rfl := Option.some.inj H
    go_enter Try.func49, Try.ntmps49
    go_wp2_with (first | ((with_reducible refine gate_dst (N := 1) rfl ?_); refine box_event ?hg (N := 1) ?hd (cs := #[.slice A0_0 l0_0.length c0_0, .slice A0_1 l0_1.length c0_1]) (t := 46) ?hr ?_; (case hd => rfl); (case hg => rfl); (case hr => first | (go_simp; done) | (go_simp; rfl)); intro gb366 hg w35 hbox hb; have n0_ := Aside0.mk (below_step (by repeat (first | (with_reducible first | exact HB.out | apply below_alloc | apply pw_below_drewN | apply below_drew1) | exact HB.out)) hb); have n1_ := Aside0.mk (hbox); have n2_ := Aside0.mk ((by rw [hg]; exact (below_size (by repeat (first | (with_reducible first | exact HB.out | apply below_alloc | apply pw_below_drewN | apply below_drew1) | exact HB.out))) : w.heap.size ≤ gb366)); have n3_ := Aside0.mk ((by rw [hg]; exact (below_size (by repeat (first | (with_reducible first | exact HB.out | apply below_alloc | apply pw_below_drewN | apply below_drew1) | exact HB.out))) : w.heap.size ≤ gb366)); clear HB; have HB := n0_; have BK366 := n1_; have GW366 := n2_; have GE366 := n3_; clear n0_ n1_ n2_ n3_; clear hb hbox hg; have hcz36_0 : w35.cell? ⟨gb366, 0, none⟩ = some (.slice A0_0 l0_0.length c0_0) := (blk_cell BK366.out 0).trans rfl; have hcz36_1 : w35.cell? ⟨gb366, 1, none⟩ = some (.slice A0_1 l0_1.length c0_1) := (blk_cell BK366.out 1).trans rfl; have hfz36_0 := blk_frozen BK366.out 0; have hfz36_1 := blk_frozen BK366.out 1) | (go_at_call 80; (with_reducible refine (unicodetextref13_Formed.calls k _ _ l0_0 _ _ l0_1 false _ ?side1 ?side2 ?side3 ?side4 A2.out).mono ?_); (case side1 => repeat (first | exact (Kd.C_below HR0_0.out HB.out) | (with_reducible refine Kd.C_alloc ?_ _) | (with_reducible refine Kd.C_drewN ?_ _) | (with_reducible refine Kd.C_drew ?_))); (case side2 => exact HC0_0.out); (case side3 => repeat (first | exact (Kd.C_below HR0_1.out HB.out) | (with_reducible refine Kd.C_alloc ?_ _) | (with_reducible refine Kd.C_drewN ?_ _) | (with_reducible refine Kd.C_drew ?_))); (case side4 => exact HC0_1.out); rintro e w37 ⟨rfl, hb⟩; have n0_ := Aside0.mk (blk_below (g := gb366) (o := .cells #[.slice A0_0 l0_0.length c0_0, .slice A0_1 l0_1.length c0_1] 46 (0, 0)) (by (with_reducible repeat (first | refine blk_drewN ?_ _ | refine blk_drew ?_ | refine blk_alloc ?_ _)); exact BK366.out) hb); have n1_ := Aside0.mk (below_step (by repeat (first | (with_reducible first | exact HB.out | apply below_alloc | apply pw_below_drewN | apply below_drew1 | refine below_set ?_ GE366.out) | exact HB.out)) hb); clear BK366; clear HB; have BK366 := n0_; have HB := n1_; clear n0_ n1_; (try clear hb); (try clear hb2); (try clear hk); (try clear hi)))
    repeat (go_quiet (first | ((with_reducible refine gate_dst (N := 1) rfl ?_); refine box_event ?hg (N := 1) ?hd (cs := #[.slice A0_0 l0_0.length c0_0, .slice A0_1 l0_1.length c0_1]) (t := 46) ?hr ?_; (case hd => rfl); (case hg => rfl); (case hr => first | (go_simp; done) | (go_simp; rfl)); intro gb366 hg w35 hbox hb; have n0_ := Aside0.mk (below_step (by repeat (first | (with_reducible first | exact HB.out | apply below_alloc | apply pw_below_drewN | apply below_drew1) | exact HB.out)) hb); have n1_ := Aside0.mk (hbox); have n2_ := Aside0.mk ((by rw [hg]; exact (below_size (by repeat (first | (with_reducible first | exact HB.out | apply below_alloc | apply pw_below_drewN | apply below_drew1) | exact HB.out))) : w.heap.size ≤ gb366)); have n3_ := Aside0.mk ((by rw [hg]; exact (below_size (by repeat (first | (with_reducible first | exact HB.out | apply below_alloc | apply pw_below_drewN | apply below_drew1) | exact HB.out))) : w.heap.size ≤ gb366)); clear HB; have HB := n0_; have BK366 := n1_; have GW366 := n2_; have GE366 := n3_; clear n0_ n1_ n2_ n3_; clear hb hbox hg; have hcz36_0 : w35.cell? ⟨gb366, 0, none⟩ = some (.slice A0_0 l0_0.length c0_0) := (blk_cell BK366.out 0).trans rfl; have hcz36_1 : w35.cell? ⟨gb366, 1, none⟩ = some (.slice A0_1 l0_1.length c0_1) := (blk_cell BK366.out 1).trans rfl; have hfz36_0 := blk_frozen BK366.out 0; have hfz36_1 := blk_frozen BK366.out 1) | (go_at_call 80; (with_reducible refine (unicodetextref13_Formed.calls k _ _ l0_0 _ _ l0_1 false _ ?side1 ?side2 ?side3 ?side4 A2.out).mono ?_); (case side1 => repeat (first | exact (Kd.C_below HR0_0.out HB.out) | (with_reducible refine Kd.C_alloc ?_ _) | (with_reducible refine Kd.C_drewN ?_ _) | (with_reducible refine Kd.C_drew ?_))); (case side2 => exact HC0_0.out); (case side3 => repeat (first | exact (Kd.C_below HR0_1.out HB.out) | (with_reducible refine Kd.C_alloc ?_ _) | (with_reducible refine Kd.C_drewN ?_ _) | (with_reducible refine Kd.C_drew ?_))); (case side4 => exact HC0_1.out); rintro e w37 ⟨rfl, hb⟩; have n0_ := Aside0.mk (blk_below (g := gb366) (o := .cells #[.slice A0_0 l0_0.length c0_0, .slice A0_1 l0_1.length c0_1] 46 (0, 0)) (by (with_reducible repeat (first | refine blk_drewN ?_ _ | refine blk_drew ?_ | refine blk_alloc ?_ _)); exact BK366.out) hb); have n1_ := Aside0.mk (below_step (by repeat (first | (with_reducible first | exact HB.out | apply below_alloc | apply pw_below_drewN | apply below_drew1 | refine below_set ?_ GE366.out) | exact HB.out)) hb); clear BK366; clear HB; have BK366 := n0_; have HB := n1_; clear n0_ n1_; (try clear hb); (try clear hb2); (try clear hk); (try clear hi))); try go_wp2_with (first | ((with_reducible refine gate_dst (N := 1) rfl ?_); refine box_event ?hg (N := 1) ?hd (cs := #[.slice A0_0 l0_0.length c0_0, .slice A0_1 l0_1.length c0_1]) (t := 46) ?hr ?_; (case hd => rfl); (case hg => rfl); (case hr => first | (go_simp; done) | (go_simp; rfl)); intro gb366 hg w35 hbox hb; have n0_ := Aside0.mk (below_step (by repeat (first | (with_reducible first | exact HB.out | apply below_alloc | apply pw_below_drewN | apply below_drew1) | exact HB.out)) hb); have n1_ := Aside0.mk (hbox); have n2_ := Aside0.mk ((by rw [hg]; exact (below_size (by repeat (first | (with_reducible first | exact HB.out | apply below_alloc | apply pw_below_drewN | apply below_drew1) | exact HB.out))) : w.heap.size ≤ gb366)); have n3_ := Aside0.mk ((by rw [hg]; exact (below_size (by repeat (first | (with_reducible first | exact HB.out | apply below_alloc | apply pw_below_drewN | apply below_drew1) | exact HB.out))) : w.heap.size ≤ gb366)); clear HB; have HB := n0_; have BK366 := n1_; have GW366 := n2_; have GE366 := n3_; clear n0_ n1_ n2_ n3_; clear hb hbox hg; have hcz36_0 : w35.cell? ⟨gb366, 0, none⟩ = some (.slice A0_0 l0_0.length c0_0) := (blk_cell BK366.out 0).trans rfl; have hcz36_1 : w35.cell? ⟨gb366, 1, none⟩ = some (.slice A0_1 l0_1.length c0_1) := (blk_cell BK366.out 1).trans rfl; have hfz36_0 := blk_frozen BK366.out 0; have hfz36_1 := blk_frozen BK366.out 1) | (go_at_call 80; (with_reducible refine (unicodetextref13_Formed.calls k _ _ l0_0 _ _ l0_1 false _ ?side1 ?side2 ?side3 ?side4 A2.out).mono ?_); (case side1 => repeat (first | exact (Kd.C_below HR0_0.out HB.out) | (with_reducible refine Kd.C_alloc ?_ _) | (with_reducible refine Kd.C_drewN ?_ _) | (with_reducible refine Kd.C_drew ?_))); (case side2 => exact HC0_0.out); (case side3 => repeat (first | exact (Kd.C_below HR0_1.out HB.out) | (with_reducible refine Kd.C_alloc ?_ _) | (with_reducible refine Kd.C_drewN ?_ _) | (with_reducible refine Kd.C_drew ?_))); (case side4 => exact HC0_1.out); rintro e w37 ⟨rfl, hb⟩; have n0_ := Aside0.mk (blk_below (g := gb366) (o := .cells #[.slice A0_0 l0_0.length c0_0, .slice A0_1 l0_1.length c0_1] 46 (0, 0)) (by (with_reducible repeat (first | refine blk_drewN ?_ _ | refine blk_drew ?_ | refine blk_alloc ?_ _)); exact BK366.out) hb); have n1_ := Aside0.mk (below_step (by repeat (first | (with_reducible first | exact HB.out | apply below_alloc | apply pw_below_drewN | apply below_drew1 | refine below_set ?_ GE366.out) | exact HB.out)) hb); clear BK366; clear HB; have BK366 := n0_; have HB := n1_; clear n0_ n1_; (try clear hb); (try clear hb2); (try clear hk); (try clear hi))))
    go_ret
    exact ⟨by first | rfl | (simp [errW_none, errW_some] <;> rfl) | (simp [*, errW_none, errW_some] <;> rfl), by repeat (first | (with_reducible first | exact HB.out | apply below_alloc | apply pw_below_drewN | apply below_drew1 | refine below_set ?_ GE366.out) | exact HB.out)⟩

end Go.Proofs.Ytdlijioedokgjaa.Q

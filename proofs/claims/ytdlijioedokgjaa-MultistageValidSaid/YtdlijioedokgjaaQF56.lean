/- Written by a program of this session (hprint.py), which drives the print over contracts proved by hand. Not trusted: Lean checks it. -/
import Derived.Test.YtdlijioedokgjaaQ0
import Derived.Test.YtdlijioedokgjaaQF76
namespace Go.Proofs.Ytdlijioedokgjaa.Q
open Go.RowKit Go.Proofs.YtdlijioedokgjaaW.PrintWords Go.Proofs.YtdlijioedokgjaaW.PrintLast Go.Proofs.YtdlijioedokgjaaW.PrintMore
attribute [local go_sem] max2_int min2_int max_two min_two max_three min_three max_four min_four   -- for this text's walks alone
set_option linter.unusedVariables false
set_option linter.unusedSimpArgs false

/-! ### multistage_Get: function 56 -/
mutual
def multistage_Get.j0 : Nat → Int → Bool → List Int → List (List Int) → Option (Int)
  | 0, _, _, _, _ => none
  | k + 1, x1, x19, x319000, x319001 => if x19 = true then (some 0) else ((multistage_bits.f k x319000).bind fun t320 => (if 0 < (x319001.length : Int) then (if 0 ≤ t320 then (if 0 ≤ (shr .i64 x1 t320) then (if (shr .i64 x1 t320) < ((rd_L2 x319001 0).length : Int) then (multistage_Get.l0 k x1 t320 (rd (rd_L2 x319001 0) (shr .i64 x1 t320)) x319000 (x319000.length : Int) 0 x319000 x319001) else (none)) else (none)) else (none)) else (none)))
def multistage_Get.l0 : Nat → Int → Int → Int → List Int → Int → Int → List Int → List (List Int) → Option (Int)
  | 0, _, _, _, _, _, _, _, _ => none
  | k + 1, x1, x5, x6, x33, x34, x35, x319000, x319001 => if x35 < x34 then (if 0 ≤ x35 then (if x35 < (x33.length : Int) then (if 0 ≤ (wrap64 (x35 + 1)) then (if (wrap64 (x35 + 1)) < (x319001.length : Int) then (if 0 ≤ (rd x33 x35) then (if 0 ≤ (wrap64 (x5 - (rd x33 x35))) then (if 0 ≤ (wrap64 ((shl .i64 x6 (rd x33 x35)) + (Go.bits .and .i64 (shr .i64 x1 (wrap64 (x5 - (rd x33 x35)))) (wrap64 ((shl .i64 1 (rd x33 x35)) - 1))))) then (if (wrap64 ((shl .i64 x6 (rd x33 x35)) + (Go.bits .and .i64 (shr .i64 x1 (wrap64 (x5 - (rd x33 x35)))) (wrap64 ((shl .i64 1 (rd x33 x35)) - 1))))) < ((rd_L2 x319001 (wrap64 (x35 + 1))).length : Int) then (multistage_Get.l0 k x1 (wrap64 (x5 - (rd x33 x35))) (rd (rd_L2 x319001 (wrap64 (x35 + 1))) (wrap64 ((shl .i64 x6 (rd x33 x35)) + (Go.bits .and .i64 (shr .i64 x1 (wrap64 (x5 - (rd x33 x35)))) (wrap64 ((shl .i64 1 (rd x33 x35)) - 1)))))) x33 x34 (wrap64 (x35 + 1)) x319000 x319001) else (none)) else (none)) else (none)) else (none)) else (none)) else (none)) else (none)) else (none)) else (some x6)
end
def multistage_Get.f (k : Nat) (l0_0 : List Int) (l0_1 : List (List Int)) (a1 : Int) : Option (Int) := if a1 < 0 then (multistage_Get.j0 k a1 true l0_0 l0_1) else (if a1 > 1114111 then (multistage_Get.j0 k a1 true l0_0 l0_1) else ((multistage_Valid.f k l0_0 l0_1).bind fun t319 => (multistage_Get.j0 k a1 (!t319) l0_0 l0_1)))
theorem multistage_Get.mono_l : ∀ k, (∀ y0 y1 y2 y3, LeO (multistage_Get.j0 k y0 y1 y2 y3) (multistage_Get.j0 (k + 1) y0 y1 y2 y3)) ∧ (∀ y0 y1 y2 y3 y4 y5 y6 y7, LeO (multistage_Get.l0 k y0 y1 y2 y3 y4 y5 y6 y7) (multistage_Get.l0 (k + 1) y0 y1 y2 y3 y4 y5 y6 y7))
  | 0 => ⟨fun _ _ _ _ r h => by simp [multistage_Get.j0] at h, fun _ _ _ _ _ _ _ _ r h => by simp [multistage_Get.l0] at h⟩
  | k + 1 => by
    obtain ⟨ih0, ih1⟩ := multistage_Get.mono_l k
    refine ⟨?_, ?_⟩
    · intro y0 y1 y2 y3
      unfold multistage_Get.j0
      repeat' first
      | (with_reducible exact ih0 _ _ _ _)
      | (with_reducible exact ih1 _ _ _ _ _ _ _ _)
      | (with_reducible exact multistage_Valid.mono _ _ _)
      | (with_reducible exact multistage_bits.mono _ _)
      | (with_reducible exact LeO.refl _)
      | (with_reducible exact LeO.none _)
      | (with_reducible refine LeO.ite ?_ ?_)
      | (with_reducible refine LeO.bind ?_ (fun _ => ?_))
      | exact ih0 _ _ _ _
      | exact ih1 _ _ _ _ _ _ _ _
      | exact multistage_Valid.mono _ _ _
      | exact multistage_bits.mono _ _
      | exact LeO.none _
      | refine LeO.ite ?_ ?_
      | refine LeO.bind ?_ (fun _ => ?_)
    · intro y0 y1 y2 y3 y4 y5 y6 y7
      unfold multistage_Get.l0
      repeat' first
      | (with_reducible exact ih0 _ _ _ _)
      | (with_reducible exact ih1 _ _ _ _ _ _ _ _)
      | (with_reducible exact multistage_Valid.mono _ _ _)
      | (with_reducible exact multistage_bits.mono _ _)
      | (with_reducible exact LeO.refl _)
      | (with_reducible exact LeO.none _)
      | (with_reducible refine LeO.ite ?_ ?_)
      | (with_reducible refine LeO.bind ?_ (fun _ => ?_))
      | exact ih0 _ _ _ _
      | exact ih1 _ _ _ _ _ _ _ _
      | exact multistage_Valid.mono _ _ _
      | exact multistage_bits.mono _ _
      | exact LeO.none _
      | refine LeO.ite ?_ ?_
      | refine LeO.bind ?_ (fun _ => ?_)
theorem multistage_Get.mono : ∀ a0 a1 a2 k, LeO (multistage_Get.f k a0 a1 a2) (multistage_Get.f (k + 1) a0 a1 a2) := by
  intro a0 a1 a2 k
  obtain ⟨ih0, ih1⟩ := multistage_Get.mono_l k
  unfold multistage_Get.f
  repeat' first
      | (with_reducible exact ih0 _ _ _ _)
      | (with_reducible exact ih1 _ _ _ _ _ _ _ _)
      | (with_reducible exact multistage_Valid.mono _ _ _)
      | (with_reducible exact multistage_bits.mono _ _)
      | (with_reducible exact LeO.refl _)
      | (with_reducible exact LeO.none _)
      | (with_reducible refine LeO.ite ?_ ?_)
      | (with_reducible refine LeO.bind ?_ (fun _ => ?_))
      | exact ih0 _ _ _ _
      | exact ih1 _ _ _ _ _ _ _ _
      | exact multistage_Valid.mono _ _ _
      | exact multistage_bits.mono _ _
      | exact LeO.none _
      | refine LeO.ite ?_ ?_
      | refine LeO.bind ?_ (fun _ => ?_)
set_option maxHeartbeats 8000000 in
set_option maxRecDepth 100000 in
theorem multistage_Get.calls (k : Nat) (A0_0 : Option Addr) (c0_0 : Nat) (l0_0 : List Int) (A0_1 : Option Addr) (c0_1 : Nat) (l0_1 : List (List Int)) (a1 : Int) (r : Int) (w : World) (hr0_0 : Kd.C (Kd.int .i64) w A0_0 l0_0.length l0_0) (hc0_0 : l0_0.length ≤ c0_0) (hr0_1 : Kd.C (Kd.slice 3 (Kd.int .i64)) w A0_1 l0_1.length l0_1) (hc0_1 : l0_1.length ≤ c0_1) (h : multistage_Get.f k l0_0 l0_1 a1 = some r) :
    Calls Try.prog 56 #[.agg #[.slice A0_0 l0_0.length c0_0, .slice A0_1 l0_1.length c0_1], .int .i64 a1] w fun e w' => e = .returned (.int .i64 r) ∧ Below w.heap.size w w' := by
  have hu46 := Try.underlying46
  have HR0_0 := Aside0.mk hr0_0
  have HC0_0 := Aside0.mk hc0_0
  clear hr0_0 hc0_0
  have HR0_1 := Aside0.mk hr0_1
  have HC0_1 := Aside0.mk hc0_1
  clear hr0_1 hc0_1
  have HB := Aside0.mk (Below.refl w.heap.size w)
  have H : (if a1 < 0 then (multistage_Get.j0 k a1 true l0_0 l0_1) else (if a1 > 1114111 then (multistage_Get.j0 k a1 true l0_0 l0_1) else ((multistage_Valid.f k l0_0 l0_1).bind fun t319 => (multistage_Get.j0 k a1 (!t319) l0_0 l0_1)))) = some r := h
  clear h
  have HC3 := Aside0.mk H
  clear H
  go_enter Try.func56, Try.ntmps56
  go_upto_region 1 with (first | ((with_reducible refine gate_dst (N := 2) rfl ?_); refine box_event ?hg (N := 2) ?hd (cs := #[.slice A0_0 l0_0.length c0_0, .slice A0_1 l0_1.length c0_1]) (t := 46) ?hr ?_; (case hd => rfl); (case hg => rfl); (case hr => first | (go_simp; done) | (go_simp; rfl)); intro gb318 hg w4 hbox hb; have n0_ := Aside0.mk (below_step (by repeat (first | (with_reducible first | exact HB.out | apply below_alloc | apply pw_below_drewN | apply below_drew1) | exact HB.out)) hb); have n1_ := Aside0.mk (hbox); have n2_ := Aside0.mk ((by rw [hg]; exact (below_size (by repeat (first | (with_reducible first | exact HB.out | apply below_alloc | apply pw_below_drewN | apply below_drew1) | exact HB.out))) : w.heap.size ≤ gb318)); have n3_ := Aside0.mk ((by rw [hg]; exact (below_size (by repeat (first | (with_reducible first | exact HB.out | apply below_alloc | apply pw_below_drewN | apply below_drew1) | exact HB.out))) : w.heap.size ≤ gb318)); clear HB; have HB := n0_; have BK318 := n1_; have GW318 := n2_; have GE318 := n3_; clear n0_ n1_ n2_ n3_; clear hb hbox hg))
  repeat (go_quiet (first | ((with_reducible refine gate_dst (N := 2) rfl ?_); refine box_event ?hg (N := 2) ?hd (cs := #[.slice A0_0 l0_0.length c0_0, .slice A0_1 l0_1.length c0_1]) (t := 46) ?hr ?_; (case hd => rfl); (case hg => rfl); (case hr => first | (go_simp; done) | (go_simp; rfl)); intro gb318 hg w4 hbox hb; have n0_ := Aside0.mk (below_step (by repeat (first | (with_reducible first | exact HB.out | apply below_alloc | apply pw_below_drewN | apply below_drew1) | exact HB.out)) hb); have n1_ := Aside0.mk (hbox); have n2_ := Aside0.mk ((by rw [hg]; exact (below_size (by repeat (first | (with_reducible first | exact HB.out | apply below_alloc | apply pw_below_drewN | apply below_drew1) | exact HB.out))) : w.heap.size ≤ gb318)); have n3_ := Aside0.mk ((by rw [hg]; exact (below_size (by repeat (first | (with_reducible first | exact HB.out | apply below_alloc | apply pw_below_drewN | apply below_drew1) | exact HB.out))) : w.heap.size ≤ gb318)); clear HB; have HB := n0_; have BK318 := n1_; have GW318 := n2_; have GE318 := n3_; clear n0_ n1_ n2_ n3_; clear hb hbox hg)); go_upto_region 1 with (first | ((with_reducible refine gate_dst (N := 2) rfl ?_); refine box_event ?hg (N := 2) ?hd (cs := #[.slice A0_0 l0_0.length c0_0, .slice A0_1 l0_1.length c0_1]) (t := 46) ?hr ?_; (case hd => rfl); (case hg => rfl); (case hr => first | (go_simp; done) | (go_simp; rfl)); intro gb318 hg w4 hbox hb; have n0_ := Aside0.mk (below_step (by repeat (first | (with_reducible first | exact HB.out | apply below_alloc | apply pw_below_drewN | apply below_drew1) | exact HB.out)) hb); have n1_ := Aside0.mk (hbox); have n2_ := Aside0.mk ((by rw [hg]; exact (below_size (by repeat (first | (with_reducible first | exact HB.out | apply below_alloc | apply pw_below_drewN | apply below_drew1) | exact HB.out))) : w.heap.size ≤ gb318)); have n3_ := Aside0.mk ((by rw [hg]; exact (below_size (by repeat (first | (with_reducible first | exact HB.out | apply below_alloc | apply pw_below_drewN | apply below_drew1) | exact HB.out))) : w.heap.size ≤ gb318)); clear HB; have HB := n0_; have BK318 := n1_; have GW318 := n2_; have GE318 := n3_; clear n0_ n1_ n2_ n3_; clear hb hbox hg)))
  (try simp only [Act.put, List.setIfInBounds_toArray, List.set_cons_zero, List.set_cons_succ])
  go_cut [19] (fun v19 wc => ∃ (kq : Nat) (x19_2 : Bool), v19 = .bool x19_2 ∧ Aside0 (multistage_Get.j0 kq a1 x19_2 l0_0 l0_1 = some r) ∧ Aside0 (kq ≤ k) ∧ Aside0 (wc.heap[gb318]? = some (.cells #[(.slice A0_0 l0_0.length c0_0), (.slice A0_1 l0_1.length c0_1)] 46 (0, 0))) ∧ Aside0 (Below w.heap.size w wc))
  case first =>
    have H := HC3.out
    clear HC3
    by_cases c5 : a1 < 0
    · rw [if_pos c5] at H
      have c5b0 : decide (a1 < 0) = true := decide_eq_true c5
      clear c5
      (first | rw [c5b0] | (simp only [i64_w, i32_w]; rw [c5b0]) | skip)
      have H' := Aside0.mk H
      clear H
      go_wp2
      repeat (go_quiet (fail); try go_wp2)
      go_meet
      case rel => exact ⟨_, (true), (by first | rfl | (simp; done) | (simp [*]; done)), H', ⟨by first | omega | exact Nat.le_refl _⟩, ⟨by (with_reducible repeat (first | refine blk_drewN ?_ _ | refine blk_drew ?_ | refine blk_alloc ?_ _)); exact BK318.out⟩, ⟨by repeat (first | (with_reducible first | exact HB.out | apply below_alloc | apply pw_below_drewN | apply below_drew1 | refine below_set ?_ GE318.out) | exact HB.out)⟩⟩
    · rw [if_neg c5] at H
      have c5b0 : decide (a1 < 0) = false := decide_eq_false c5
      clear c5
      (first | rw [c5b0] | (simp only [i64_w, i32_w]; rw [c5b0]) | skip)
      by_cases c6 : a1 > 1114111
      · rw [if_pos c6] at H
        have c6b0 : decide (1114111 < a1) = true := decide_eq_true c6
        clear c6
        have H' := Aside0.mk H
        clear H
        go_wp2
        repeat (go_quiet (fail); try go_wp2)
        go_meet
        case rel => exact ⟨_, (true), (by first | rfl | (simp; done) | (simp [*]; done)), H', ⟨by first | omega | exact Nat.le_refl _⟩, ⟨by (with_reducible repeat (first | refine blk_drewN ?_ _ | refine blk_drew ?_ | refine blk_alloc ?_ _)); exact BK318.out⟩, ⟨by repeat (first | (with_reducible first | exact HB.out | apply below_alloc | apply pw_below_drewN | apply below_drew1 | refine below_set ?_ GE318.out) | exact HB.out)⟩⟩
      · rw [if_neg c6] at H
        have c6b0 : decide (1114111 < a1) = false := decide_eq_false c6
        clear c6
        replace H := Option.bind_eq_some_iff.mp H
        obtain ⟨t319, A70, H⟩ := H
        replace H : (multistage_Get.j0 k a1 (!t319) l0_0 l0_1) = some r := H
        have A7 := Aside0.mk A70
        clear A70
        have H' := Aside0.mk H
        clear H
        have hcz8_0 : w4.cell? ⟨gb318, 0, none⟩ = some (.slice A0_0 l0_0.length c0_0) := (blk_cell BK318.out 0).trans rfl
        have hcz8_1 : w4.cell? ⟨gb318, 1, none⟩ = some (.slice A0_1 l0_1.length c0_1) := (blk_cell BK318.out 1).trans rfl
        have hfz8_0 := blk_frozen BK318.out 0
        have hfz8_1 := blk_frozen BK318.out 1
        go_wp2_with (first | (go_at_call 76; (with_reducible refine (multistage_Valid.calls k _ _ l0_0 _ _ l0_1 t319 _ ?side1 ?side2 ?side3 ?side4 A7.out).mono ?_); (case side1 => repeat (first | exact (Kd.C_below HR0_0.out HB.out) | (with_reducible refine Kd.C_alloc ?_ _) | (with_reducible refine Kd.C_drewN ?_ _) | (with_reducible refine Kd.C_drew ?_))); (case side2 => exact HC0_0.out); (case side3 => repeat (first | exact (Kd.C_below HR0_1.out HB.out) | (with_reducible refine Kd.C_alloc ?_ _) | (with_reducible refine Kd.C_drewN ?_ _) | (with_reducible refine Kd.C_drew ?_))); (case side4 => exact HC0_1.out); rintro e w9 ⟨rfl, hb⟩; have n0_ := Aside0.mk (blk_below (g := gb318) (o := .cells #[.slice A0_0 l0_0.length c0_0, .slice A0_1 l0_1.length c0_1] 46 (0, 0)) (by (with_reducible repeat (first | refine blk_drewN ?_ _ | refine blk_drew ?_ | refine blk_alloc ?_ _)); exact BK318.out) hb); have n1_ := Aside0.mk (below_step (by repeat (first | (with_reducible first | exact HB.out | apply below_alloc | apply pw_below_drewN | apply below_drew1 | refine below_set ?_ GE318.out) | exact HB.out)) hb); clear BK318; clear HB; have BK318 := n0_; have HB := n1_; clear n0_ n1_; (try clear hb); (try clear hb2); (try clear hk); (try clear hi)))
        repeat (go_quiet (first | (go_at_call 76; (with_reducible refine (multistage_Valid.calls k _ _ l0_0 _ _ l0_1 t319 _ ?side1 ?side2 ?side3 ?side4 A7.out).mono ?_); (case side1 => repeat (first | exact (Kd.C_below HR0_0.out HB.out) | (with_reducible refine Kd.C_alloc ?_ _) | (with_reducible refine Kd.C_drewN ?_ _) | (with_reducible refine Kd.C_drew ?_))); (case side2 => exact HC0_0.out); (case side3 => repeat (first | exact (Kd.C_below HR0_1.out HB.out) | (with_reducible refine Kd.C_alloc ?_ _) | (with_reducible refine Kd.C_drewN ?_ _) | (with_reducible refine Kd.C_drew ?_))); (case side4 => exact HC0_1.out); rintro e w9 ⟨rfl, hb⟩; have n0_ := Aside0.mk (blk_below (g := gb318) (o := .cells #[.slice A0_0 l0_0.length c0_0, .slice A0_1 l0_1.length c0_1] 46 (0, 0)) (by (with_reducible repeat (first | refine blk_drewN ?_ _ | refine blk_drew ?_ | refine blk_alloc ?_ _)); exact BK318.out) hb); have n1_ := Aside0.mk (below_step (by repeat (first | (with_reducible first | exact HB.out | apply below_alloc | apply pw_below_drewN | apply below_drew1 | refine below_set ?_ GE318.out) | exact HB.out)) hb); clear BK318; clear HB; have BK318 := n0_; have HB := n1_; clear n0_ n1_; (try clear hb); (try clear hb2); (try clear hk); (try clear hi))); try go_wp2_with (first | (go_at_call 76; (with_reducible refine (multistage_Valid.calls k _ _ l0_0 _ _ l0_1 t319 _ ?side1 ?side2 ?side3 ?side4 A7.out).mono ?_); (case side1 => repeat (first | exact (Kd.C_below HR0_0.out HB.out) | (with_reducible refine Kd.C_alloc ?_ _) | (with_reducible refine Kd.C_drewN ?_ _) | (with_reducible refine Kd.C_drew ?_))); (case side2 => exact HC0_0.out); (case side3 => repeat (first | exact (Kd.C_below HR0_1.out HB.out) | (with_reducible refine Kd.C_alloc ?_ _) | (with_reducible refine Kd.C_drewN ?_ _) | (with_reducible refine Kd.C_drew ?_))); (case side4 => exact HC0_1.out); rintro e w9 ⟨rfl, hb⟩; have n0_ := Aside0.mk (blk_below (g := gb318) (o := .cells #[.slice A0_0 l0_0.length c0_0, .slice A0_1 l0_1.length c0_1] 46 (0, 0)) (by (with_reducible repeat (first | refine blk_drewN ?_ _ | refine blk_drew ?_ | refine blk_alloc ?_ _)); exact BK318.out) hb); have n1_ := Aside0.mk (below_step (by repeat (first | (with_reducible first | exact HB.out | apply below_alloc | apply pw_below_drewN | apply below_drew1 | refine below_set ?_ GE318.out) | exact HB.out)) hb); clear BK318; clear HB; have BK318 := n0_; have HB := n1_; clear n0_ n1_; (try clear hb); (try clear hb2); (try clear hk); (try clear hi))))
        go_meet
        case rel => exact ⟨_, (!t319), (by first | rfl | (simp; done) | (simp [*]; done)), H', ⟨by first | omega | exact Nat.le_refl _⟩, ⟨by (with_reducible repeat (first | refine blk_drewN ?_ _ | refine blk_drew ?_ | refine blk_alloc ?_ _)); exact BK318.out⟩, ⟨by repeat (first | (with_reducible first | exact HB.out | apply below_alloc | apply pw_below_drewN | apply below_drew1 | refine below_set ?_ GE318.out) | exact HB.out)⟩⟩
  case rest =>
    clear HC3
    try clear p2
    try clear c5
    try clear c5b0
    try clear c6
    try clear c6b0
    try clear hcz8_0
    try clear hcz8_1
    try clear hfz8_0
    try clear hfz8_1
    obtain ⟨kq, x19_2, rfl, HA, HJ2, BK318, HB⟩ := hcut
    cases kq with
    | zero => exact absurd HA.out (by simp [multistage_Get.j0])
    | succ kj2 =>
      have H := HA.out
      clear HA
      simp only [multistage_Get.j0] at H
      by_cases c10 : x19_2 = true
      · subst c10
        have H1 : (some 0) = some r := by rw [if_pos rfl] at H; exact H
        clear H
        have H := H1
        clear H1
        obtain rfl := Option.some.inj H
        go_wp2
        repeat (go_quiet (fail); try go_wp2)
        go_ret
        exact ⟨by first | rfl | (simp [errW_none, errW_some] <;> rfl) | (simp [*, errW_none, errW_some] <;> rfl), by repeat (first | (with_reducible first | exact HB.out | apply below_alloc | apply pw_below_drewN | apply below_drew1 | refine below_set ?_ GE318.out) | exact HB.out)⟩
      · replace c10 := Bool.eq_false_iff.mpr c10
        subst c10
        have H1 : ((multistage_bits.f kj2 l0_0).bind fun t320 => (if 0 < (l0_1.length : Int) then (if 0 ≤ t320 then (if 0 ≤ (shr .i64 a1 t320) then (if (shr .i64 a1 t320) < ((rd_L2 l0_1 0).length : Int) then (multistage_Get.l0 kj2 a1 t320 (rd (rd_L2 l0_1 0) (shr .i64 a1 t320)) l0_0 (l0_0.length : Int) 0 l0_0 l0_1) else (none)) else (none)) else (none)) else (none))) = some r := by rw [if_neg (show ¬ (false = true) by decide)] at H; exact H
        clear H
        have H := H1
        clear H1
        replace H := Option.bind_eq_some_iff.mp H
        obtain ⟨t320, A110, H⟩ := H
        replace H : (if 0 < (l0_1.length : Int) then (if 0 ≤ t320 then (if 0 ≤ (shr .i64 a1 t320) then (if (shr .i64 a1 t320) < ((rd_L2 l0_1 0).length : Int) then (multistage_Get.l0 kj2 a1 t320 (rd (rd_L2 l0_1 0) (shr .i64 a1 t320)) l0_0 (l0_0.length : Int) 0 l0_0 l0_1) else (none)) else (none)) else (none)) else (none)) = some r := H
        have A11 := Aside0.mk A110
        clear A110
        by_cases c12 : 0 < (l0_1.length : Int)
        · rw [if_pos c12] at H
          have c12b0 : decide (0 < (l0_1.length : Int)) = true := decide_eq_true c12
          have c12b1 : decide (0 < l0_1.length) = true := decide_eq_true (by omega)
          clear c12
          by_cases c13 : 0 ≤ t320
          · rw [if_pos c13] at H
            have c13b0 := eq_true c13
            have c13b1 : decide (0 ≤ t320) = true := decide_eq_true c13
            clear c13
            obtain ⟨ji14, hji14⟩ : ∃ j_ : Int, (shr .i64 a1 t320) = j_ := ⟨_, rfl⟩
            replace H : (if 0 ≤ (ji14) then (if (ji14) < ((rd_L2 l0_1 0).length : Int) then (multistage_Get.l0 kj2 a1 t320 (rd (rd_L2 l0_1 0) (ji14)) l0_0 (l0_0.length : Int) 0 l0_0 l0_1) else (none)) else (none)) = some r := by first | (rw [hji14] at H; exact H) | (simp only [hji14] at H ⊢; exact H)
            (try rw [hji14] at A11)
            have hji14_ : (a1 / 2 ^ min t320.toNat 64) = ji14 := hji14
            have hji14z : t320 ≤ 64 → (a1 / 2 ^ t320.toNat) = ji14 := shr_small hji14
            by_cases c15 : 0 ≤ (ji14)
            · rw [if_pos c15] at H
              have c15b0 : decide (0 ≤ (ji14)) = true := decide_eq_true c15
              clear c15
              by_cases c16 : (ji14) < ((rd_L2 l0_1 0).length : Int)
              · rw [if_pos c16] at H
                have c16b0 : decide ((ji14) < ((rd_L2 l0_1 0).length : Int)) = true := decide_eq_true c16
                clear c16
                have H' := Aside0.mk H
                clear H
                have hcz17_0 : wc.cell? ⟨gb318, 0, none⟩ = some (.slice A0_0 l0_0.length c0_0) := (blk_cell BK318.out 0).trans rfl
                have hcz17_1 : wc.cell? ⟨gb318, 1, none⟩ = some (.slice A0_1 l0_1.length c0_1) := (blk_cell BK318.out 1).trans rfl
                have hfz17_0 := blk_frozen BK318.out 0
                have hfz17_1 := blk_frozen BK318.out 1
                go_wp2_with (first | (go_at_call 99; (with_reducible refine (multistage_bits.calls kj2 _ _ l0_0 t320 _ ?side1 ?side2 A11.out).mono ?_); (case side1 => repeat (first | exact (Kd.C_below HR0_0.out HB.out) | (with_reducible refine Kd.C_alloc ?_ _) | (with_reducible refine Kd.C_drewN ?_ _) | (with_reducible refine Kd.C_drew ?_))); (case side2 => exact HC0_0.out); rintro e w' ⟨rfl, ⟨nd, rfl⟩⟩; (try first | exact ⟨rfl, _, World.drewN_drewN _ _ _⟩ | exact ⟨rfl, _, Eq.trans (World.drewN_drewN _ _ _) (congrArg (World.drewN _) (Nat.add_assoc _ _ _))⟩); have p321 : 0 ≤ (0 : Int) := (by omega); have q321 : 0 < (l0_1.length : Int) := of_decide_eq_true (by first | (with_reducible assumption) | assumption); obtain ⟨ad321, A321_0, c321_0, e321, hx321_0, hl321_0, hi321_0⟩ := at_L2 HR0_1.out 0 p321 q321; cases e321; have qi321 : (0 < l0_1.length) = True := eq_true (by omega); (try rw [show ((0 : Int)).toNat = 0 from rfl] at hx321_0); (try rw [Addr.add_zero'] at hx321_0); replace hx321_0 := (HB.out.cell (World.block_lt_of_cell? w _ hx321_0)).trans hx321_0; have HR321_0 := Aside0.mk hi321_0; have HC321_0 := Aside0.mk hl321_0; clear hi321_0 hl321_0; replace p321 := eq_true p321; replace q321 := eq_true q321; have p322 : 0 ≤ ((ji14) : Int) := of_decide_eq_true (by first | (with_reducible assumption) | assumption); have q322 : (ji14) < ((rd_L2 l0_1 0).length : Int) := of_decide_eq_true (by first | (with_reducible assumption) | assumption); obtain ⟨ad322, e322, hx322_0⟩ := Kd.at_int HR321_0.out (ji14) p322 q322; cases e322; replace hx322_0 := (HB.out.cell (World.block_lt_of_cell? w _ hx322_0)).trans hx322_0; replace p322 := eq_true p322; replace q322 := eq_true q322))
                repeat (go_quiet (first | (go_at_call 99; (with_reducible refine (multistage_bits.calls kj2 _ _ l0_0 t320 _ ?side1 ?side2 A11.out).mono ?_); (case side1 => repeat (first | exact (Kd.C_below HR0_0.out HB.out) | (with_reducible refine Kd.C_alloc ?_ _) | (with_reducible refine Kd.C_drewN ?_ _) | (with_reducible refine Kd.C_drew ?_))); (case side2 => exact HC0_0.out); rintro e w' ⟨rfl, ⟨nd, rfl⟩⟩; (try first | exact ⟨rfl, _, World.drewN_drewN _ _ _⟩ | exact ⟨rfl, _, Eq.trans (World.drewN_drewN _ _ _) (congrArg (World.drewN _) (Nat.add_assoc _ _ _))⟩); have p321 : 0 ≤ (0 : Int) := (by omega); have q321 : 0 < (l0_1.length : Int) := of_decide_eq_true (by first | (with_reducible assumption) | assumption); obtain ⟨ad321, A321_0, c321_0, e321, hx321_0, hl321_0, hi321_0⟩ := at_L2 HR0_1.out 0 p321 q321; cases e321; have qi321 : (0 < l0_1.length) = True := eq_true (by omega); (try rw [show ((0 : Int)).toNat = 0 from rfl] at hx321_0); (try rw [Addr.add_zero'] at hx321_0); replace hx321_0 := (HB.out.cell (World.block_lt_of_cell? w _ hx321_0)).trans hx321_0; have HR321_0 := Aside0.mk hi321_0; have HC321_0 := Aside0.mk hl321_0; clear hi321_0 hl321_0; replace p321 := eq_true p321; replace q321 := eq_true q321; have p322 : 0 ≤ ((ji14) : Int) := of_decide_eq_true (by first | (with_reducible assumption) | assumption); have q322 : (ji14) < ((rd_L2 l0_1 0).length : Int) := of_decide_eq_true (by first | (with_reducible assumption) | assumption); obtain ⟨ad322, e322, hx322_0⟩ := Kd.at_int HR321_0.out (ji14) p322 q322; cases e322; replace hx322_0 := (HB.out.cell (World.block_lt_of_cell? w _ hx322_0)).trans hx322_0; replace p322 := eq_true p322; replace q322 := eq_true q322)); try go_wp2_with (first | (go_at_call 99; (with_reducible refine (multistage_bits.calls kj2 _ _ l0_0 t320 _ ?side1 ?side2 A11.out).mono ?_); (case side1 => repeat (first | exact (Kd.C_below HR0_0.out HB.out) | (with_reducible refine Kd.C_alloc ?_ _) | (with_reducible refine Kd.C_drewN ?_ _) | (with_reducible refine Kd.C_drew ?_))); (case side2 => exact HC0_0.out); rintro e w' ⟨rfl, ⟨nd, rfl⟩⟩; (try first | exact ⟨rfl, _, World.drewN_drewN _ _ _⟩ | exact ⟨rfl, _, Eq.trans (World.drewN_drewN _ _ _) (congrArg (World.drewN _) (Nat.add_assoc _ _ _))⟩); have p321 : 0 ≤ (0 : Int) := (by omega); have q321 : 0 < (l0_1.length : Int) := of_decide_eq_true (by first | (with_reducible assumption) | assumption); obtain ⟨ad321, A321_0, c321_0, e321, hx321_0, hl321_0, hi321_0⟩ := at_L2 HR0_1.out 0 p321 q321; cases e321; have qi321 : (0 < l0_1.length) = True := eq_true (by omega); (try rw [show ((0 : Int)).toNat = 0 from rfl] at hx321_0); (try rw [Addr.add_zero'] at hx321_0); replace hx321_0 := (HB.out.cell (World.block_lt_of_cell? w _ hx321_0)).trans hx321_0; have HR321_0 := Aside0.mk hi321_0; have HC321_0 := Aside0.mk hl321_0; clear hi321_0 hl321_0; replace p321 := eq_true p321; replace q321 := eq_true q321; have p322 : 0 ≤ ((ji14) : Int) := of_decide_eq_true (by first | (with_reducible assumption) | assumption); have q322 : (ji14) < ((rd_L2 l0_1 0).length : Int) := of_decide_eq_true (by first | (with_reducible assumption) | assumption); obtain ⟨ad322, e322, hx322_0⟩ := Kd.at_int HR321_0.out (ji14) p322 q322; cases e322; replace hx322_0 := (HB.out.cell (World.block_lt_of_cell? w _ hx322_0)).trans hx322_0; replace p322 := eq_true p322; replace q322 := eq_true q322)))
                go_loopg [5, 6, 35] kj2 (fun kq v5 v6 v35 w' => ∃ (x5_2 : Int) (x6_2 : Int) (x35_2 : Int), v5 = .int .i64 x5_2 ∧ v6 = .int .i64 x6_2 ∧ v35 = .int .i64 x35_2 ∧ Aside0 (multistage_Get.l0 kq a1 x5_2 x6_2 l0_0 (l0_0.length : Int) x35_2 l0_0 l0_1 = some r) ∧ Aside0 (kq ≤ kj2) ∧ Aside0 (w'.heap[gb318]? = some (.cells #[(.slice A0_0 l0_0.length c0_0), (.slice (some ad321) l0_1.length c0_1)] 46 (0, 0))) ∧ Aside0 (Below w.heap.size w w'))
                case atStart => exact ⟨(t320), (rd (rd_L2 l0_1 0) (ji14)), (0), (by first | rfl | (simp; done) | (simp [*]; done)), (by first | rfl | (simp; done) | (simp only [← hji14] <;> (first | rfl | simp)) | (simp [*]; done)), (by first | rfl | (simp; done) | (simp [*]; done)), H', ⟨Nat.le_refl _⟩, ⟨by (with_reducible repeat (first | refine blk_drewN ?_ _ | refine blk_drew ?_ | refine blk_alloc ?_ _)); exact BK318.out⟩, ⟨by repeat (first | (with_reducible first | exact HB.out | apply below_alloc | apply pw_below_drewN | apply below_drew1 | refine below_set ?_ GE318.out) | exact HB.out)⟩⟩
                case round =>
                  clear H'
                  try clear c1
                  try clear p2
                  try clear c3
                  try clear p3
                  try clear q3
                  try clear hx3
                  try clear qi3
                  try clear c5
                  try clear c5b0
                  try clear c6
                  try clear c6b0
                  try clear c10
                  try clear c12
                  try clear c12b0
                  try clear c12b1
                  try clear c13
                  try clear c13b0
                  try clear c13b1
                  try clear c15
                  try clear c15b0
                  try clear c16
                  try clear c16b0
                  try clear hcz17_0
                  try clear hcz17_1
                  try clear hcz8_0
                  try clear hcz8_1
                  try clear hfz17_0
                  try clear hfz17_1
                  try clear hfz8_0
                  try clear hfz8_1
                  try clear hx321_0
                  try clear hx322_0
                  try clear p2
                  try clear p321
                  try clear p322
                  try clear q321
                  try clear q322
                  obtain ⟨x5_2, x6_2, x35_2, rfl, rfl, rfl, HA, HK2, BK318, HB⟩ := hrel
                  cases gk with
                  | zero => exact absurd HA.out (by simp [multistage_Get.l0])
                  | succ k2 =>
                    have H := HA.out
                    clear HA
                    simp only [multistage_Get.l0] at H
                    by_cases c18 : x35_2 < (l0_0.length : Int)
                    · rw [if_pos c18] at H
                      have c18b0 : decide (x35_2 < (l0_0.length : Int)) = true := decide_eq_true c18
                      clear c18
                      by_cases c19 : 0 ≤ x35_2
                      · rw [if_pos c19] at H
                        have c19b0 : decide (0 ≤ x35_2) = true := decide_eq_true c19
                        clear c19
                        by_cases c20 : x35_2 < (l0_0.length : Int)
                        · rw [if_pos c20] at H
                          have c20b0 : decide (x35_2 < (l0_0.length : Int)) = true := decide_eq_true c20
                          clear c20
                          obtain ⟨ji21, hji21⟩ : ∃ j_ : Int, (wrap64 (x35_2 + 1)) = j_ := ⟨_, rfl⟩
                          replace H : (if 0 ≤ (ji21) then (if (ji21) < (l0_1.length : Int) then (if 0 ≤ (rd l0_0 x35_2) then (if 0 ≤ (wrap64 (x5_2 - (rd l0_0 x35_2))) then (if 0 ≤ (wrap64 ((shl .i64 x6_2 (rd l0_0 x35_2)) + (Go.bits .and .i64 (shr .i64 a1 (wrap64 (x5_2 - (rd l0_0 x35_2)))) (wrap64 ((shl .i64 1 (rd l0_0 x35_2)) - 1))))) then (if (wrap64 ((shl .i64 x6_2 (rd l0_0 x35_2)) + (Go.bits .and .i64 (shr .i64 a1 (wrap64 (x5_2 - (rd l0_0 x35_2)))) (wrap64 ((shl .i64 1 (rd l0_0 x35_2)) - 1))))) < ((rd_L2 l0_1 (ji21)).length : Int) then (multistage_Get.l0 k2 a1 (wrap64 (x5_2 - (rd l0_0 x35_2))) (rd (rd_L2 l0_1 (ji21)) (wrap64 ((shl .i64 x6_2 (rd l0_0 x35_2)) + (Go.bits .and .i64 (shr .i64 a1 (wrap64 (x5_2 - (rd l0_0 x35_2)))) (wrap64 ((shl .i64 1 (rd l0_0 x35_2)) - 1)))))) l0_0 (l0_0.length : Int) ji21 l0_0 l0_1) else (none)) else (none)) else (none)) else (none)) else (none)) else (none)) = some r := by first | (rw [hji21] at H; exact H) | (simp only [hji21] at H ⊢; exact H)
                          have hji21w : (IntKind.i64.wrap (x35_2 + 1)) = ji21 := (i64_w _).trans hji21
                          by_cases c22 : 0 ≤ (ji21)
                          · rw [if_pos c22] at H
                            have c22b0 : decide (0 ≤ (ji21)) = true := decide_eq_true c22
                            clear c22
                            by_cases c23 : (ji21) < (l0_1.length : Int)
                            · rw [if_pos c23] at H
                              have c23b0 : decide ((ji21) < (l0_1.length : Int)) = true := decide_eq_true c23
                              clear c23
                              by_cases c24 : 0 ≤ (rd l0_0 x35_2)
                              · rw [if_pos c24] at H
                                have c24b0 := eq_true c24
                                have c24b1 : decide (0 ≤ (rd l0_0 x35_2)) = true := decide_eq_true c24
                                clear c24
                                obtain ⟨ji25, hji25⟩ : ∃ j_ : Int, (shl .i64 x6_2 (rd l0_0 x35_2)) = j_ := ⟨_, rfl⟩
                                replace H : (if 0 ≤ (wrap64 (x5_2 - (rd l0_0 x35_2))) then (if 0 ≤ (wrap64 ((ji25) + (Go.bits .and .i64 (shr .i64 a1 (wrap64 (x5_2 - (rd l0_0 x35_2)))) (wrap64 ((shl .i64 1 (rd l0_0 x35_2)) - 1))))) then (if (wrap64 ((ji25) + (Go.bits .and .i64 (shr .i64 a1 (wrap64 (x5_2 - (rd l0_0 x35_2)))) (wrap64 ((shl .i64 1 (rd l0_0 x35_2)) - 1))))) < ((rd_L2 l0_1 (ji21)).length : Int) then (multistage_Get.l0 k2 a1 (wrap64 (x5_2 - (rd l0_0 x35_2))) (rd (rd_L2 l0_1 (ji21)) (wrap64 ((ji25) + (Go.bits .and .i64 (shr .i64 a1 (wrap64 (x5_2 - (rd l0_0 x35_2)))) (wrap64 ((shl .i64 1 (rd l0_0 x35_2)) - 1)))))) l0_0 (l0_0.length : Int) ji21 l0_0 l0_1) else (none)) else (none)) else (none)) = some r := by first | (rw [hji25] at H; exact H) | (simp only [hji25] at H ⊢; exact H)
                                have hji25_ : (IntKind.i64.wrap (x6_2 * 2 ^ min (rd l0_0 x35_2).toNat 64)) = ji25 := hji25
                                have hji25z : (rd l0_0 x35_2) ≤ 64 → (IntKind.i64.wrap (x6_2 * 2 ^ (rd l0_0 x35_2).toNat)) = ji25 := shl_small hji25
                                have hji25y : (wrap64 (x6_2 * 2 ^ min (rd l0_0 x35_2).toNat 64)) = ji25 := (i64_w _).symm.trans hji25_
                                have hji25x : (rd l0_0 x35_2) ≤ 64 → (wrap64 (x6_2 * 2 ^ (rd l0_0 x35_2).toNat)) = ji25 := fun h_ => (i64_w _).symm.trans (hji25z h_)
                                obtain ⟨ji26, hji26⟩ : ∃ j_ : Int, (wrap64 (x5_2 - (rd l0_0 x35_2))) = j_ := ⟨_, rfl⟩
                                replace H : (if 0 ≤ (ji26) then (if 0 ≤ (wrap64 ((ji25) + (Go.bits .and .i64 (shr .i64 a1 (ji26)) (wrap64 ((shl .i64 1 (rd l0_0 x35_2)) - 1))))) then (if (wrap64 ((ji25) + (Go.bits .and .i64 (shr .i64 a1 (ji26)) (wrap64 ((shl .i64 1 (rd l0_0 x35_2)) - 1))))) < ((rd_L2 l0_1 (ji21)).length : Int) then (multistage_Get.l0 k2 a1 ji26 (rd (rd_L2 l0_1 (ji21)) (wrap64 ((ji25) + (Go.bits .and .i64 (shr .i64 a1 (ji26)) (wrap64 ((shl .i64 1 (rd l0_0 x35_2)) - 1)))))) l0_0 (l0_0.length : Int) ji21 l0_0 l0_1) else (none)) else (none)) else (none)) = some r := by first | (rw [hji26] at H; exact H) | (simp only [hji26] at H ⊢; exact H)
                                have hji26w : (IntKind.i64.wrap (x5_2 - (rd l0_0 x35_2))) = ji26 := (i64_w _).trans hji26
                                by_cases c27 : 0 ≤ (ji26)
                                · rw [if_pos c27] at H
                                  have c27b0 := eq_true c27
                                  have c27b1 : decide (0 ≤ (ji26)) = true := decide_eq_true c27
                                  clear c27
                                  obtain ⟨ji28, hji28⟩ : ∃ j_ : Int, (shr .i64 a1 (ji26)) = j_ := ⟨_, rfl⟩
                                  replace H : (if 0 ≤ (wrap64 ((ji25) + (Go.bits .and .i64 (ji28) (wrap64 ((shl .i64 1 (rd l0_0 x35_2)) - 1))))) then (if (wrap64 ((ji25) + (Go.bits .and .i64 (ji28) (wrap64 ((shl .i64 1 (rd l0_0 x35_2)) - 1))))) < ((rd_L2 l0_1 (ji21)).length : Int) then (multistage_Get.l0 k2 a1 ji26 (rd (rd_L2 l0_1 (ji21)) (wrap64 ((ji25) + (Go.bits .and .i64 (ji28) (wrap64 ((shl .i64 1 (rd l0_0 x35_2)) - 1)))))) l0_0 (l0_0.length : Int) ji21 l0_0 l0_1) else (none)) else (none)) = some r := by first | (rw [hji28] at H; exact H) | (simp only [hji28] at H ⊢; exact H)
                                  have hji28_ : (a1 / 2 ^ min (ji26).toNat 64) = ji28 := hji28
                                  have hji28z : (ji26) ≤ 64 → (a1 / 2 ^ (ji26).toNat) = ji28 := shr_small hji28
                                  have c29b0 := eq_true (of_decide_eq_true (by first | (with_reducible assumption) | assumption) : 0 ≤ (rd l0_0 x35_2))
                                  obtain ⟨ji30, hji30⟩ : ∃ j_ : Int, (shl .i64 1 (rd l0_0 x35_2)) = j_ := ⟨_, rfl⟩
                                  replace H : (if 0 ≤ (wrap64 ((ji25) + (Go.bits .and .i64 (ji28) (wrap64 ((ji30) - 1))))) then (if (wrap64 ((ji25) + (Go.bits .and .i64 (ji28) (wrap64 ((ji30) - 1))))) < ((rd_L2 l0_1 (ji21)).length : Int) then (multistage_Get.l0 k2 a1 ji26 (rd (rd_L2 l0_1 (ji21)) (wrap64 ((ji25) + (Go.bits .and .i64 (ji28) (wrap64 ((ji30) - 1)))))) l0_0 (l0_0.length : Int) ji21 l0_0 l0_1) else (none)) else (none)) = some r := by first | (rw [hji30] at H; exact H) | (simp only [hji30] at H ⊢; exact H)
                                  have hji30_ : (IntKind.i64.wrap (1 * 2 ^ min (rd l0_0 x35_2).toNat 64)) = ji30 := hji30
                                  have hji30z : (rd l0_0 x35_2) ≤ 64 → (IntKind.i64.wrap (1 * 2 ^ (rd l0_0 x35_2).toNat)) = ji30 := shl_small hji30
                                  have hji30u : (IntKind.i64.wrap (2 ^ min (rd l0_0 x35_2).toNat 64)) = ji30 := by have h_ := hji30_; rw [Int.one_mul] at h_; exact h_
                                  have hji30v : (rd l0_0 x35_2) ≤ 64 → (IntKind.i64.wrap (2 ^ (rd l0_0 x35_2).toNat)) = ji30 := fun hle_ => by have h_ := hji30z hle_; rw [Int.one_mul] at h_; exact h_
                                  have hji30y : (wrap64 (1 * 2 ^ min (rd l0_0 x35_2).toNat 64)) = ji30 := (i64_w _).symm.trans hji30_
                                  have hji30x : (rd l0_0 x35_2) ≤ 64 → (wrap64 (1 * 2 ^ (rd l0_0 x35_2).toNat)) = ji30 := fun h_ => (i64_w _).symm.trans (hji30z h_)
                                  obtain ⟨ji31, hji31⟩ : ∃ j_ : Int, (wrap64 ((ji25) + (Go.bits .and .i64 (ji28) (wrap64 ((ji30) - 1))))) = j_ := ⟨_, rfl⟩
                                  replace H : (if 0 ≤ (ji31) then (if (ji31) < ((rd_L2 l0_1 (ji21)).length : Int) then (multistage_Get.l0 k2 a1 ji26 (rd (rd_L2 l0_1 (ji21)) (ji31)) l0_0 (l0_0.length : Int) ji21 l0_0 l0_1) else (none)) else (none)) = some r := by first | (rw [hji31] at H; exact H) | (simp only [hji31] at H ⊢; exact H)
                                  have hji31w : (IntKind.i64.wrap ((ji25) + (Go.bits .and .i64 (ji28) (wrap64 ((ji30) - 1))))) = ji31 := (i64_w _).trans hji31
                                  by_cases c32 : 0 ≤ (ji31)
                                  · rw [if_pos c32] at H
                                    have c32b0 : decide (0 ≤ (ji31)) = true := decide_eq_true c32
                                    clear c32
                                    by_cases c33 : (ji31) < ((rd_L2 l0_1 (ji21)).length : Int)
                                    · rw [if_pos c33] at H
                                      have c33b0 : decide ((ji31) < ((rd_L2 l0_1 (ji21)).length : Int)) = true := decide_eq_true c33
                                      clear c33
                                      have H' := Aside0.mk H
                                      clear H
                                      have p323 : 0 ≤ (x35_2 : Int) := of_decide_eq_true (by first | (with_reducible assumption) | assumption)
                                      have q323 : x35_2 < (l0_0.length : Int) := of_decide_eq_true (by first | (with_reducible assumption) | assumption)
                                      obtain ⟨ad323, e323, hx323_0⟩ := Kd.at_int HR0_0.out x35_2 p323 q323
                                      cases e323
                                      replace hx323_0 := (HB.out.cell (World.block_lt_of_cell? w _ hx323_0)).trans hx323_0
                                      replace p323 := eq_true p323
                                      replace q323 := eq_true q323
                                      have hcz34_0 : wr.cell? ⟨gb318, 0, none⟩ = some (.slice (some ad323) l0_0.length c0_0) := (blk_cell BK318.out 0).trans rfl
                                      have hcz34_1 : wr.cell? ⟨gb318, 1, none⟩ = some (.slice (some ad321) l0_1.length c0_1) := (blk_cell BK318.out 1).trans rfl
                                      have hfz34_0 := blk_frozen BK318.out 0
                                      have hfz34_1 := blk_frozen BK318.out 1
                                      have p324 : 0 ≤ ((ji21) : Int) := of_decide_eq_true (by first | (with_reducible assumption) | assumption)
                                      have q324 : (ji21) < (l0_1.length : Int) := of_decide_eq_true (by first | (with_reducible assumption) | assumption)
                                      obtain ⟨ad324, A324_0, c324_0, e324, hx324_0, hl324_0, hi324_0⟩ := at_L2 HR0_1.out (ji21) p324 q324
                                      obtain rfl : ad321 = ad324 := (by injection e324)
                                      replace hx324_0 := (HB.out.cell (World.block_lt_of_cell? w _ hx324_0)).trans hx324_0
                                      have HR324_0 := Aside0.mk hi324_0
                                      have HC324_0 := Aside0.mk hl324_0
                                      clear hi324_0 hl324_0
                                      replace p324 := eq_true p324
                                      replace q324 := eq_true q324
                                      have p325 : 0 ≤ ((ji31) : Int) := of_decide_eq_true (by first | (with_reducible assumption) | assumption)
                                      have q325 : (ji31) < ((rd_L2 l0_1 (ji21)).length : Int) := of_decide_eq_true (by first | (with_reducible assumption) | assumption)
                                      obtain ⟨ad325, e325, hx325_0⟩ := Kd.at_int HR324_0.out (ji31) p325 q325
                                      cases e325
                                      replace hx325_0 := (HB.out.cell (World.block_lt_of_cell? w _ hx325_0)).trans hx325_0
                                      replace p325 := eq_true p325
                                      replace q325 := eq_true q325
                                      go_wp2
                                      repeat (go_quiet (fail); try go_wp2)
                                      go_roundg k2
                                      case measure => have := HJ2.out; have := HK2.out; omega
                                      case rel => exact ⟨(ji26), (rd (rd_L2 l0_1 (ji21)) (ji31)), (ji21), (by first | rfl | (simp; done) | (simp only [← hji26] <;> (first | rfl | simp)) | (simp [*]; done)), (by first | rfl | (simp; done) | (simp only [← hji21, ← hji31] <;> (first | rfl | simp)) | (simp [*]; done)), (by first | rfl | (simp; done) | (simp only [← hji21] <;> (first | rfl | simp)) | (simp [*]; done)), H', ⟨by have := HJ2.out; have := HK2.out; omega⟩, ⟨by (with_reducible repeat (first | refine blk_drewN ?_ _ | refine blk_drew ?_ | refine blk_alloc ?_ _)); exact BK318.out⟩, ⟨by repeat (first | (with_reducible first | exact HB.out | apply below_alloc | apply pw_below_drewN | apply below_drew1 | refine below_set ?_ GE318.out) | exact HB.out)⟩⟩
                                    · rw [if_neg c33] at H
                                      exact absurd H (by simp)
                                  · rw [if_neg c32] at H
                                    exact absurd H (by simp)
                                · rw [if_neg c27] at H
                                  exact absurd H (by simp)
                              · rw [if_neg c24] at H
                                exact absurd H (by simp)
                            · rw [if_neg c23] at H
                              exact absurd H (by simp)
                          · rw [if_neg c22] at H
                            exact absurd H (by simp)
                        · rw [if_neg c20] at H
                          exact absurd H (by simp)
                      · rw [if_neg c19] at H
                        exact absurd H (by simp)
                    · rw [if_neg c18] at H
                      have c18b0 : decide (x35_2 < (l0_0.length : Int)) = false := decide_eq_false c18
                      clear c18
                      obtain rfl := Option.some.inj H
                      go_wp2
                      repeat (go_quiet (fail); try go_wp2)
                      go_ret
                      exact ⟨by first | rfl | (simp [errW_none, errW_some] <;> rfl) | (simp only [← hji14]; first | rfl | (simp [errW_none, errW_some] <;> rfl)) | (simp [*, errW_none, errW_some] <;> rfl), by repeat (first | (with_reducible first | exact HB.out | apply below_alloc | apply pw_below_drewN | apply below_drew1 | refine below_set ?_ GE318.out) | exact HB.out)⟩
              · rw [if_neg c16] at H
                exact absurd H (by simp)
            · rw [if_neg c15] at H
              exact absurd H (by simp)
          · rw [if_neg c13] at H
            exact absurd H (by simp)
        · rw [if_neg c12] at H
          exact absurd H (by simp)

end Go.Proofs.Ytdlijioedokgjaa.Q

/- Written by a program of this session (hprint.py), which drives the print over contracts proved by hand. Not trusted: Lean checks it. -/
import Derived.Test.YtdlijioedokgjaaQ0
import Derived.Test.YtdlijioedokgjaaQF49
namespace Go.Proofs.Ytdlijioedokgjaa.Q
open Go.RowKit Go.Proofs.YtdlijioedokgjaaW.PrintWords Go.Proofs.YtdlijioedokgjaaW.PrintLast Go.Proofs.YtdlijioedokgjaaW.PrintMore
attribute [local go_sem] max2_int min2_int max_two min_two max_three min_three max_four min_four   -- for this text's walks alone
set_option linter.unusedVariables false
set_option linter.unusedSimpArgs false

/-! ### unicodetextref13_look: function 122 -/
def unicodetextref13_look.l0 : Nat → Int → Int → Int → Int → List Int → List (List Int) → Option (Int)
  | 0, _, _, _, _, _, _ => none
  | k + 1, x1, x5, x6, x7, x825000, x825001 => if x7 < (x825001.length : Int) then (if 0 ≤ (wrap64 (x7 - 1)) then (if (wrap64 (x7 - 1)) < (x825000.length : Int) then (if 0 ≤ x7 then (if 0 ≤ (rd x825000 (wrap64 (x7 - 1))) then (if 0 ≤ (wrap64 (x5 - (rd x825000 (wrap64 (x7 - 1))))) then (if (shl .i64 1 (rd x825000 (wrap64 (x7 - 1)))) = 0 then (none) else (if 0 ≤ (wrap64 ((shl .i64 x6 (rd x825000 (wrap64 (x7 - 1)))) + (Int.tmod (shr .i64 x1 (wrap64 (x5 - (rd x825000 (wrap64 (x7 - 1)))))) (shl .i64 1 (rd x825000 (wrap64 (x7 - 1))))))) then (if (wrap64 ((shl .i64 x6 (rd x825000 (wrap64 (x7 - 1)))) + (Int.tmod (shr .i64 x1 (wrap64 (x5 - (rd x825000 (wrap64 (x7 - 1)))))) (shl .i64 1 (rd x825000 (wrap64 (x7 - 1))))))) < ((rd_L2 x825001 x7).length : Int) then (unicodetextref13_look.l0 k x1 (wrap64 (x5 - (rd x825000 (wrap64 (x7 - 1))))) (rd (rd_L2 x825001 x7) (wrap64 ((shl .i64 x6 (rd x825000 (wrap64 (x7 - 1)))) + (Int.tmod (shr .i64 x1 (wrap64 (x5 - (rd x825000 (wrap64 (x7 - 1)))))) (shl .i64 1 (rd x825000 (wrap64 (x7 - 1)))))))) (wrap64 (x7 + 1)) x825000 x825001) else (none)) else (none))) else (none)) else (none)) else (none)) else (none)) else (none)) else (some x6)
def unicodetextref13_look.f (k : Nat) (l0_0 : List Int) (l0_1 : List (List Int)) (a1 : Int) : Option (Int) := (unicodetextref13_bits.f k l0_0).bind fun t825 => (if 0 < (l0_1.length : Int) then (if 0 ≤ t825 then (if 0 ≤ (shr .i64 a1 t825) then (if (shr .i64 a1 t825) < ((rd_L2 l0_1 0).length : Int) then (unicodetextref13_look.l0 k a1 t825 (rd (rd_L2 l0_1 0) (shr .i64 a1 t825)) 1 l0_0 l0_1) else (none)) else (none)) else (none)) else (none))
theorem unicodetextref13_look.mono_l : ∀ k, (∀ y0 y1 y2 y3 y4 y5, LeO (unicodetextref13_look.l0 k y0 y1 y2 y3 y4 y5) (unicodetextref13_look.l0 (k + 1) y0 y1 y2 y3 y4 y5))
  | 0 => fun _ _ _ _ _ _ r h => by simp [unicodetextref13_look.l0] at h
  | k + 1 => by
    have ih0 := unicodetextref13_look.mono_l k
    · intro y0 y1 y2 y3 y4 y5
      unfold unicodetextref13_look.l0
      repeat' first
      | (with_reducible exact ih0 _ _ _ _ _ _)
      | (with_reducible exact unicodetextref13_bits.mono _ _)
      | (with_reducible exact LeO.refl _)
      | (with_reducible exact LeO.none _)
      | (with_reducible refine LeO.ite ?_ ?_)
      | (with_reducible refine LeO.bind ?_ (fun _ => ?_))
      | exact ih0 _ _ _ _ _ _
      | exact unicodetextref13_bits.mono _ _
      | exact LeO.none _
      | refine LeO.ite ?_ ?_
      | refine LeO.bind ?_ (fun _ => ?_)
theorem unicodetextref13_look.mono : ∀ a0 a1 a2 k, LeO (unicodetextref13_look.f k a0 a1 a2) (unicodetextref13_look.f (k + 1) a0 a1 a2) := by
  intro a0 a1 a2 k
  have ih0 := unicodetextref13_look.mono_l k
  unfold unicodetextref13_look.f
  repeat' first
      | (with_reducible exact ih0 _ _ _ _ _ _)
      | (with_reducible exact unicodetextref13_bits.mono _ _)
      | (with_reducible exact LeO.refl _)
      | (with_reducible exact LeO.none _)
      | (with_reducible refine LeO.ite ?_ ?_)
      | (with_reducible refine LeO.bind ?_ (fun _ => ?_))
      | exact ih0 _ _ _ _ _ _
      | exact unicodetextref13_bits.mono _ _
      | exact LeO.none _
      | refine LeO.ite ?_ ?_
      | refine LeO.bind ?_ (fun _ => ?_)
set_option maxHeartbeats 8000000 in
set_option maxRecDepth 100000 in
theorem unicodetextref13_look.calls (k : Nat) (A0_0 : Option Addr) (c0_0 : Nat) (l0_0 : List Int) (A0_1 : Option Addr) (c0_1 : Nat) (l0_1 : List (List Int)) (a1 : Int) (r : Int) (w : World) (hr0_0 : Kd.C (Kd.int .i64) w A0_0 l0_0.length l0_0) (hc0_0 : l0_0.length ≤ c0_0) (hr0_1 : Kd.C (Kd.slice 3 (Kd.int .i64)) w A0_1 l0_1.length l0_1) (hc0_1 : l0_1.length ≤ c0_1) (h : unicodetextref13_look.f k l0_0 l0_1 a1 = some r) :
    Calls Try.prog 122 #[.agg #[.slice A0_0 l0_0.length c0_0, .slice A0_1 l0_1.length c0_1], .int .i64 a1] w fun e w' => e = .returned (.int .i64 r) ∧ Below w.heap.size w w' := by
  have hu46 := Try.underlying46
  have HR0_0 := Aside0.mk hr0_0
  have HC0_0 := Aside0.mk hc0_0
  clear hr0_0 hc0_0
  have HR0_1 := Aside0.mk hr0_1
  have HC0_1 := Aside0.mk hc0_1
  clear hr0_1 hc0_1
  have HB := Aside0.mk (Below.refl w.heap.size w)
  have H : ((unicodetextref13_bits.f k l0_0).bind fun t825 => (if 0 < (l0_1.length : Int) then (if 0 ≤ t825 then (if 0 ≤ (shr .i64 a1 t825) then (if (shr .i64 a1 t825) < ((rd_L2 l0_1 0).length : Int) then (unicodetextref13_look.l0 k a1 t825 (rd (rd_L2 l0_1 0) (shr .i64 a1 t825)) 1 l0_0 l0_1) else (none)) else (none)) else (none)) else (none))) = some r := h
  clear h
  replace H := Option.bind_eq_some_iff.mp H
  obtain ⟨t825, A30, H⟩ := H
  replace H : (if 0 < (l0_1.length : Int) then (if 0 ≤ t825 then (if 0 ≤ (shr .i64 a1 t825) then (if (shr .i64 a1 t825) < ((rd_L2 l0_1 0).length : Int) then (unicodetextref13_look.l0 k a1 t825 (rd (rd_L2 l0_1 0) (shr .i64 a1 t825)) 1 l0_0 l0_1) else (none)) else (none)) else (none)) else (none)) = some r := H
  have A3 := Aside0.mk A30
  clear A30
  by_cases c4 : 0 < (l0_1.length : Int)
  · rw [if_pos c4] at H
    have c4b0 : decide (0 < (l0_1.length : Int)) = true := decide_eq_true c4
    have c4b1 : decide (0 < l0_1.length) = true := decide_eq_true (by omega)
    clear c4
    by_cases c5 : 0 ≤ t825
    · rw [if_pos c5] at H
      have c5b0 := eq_true c5
      have c5b1 : decide (0 ≤ t825) = true := decide_eq_true c5
      clear c5
      obtain ⟨ji6, hji6⟩ : ∃ j_ : Int, (shr .i64 a1 t825) = j_ := ⟨_, rfl⟩
      replace H : (if 0 ≤ (ji6) then (if (ji6) < ((rd_L2 l0_1 0).length : Int) then (unicodetextref13_look.l0 k a1 t825 (rd (rd_L2 l0_1 0) (ji6)) 1 l0_0 l0_1) else (none)) else (none)) = some r := by first | (rw [hji6] at H; exact H) | (simp only [hji6] at H ⊢; exact H)
      (try rw [hji6] at A3)
      have hji6_ : (a1 / 2 ^ min t825.toNat 64) = ji6 := hji6
      have hji6z : t825 ≤ 64 → (a1 / 2 ^ t825.toNat) = ji6 := shr_small hji6
      by_cases c7 : 0 ≤ (ji6)
      · rw [if_pos c7] at H
        have c7b0 : decide (0 ≤ (ji6)) = true := decide_eq_true c7
        clear c7
        by_cases c8 : (ji6) < ((rd_L2 l0_1 0).length : Int)
        · rw [if_pos c8] at H
          have c8b0 : decide ((ji6) < ((rd_L2 l0_1 0).length : Int)) = true := decide_eq_true c8
          clear c8
          have H' := Aside0.mk H
          clear H
          go_enter Try.func122, Try.ntmps122
          go_wp2_with (first | ((with_reducible refine gate_dst (N := 2) rfl ?_); refine box_event ?hg (N := 2) ?hd (cs := #[.slice A0_0 l0_0.length c0_0, .slice A0_1 l0_1.length c0_1]) (t := 46) ?hr ?_; (case hd => rfl); (case hg => rfl); (case hr => first | (go_simp; done) | (go_simp; rfl)); intro gb824 hg w9 hbox hb; have n0_ := Aside0.mk (below_step (by repeat (first | (with_reducible first | exact HB.out | apply below_alloc | apply pw_below_drewN | apply below_drew1) | exact HB.out)) hb); have n1_ := Aside0.mk (hbox); have n2_ := Aside0.mk ((by rw [hg]; exact (below_size (by repeat (first | (with_reducible first | exact HB.out | apply below_alloc | apply pw_below_drewN | apply below_drew1) | exact HB.out))) : w.heap.size ≤ gb824)); have n3_ := Aside0.mk ((by rw [hg]; exact (below_size (by repeat (first | (with_reducible first | exact HB.out | apply below_alloc | apply pw_below_drewN | apply below_drew1) | exact HB.out))) : w.heap.size ≤ gb824)); clear HB; have HB := n0_; have BK824 := n1_; have GW824 := n2_; have GE824 := n3_; clear n0_ n1_ n2_ n3_; clear hb hbox hg; have hcz10_0 : w9.cell? ⟨gb824, 0, none⟩ = some (.slice A0_0 l0_0.length c0_0) := (blk_cell BK824.out 0).trans rfl; have hcz10_1 : w9.cell? ⟨gb824, 1, none⟩ = some (.slice A0_1 l0_1.length c0_1) := (blk_cell BK824.out 1).trans rfl; have hfz10_0 := blk_frozen BK824.out 0; have hfz10_1 := blk_frozen BK824.out 1) | (go_at_call 115; (with_reducible refine (unicodetextref13_bits.calls k _ _ l0_0 t825 _ ?side1 ?side2 A3.out).mono ?_); (case side1 => repeat (first | exact (Kd.C_below HR0_0.out HB.out) | (with_reducible refine Kd.C_alloc ?_ _) | (with_reducible refine Kd.C_drewN ?_ _) | (with_reducible refine Kd.C_drew ?_))); (case side2 => exact HC0_0.out); rintro e w' ⟨rfl, ⟨nd, rfl⟩⟩; (try first | exact ⟨rfl, _, World.drewN_drewN _ _ _⟩ | exact ⟨rfl, _, Eq.trans (World.drewN_drewN _ _ _) (congrArg (World.drewN _) (Nat.add_assoc _ _ _))⟩); have p826 : 0 ≤ (0 : Int) := (by omega); have q826 : 0 < (l0_1.length : Int) := of_decide_eq_true (by first | (with_reducible assumption) | assumption); obtain ⟨ad826, A826_0, c826_0, e826, hx826_0, hl826_0, hi826_0⟩ := at_L2 HR0_1.out 0 p826 q826; cases e826; have qi826 : (0 < l0_1.length) = True := eq_true (by omega); (try rw [show ((0 : Int)).toNat = 0 from rfl] at hx826_0); (try rw [Addr.add_zero'] at hx826_0); replace hx826_0 := (HB.out.cell (World.block_lt_of_cell? w _ hx826_0)).trans hx826_0; have HR826_0 := Aside0.mk hi826_0; have HC826_0 := Aside0.mk hl826_0; clear hi826_0 hl826_0; replace p826 := eq_true p826; replace q826 := eq_true q826; have p827 : 0 ≤ ((ji6) : Int) := of_decide_eq_true (by first | (with_reducible assumption) | assumption); have q827 : (ji6) < ((rd_L2 l0_1 0).length : Int) := of_decide_eq_true (by first | (with_reducible assumption) | assumption); obtain ⟨ad827, e827, hx827_0⟩ := Kd.at_int HR826_0.out (ji6) p827 q827; cases e827; replace hx827_0 := (HB.out.cell (World.block_lt_of_cell? w _ hx827_0)).trans hx827_0; replace p827 := eq_true p827; replace q827 := eq_true q827))
          repeat (go_quiet (first | ((with_reducible refine gate_dst (N := 2) rfl ?_); refine box_event ?hg (N := 2) ?hd (cs := #[.slice A0_0 l0_0.length c0_0, .slice A0_1 l0_1.length c0_1]) (t := 46) ?hr ?_; (case hd => rfl); (case hg => rfl); (case hr => first | (go_simp; done) | (go_simp; rfl)); intro gb824 hg w9 hbox hb; have n0_ := Aside0.mk (below_step (by repeat (first | (with_reducible first | exact HB.out | apply below_alloc | apply pw_below_drewN | apply below_drew1) | exact HB.out)) hb); have n1_ := Aside0.mk (hbox); have n2_ := Aside0.mk ((by rw [hg]; exact (below_size (by repeat (first | (with_reducible first | exact HB.out | apply below_alloc | apply pw_below_drewN | apply below_drew1) | exact HB.out))) : w.heap.size ≤ gb824)); have n3_ := Aside0.mk ((by rw [hg]; exact (below_size (by repeat (first | (with_reducible first | exact HB.out | apply below_alloc | apply pw_below_drewN | apply below_drew1) | exact HB.out))) : w.heap.size ≤ gb824)); clear HB; have HB := n0_; have BK824 := n1_; have GW824 := n2_; have GE824 := n3_; clear n0_ n1_ n2_ n3_; clear hb hbox hg; have hcz10_0 : w9.cell? ⟨gb824, 0, none⟩ = some (.slice A0_0 l0_0.length c0_0) := (blk_cell BK824.out 0).trans rfl; have hcz10_1 : w9.cell? ⟨gb824, 1, none⟩ = some (.slice A0_1 l0_1.length c0_1) := (blk_cell BK824.out 1).trans rfl; have hfz10_0 := blk_frozen BK824.out 0; have hfz10_1 := blk_frozen BK824.out 1) | (go_at_call 115; (with_reducible refine (unicodetextref13_bits.calls k _ _ l0_0 t825 _ ?side1 ?side2 A3.out).mono ?_); (case side1 => repeat (first | exact (Kd.C_below HR0_0.out HB.out) | (with_reducible refine Kd.C_alloc ?_ _) | (with_reducible refine Kd.C_drewN ?_ _) | (with_reducible refine Kd.C_drew ?_))); (case side2 => exact HC0_0.out); rintro e w' ⟨rfl, ⟨nd, rfl⟩⟩; (try first | exact ⟨rfl, _, World.drewN_drewN _ _ _⟩ | exact ⟨rfl, _, Eq.trans (World.drewN_drewN _ _ _) (congrArg (World.drewN _) (Nat.add_assoc _ _ _))⟩); have p826 : 0 ≤ (0 : Int) := (by omega); have q826 : 0 < (l0_1.length : Int) := of_decide_eq_true (by first | (with_reducible assumption) | assumption); obtain ⟨ad826, A826_0, c826_0, e826, hx826_0, hl826_0, hi826_0⟩ := at_L2 HR0_1.out 0 p826 q826; cases e826; have qi826 : (0 < l0_1.length) = True := eq_true (by omega); (try rw [show ((0 : Int)).toNat = 0 from rfl] at hx826_0); (try rw [Addr.add_zero'] at hx826_0); replace hx826_0 := (HB.out.cell (World.block_lt_of_cell? w _ hx826_0)).trans hx826_0; have HR826_0 := Aside0.mk hi826_0; have HC826_0 := Aside0.mk hl826_0; clear hi826_0 hl826_0; replace p826 := eq_true p826; replace q826 := eq_true q826; have p827 : 0 ≤ ((ji6) : Int) := of_decide_eq_true (by first | (with_reducible assumption) | assumption); have q827 : (ji6) < ((rd_L2 l0_1 0).length : Int) := of_decide_eq_true (by first | (with_reducible assumption) | assumption); obtain ⟨ad827, e827, hx827_0⟩ := Kd.at_int HR826_0.out (ji6) p827 q827; cases e827; replace hx827_0 := (HB.out.cell (World.block_lt_of_cell? w _ hx827_0)).trans hx827_0; replace p827 := eq_true p827; replace q827 := eq_true q827)); try go_wp2_with (first | ((with_reducible refine gate_dst (N := 2) rfl ?_); refine box_event ?hg (N := 2) ?hd (cs := #[.slice A0_0 l0_0.length c0_0, .slice A0_1 l0_1.length c0_1]) (t := 46) ?hr ?_; (case hd => rfl); (case hg => rfl); (case hr => first | (go_simp; done) | (go_simp; rfl)); intro gb824 hg w9 hbox hb; have n0_ := Aside0.mk (below_step (by repeat (first | (with_reducible first | exact HB.out | apply below_alloc | apply pw_below_drewN | apply below_drew1) | exact HB.out)) hb); have n1_ := Aside0.mk (hbox); have n2_ := Aside0.mk ((by rw [hg]; exact (below_size (by repeat (first | (with_reducible first | exact HB.out | apply below_alloc | apply pw_below_drewN | apply below_drew1) | exact HB.out))) : w.heap.size ≤ gb824)); have n3_ := Aside0.mk ((by rw [hg]; exact (below_size (by repeat (first | (with_reducible first | exact HB.out | apply below_alloc | apply pw_below_drewN | apply below_drew1) | exact HB.out))) : w.heap.size ≤ gb824)); clear HB; have HB := n0_; have BK824 := n1_; have GW824 := n2_; have GE824 := n3_; clear n0_ n1_ n2_ n3_; clear hb hbox hg; have hcz10_0 : w9.cell? ⟨gb824, 0, none⟩ = some (.slice A0_0 l0_0.length c0_0) := (blk_cell BK824.out 0).trans rfl; have hcz10_1 : w9.cell? ⟨gb824, 1, none⟩ = some (.slice A0_1 l0_1.length c0_1) := (blk_cell BK824.out 1).trans rfl; have hfz10_0 := blk_frozen BK824.out 0; have hfz10_1 := blk_frozen BK824.out 1) | (go_at_call 115; (with_reducible refine (unicodetextref13_bits.calls k _ _ l0_0 t825 _ ?side1 ?side2 A3.out).mono ?_); (case side1 => repeat (first | exact (Kd.C_below HR0_0.out HB.out) | (with_reducible refine Kd.C_alloc ?_ _) | (with_reducible refine Kd.C_drewN ?_ _) | (with_reducible refine Kd.C_drew ?_))); (case side2 => exact HC0_0.out); rintro e w' ⟨rfl, ⟨nd, rfl⟩⟩; (try first | exact ⟨rfl, _, World.drewN_drewN _ _ _⟩ | exact ⟨rfl, _, Eq.trans (World.drewN_drewN _ _ _) (congrArg (World.drewN _) (Nat.add_assoc _ _ _))⟩); have p826 : 0 ≤ (0 : Int) := (by omega); have q826 : 0 < (l0_1.length : Int) := of_decide_eq_true (by first | (with_reducible assumption) | assumption); obtain ⟨ad826, A826_0, c826_0, e826, hx826_0, hl826_0, hi826_0⟩ := at_L2 HR0_1.out 0 p826 q826; cases e826; have qi826 : (0 < l0_1.length) = True := eq_true (by omega); (try rw [show ((0 : Int)).toNat = 0 from rfl] at hx826_0); (try rw [Addr.add_zero'] at hx826_0); replace hx826_0 := (HB.out.cell (World.block_lt_of_cell? w _ hx826_0)).trans hx826_0; have HR826_0 := Aside0.mk hi826_0; have HC826_0 := Aside0.mk hl826_0; clear hi826_0 hl826_0; replace p826 := eq_true p826; replace q826 := eq_true q826; have p827 : 0 ≤ ((ji6) : Int) := of_decide_eq_true (by first | (with_reducible assumption) | assumption); have q827 : (ji6) < ((rd_L2 l0_1 0).length : Int) := of_decide_eq_true (by first | (with_reducible assumption) | assumption); obtain ⟨ad827, e827, hx827_0⟩ := Kd.at_int HR826_0.out (ji6) p827 q827; cases e827; replace hx827_0 := (HB.out.cell (World.block_lt_of_cell? w _ hx827_0)).trans hx827_0; replace p827 := eq_true p827; replace q827 := eq_true q827)))
          go_loopg [5, 6, 7] k (fun kq v5 v6 v7 w' => ∃ (x5_1 : Int) (x6_1 : Int) (x7_1 : Int), v5 = .int .i64 x5_1 ∧ v6 = .int .i64 x6_1 ∧ v7 = .int .i64 x7_1 ∧ Aside0 (unicodetextref13_look.l0 kq a1 x5_1 x6_1 x7_1 l0_0 l0_1 = some r) ∧ Aside0 (kq ≤ k) ∧ Aside0 (w'.heap[gb824]? = some (.cells #[(.slice A0_0 l0_0.length c0_0), (.slice (some ad826) l0_1.length c0_1)] 46 (0, 0))) ∧ Aside0 (Below w.heap.size w w'))
          case atStart => exact ⟨(t825), (rd (rd_L2 l0_1 0) (ji6)), (1), (by first | rfl | (simp; done) | (simp [*]; done)), (by first | rfl | (simp; done) | (simp only [← hji6] <;> (first | rfl | simp)) | (simp [*]; done)), (by first | rfl | (simp; done) | (simp [*]; done)), H', ⟨Nat.le_refl _⟩, ⟨by (with_reducible repeat (first | refine blk_drewN ?_ _ | refine blk_drew ?_ | refine blk_alloc ?_ _)); exact BK824.out⟩, ⟨by repeat (first | (with_reducible first | exact HB.out | apply below_alloc | apply pw_below_drewN | apply below_drew1 | refine below_set ?_ GE824.out) | exact HB.out)⟩⟩
          case round =>
            clear H'
            try clear c1
            try clear p2
            try clear c4
            try clear c4b0
            try clear c4b1
            try clear c5
            try clear c5b0
            try clear c5b1
            try clear c7
            try clear c7b0
            try clear c8
            try clear c8b0
            try clear p8
            try clear q8
            try clear hx8
            try clear qi8
            try clear hcz10_0
            try clear hcz10_1
            try clear hfz10_0
            try clear hfz10_1
            try clear hx826_0
            try clear hx827_0
            try clear p826
            try clear p827
            try clear q826
            try clear q827
            obtain ⟨x5_1, x6_1, x7_1, rfl, rfl, rfl, HA, HK1, BK824, HB⟩ := hrel
            cases gk with
            | zero => exact absurd HA.out (by simp [unicodetextref13_look.l0])
            | succ k1 =>
              have H := HA.out
              clear HA
              simp only [unicodetextref13_look.l0] at H
              by_cases c11 : x7_1 < (l0_1.length : Int)
              · rw [if_pos c11] at H
                have c11b0 : decide (x7_1 < (l0_1.length : Int)) = true := decide_eq_true c11
                clear c11
                obtain ⟨ji12, hji12⟩ : ∃ j_ : Int, (wrap64 (x7_1 - 1)) = j_ := ⟨_, rfl⟩
                replace H : (if 0 ≤ (ji12) then (if (ji12) < (l0_0.length : Int) then (if 0 ≤ x7_1 then (if 0 ≤ (rd l0_0 (ji12)) then (if 0 ≤ (wrap64 (x5_1 - (rd l0_0 (ji12)))) then (if (shl .i64 1 (rd l0_0 (ji12))) = 0 then (none) else (if 0 ≤ (wrap64 ((shl .i64 x6_1 (rd l0_0 (ji12))) + (Int.tmod (shr .i64 a1 (wrap64 (x5_1 - (rd l0_0 (ji12))))) (shl .i64 1 (rd l0_0 (ji12)))))) then (if (wrap64 ((shl .i64 x6_1 (rd l0_0 (ji12))) + (Int.tmod (shr .i64 a1 (wrap64 (x5_1 - (rd l0_0 (ji12))))) (shl .i64 1 (rd l0_0 (ji12)))))) < ((rd_L2 l0_1 x7_1).length : Int) then (unicodetextref13_look.l0 k1 a1 (wrap64 (x5_1 - (rd l0_0 (ji12)))) (rd (rd_L2 l0_1 x7_1) (wrap64 ((shl .i64 x6_1 (rd l0_0 (ji12))) + (Int.tmod (shr .i64 a1 (wrap64 (x5_1 - (rd l0_0 (ji12))))) (shl .i64 1 (rd l0_0 (ji12))))))) (wrap64 (x7_1 + 1)) l0_0 l0_1) else (none)) else (none))) else (none)) else (none)) else (none)) else (none)) else (none)) = some r := by first | (rw [hji12] at H; exact H) | (simp only [hji12] at H ⊢; exact H)
                have hji12w : (IntKind.i64.wrap (x7_1 - 1)) = ji12 := (i64_w _).trans hji12
                by_cases c13 : 0 ≤ (ji12)
                · rw [if_pos c13] at H
                  have c13b0 : decide (0 ≤ (ji12)) = true := decide_eq_true c13
                  clear c13
                  by_cases c14 : (ji12) < (l0_0.length : Int)
                  · rw [if_pos c14] at H
                    have c14b0 : decide ((ji12) < (l0_0.length : Int)) = true := decide_eq_true c14
                    clear c14
                    by_cases c15 : 0 ≤ x7_1
                    · rw [if_pos c15] at H
                      have c15b0 : decide (0 ≤ x7_1) = true := decide_eq_true c15
                      clear c15
                      by_cases c16 : 0 ≤ (rd l0_0 (ji12))
                      · rw [if_pos c16] at H
                        have c16b0 := eq_true c16
                        have c16b1 : decide (0 ≤ (rd l0_0 (ji12))) = true := decide_eq_true c16
                        clear c16
                        obtain ⟨ji17, hji17⟩ : ∃ j_ : Int, (shl .i64 x6_1 (rd l0_0 (ji12))) = j_ := ⟨_, rfl⟩
                        replace H : (if 0 ≤ (wrap64 (x5_1 - (rd l0_0 (ji12)))) then (if (shl .i64 1 (rd l0_0 (ji12))) = 0 then (none) else (if 0 ≤ (wrap64 ((ji17) + (Int.tmod (shr .i64 a1 (wrap64 (x5_1 - (rd l0_0 (ji12))))) (shl .i64 1 (rd l0_0 (ji12)))))) then (if (wrap64 ((ji17) + (Int.tmod (shr .i64 a1 (wrap64 (x5_1 - (rd l0_0 (ji12))))) (shl .i64 1 (rd l0_0 (ji12)))))) < ((rd_L2 l0_1 x7_1).length : Int) then (unicodetextref13_look.l0 k1 a1 (wrap64 (x5_1 - (rd l0_0 (ji12)))) (rd (rd_L2 l0_1 x7_1) (wrap64 ((ji17) + (Int.tmod (shr .i64 a1 (wrap64 (x5_1 - (rd l0_0 (ji12))))) (shl .i64 1 (rd l0_0 (ji12))))))) (wrap64 (x7_1 + 1)) l0_0 l0_1) else (none)) else (none))) else (none)) = some r := by first | (rw [hji17] at H; exact H) | (simp only [hji17] at H ⊢; exact H)
                        have hji17_ : (IntKind.i64.wrap (x6_1 * 2 ^ min (rd l0_0 (ji12)).toNat 64)) = ji17 := hji17
                        have hji17z : (rd l0_0 (ji12)) ≤ 64 → (IntKind.i64.wrap (x6_1 * 2 ^ (rd l0_0 (ji12)).toNat)) = ji17 := shl_small hji17
                        have hji17y : (wrap64 (x6_1 * 2 ^ min (rd l0_0 (ji12)).toNat 64)) = ji17 := (i64_w _).symm.trans hji17_
                        have hji17x : (rd l0_0 (ji12)) ≤ 64 → (wrap64 (x6_1 * 2 ^ (rd l0_0 (ji12)).toNat)) = ji17 := fun h_ => (i64_w _).symm.trans (hji17z h_)
                        obtain ⟨ji18, hji18⟩ : ∃ j_ : Int, (wrap64 (x5_1 - (rd l0_0 (ji12)))) = j_ := ⟨_, rfl⟩
                        replace H : (if 0 ≤ (ji18) then (if (shl .i64 1 (rd l0_0 (ji12))) = 0 then (none) else (if 0 ≤ (wrap64 ((ji17) + (Int.tmod (shr .i64 a1 (ji18)) (shl .i64 1 (rd l0_0 (ji12)))))) then (if (wrap64 ((ji17) + (Int.tmod (shr .i64 a1 (ji18)) (shl .i64 1 (rd l0_0 (ji12)))))) < ((rd_L2 l0_1 x7_1).length : Int) then (unicodetextref13_look.l0 k1 a1 ji18 (rd (rd_L2 l0_1 x7_1) (wrap64 ((ji17) + (Int.tmod (shr .i64 a1 (ji18)) (shl .i64 1 (rd l0_0 (ji12))))))) (wrap64 (x7_1 + 1)) l0_0 l0_1) else (none)) else (none))) else (none)) = some r := by first | (rw [hji18] at H; exact H) | (simp only [hji18] at H ⊢; exact H)
                        have hji18w : (IntKind.i64.wrap (x5_1 - (rd l0_0 (ji12)))) = ji18 := (i64_w _).trans hji18
                        by_cases c19 : 0 ≤ (ji18)
                        · rw [if_pos c19] at H
                          have c19b0 := eq_true c19
                          have c19b1 : decide (0 ≤ (ji18)) = true := decide_eq_true c19
                          clear c19
                          obtain ⟨ji20, hji20⟩ : ∃ j_ : Int, (shr .i64 a1 (ji18)) = j_ := ⟨_, rfl⟩
                          replace H : (if (shl .i64 1 (rd l0_0 (ji12))) = 0 then (none) else (if 0 ≤ (wrap64 ((ji17) + (Int.tmod (ji20) (shl .i64 1 (rd l0_0 (ji12)))))) then (if (wrap64 ((ji17) + (Int.tmod (ji20) (shl .i64 1 (rd l0_0 (ji12)))))) < ((rd_L2 l0_1 x7_1).length : Int) then (unicodetextref13_look.l0 k1 a1 ji18 (rd (rd_L2 l0_1 x7_1) (wrap64 ((ji17) + (Int.tmod (ji20) (shl .i64 1 (rd l0_0 (ji12))))))) (wrap64 (x7_1 + 1)) l0_0 l0_1) else (none)) else (none))) = some r := by first | (rw [hji20] at H; exact H) | (simp only [hji20] at H ⊢; exact H)
                          have hji20_ : (a1 / 2 ^ min (ji18).toNat 64) = ji20 := hji20
                          have hji20z : (ji18) ≤ 64 → (a1 / 2 ^ (ji18).toNat) = ji20 := shr_small hji20
                          have c21b0 := eq_true (of_decide_eq_true (by first | (with_reducible assumption) | assumption) : 0 ≤ (rd l0_0 (ji12)))
                          obtain ⟨ji22, hji22⟩ : ∃ j_ : Int, (shl .i64 1 (rd l0_0 (ji12))) = j_ := ⟨_, rfl⟩
                          replace H : (if (ji22) = 0 then (none) else (if 0 ≤ (wrap64 ((ji17) + (Int.tmod (ji20) (ji22)))) then (if (wrap64 ((ji17) + (Int.tmod (ji20) (ji22)))) < ((rd_L2 l0_1 x7_1).length : Int) then (unicodetextref13_look.l0 k1 a1 ji18 (rd (rd_L2 l0_1 x7_1) (wrap64 ((ji17) + (Int.tmod (ji20) (ji22))))) (wrap64 (x7_1 + 1)) l0_0 l0_1) else (none)) else (none))) = some r := by first | (rw [hji22] at H; exact H) | (simp only [hji22] at H ⊢; exact H)
                          have hji22_ : (IntKind.i64.wrap (1 * 2 ^ min (rd l0_0 (ji12)).toNat 64)) = ji22 := hji22
                          have hji22z : (rd l0_0 (ji12)) ≤ 64 → (IntKind.i64.wrap (1 * 2 ^ (rd l0_0 (ji12)).toNat)) = ji22 := shl_small hji22
                          have hji22u : (IntKind.i64.wrap (2 ^ min (rd l0_0 (ji12)).toNat 64)) = ji22 := by have h_ := hji22_; rw [Int.one_mul] at h_; exact h_
                          have hji22v : (rd l0_0 (ji12)) ≤ 64 → (IntKind.i64.wrap (2 ^ (rd l0_0 (ji12)).toNat)) = ji22 := fun hle_ => by have h_ := hji22z hle_; rw [Int.one_mul] at h_; exact h_
                          have hji22y : (wrap64 (1 * 2 ^ min (rd l0_0 (ji12)).toNat 64)) = ji22 := (i64_w _).symm.trans hji22_
                          have hji22x : (rd l0_0 (ji12)) ≤ 64 → (wrap64 (1 * 2 ^ (rd l0_0 (ji12)).toNat)) = ji22 := fun h_ => (i64_w _).symm.trans (hji22z h_)
                          by_cases c23 : (ji22) = 0
                          · rw [if_pos c23] at H
                            exact absurd H (by simp)
                          · rw [if_neg c23] at H
                            have c23b0 : ((ji22) == 0) = false := beq_eq_false_iff_ne.mpr c23
                            have c23b1 : ((ji22) != 0) = true := bne_iff_ne.mpr c23
                            obtain ⟨ji24, hji24⟩ : ∃ j_ : Int, (wrap64 ((ji17) + (Int.tmod (ji20) (ji22)))) = j_ := ⟨_, rfl⟩
                            replace H : (if 0 ≤ (ji24) then (if (ji24) < ((rd_L2 l0_1 x7_1).length : Int) then (unicodetextref13_look.l0 k1 a1 ji18 (rd (rd_L2 l0_1 x7_1) (ji24)) (wrap64 (x7_1 + 1)) l0_0 l0_1) else (none)) else (none)) = some r := by first | (rw [hji24] at H; exact H) | (simp only [hji24] at H ⊢; exact H)
                            have hji24w : (IntKind.i64.wrap ((ji17) + (Int.tmod (ji20) (ji22)))) = ji24 := (i64_w _).trans hji24
                            by_cases c25 : 0 ≤ (ji24)
                            · rw [if_pos c25] at H
                              have c25b0 : decide (0 ≤ (ji24)) = true := decide_eq_true c25
                              clear c25
                              by_cases c26 : (ji24) < ((rd_L2 l0_1 x7_1).length : Int)
                              · rw [if_pos c26] at H
                                have c26b0 : decide ((ji24) < ((rd_L2 l0_1 x7_1).length : Int)) = true := decide_eq_true c26
                                clear c26
                                have H' := Aside0.mk H
                                clear H
                                have hcz27_0 : wr.cell? ⟨gb824, 0, none⟩ = some (.slice A0_0 l0_0.length c0_0) := (blk_cell BK824.out 0).trans rfl
                                have hcz27_1 : wr.cell? ⟨gb824, 1, none⟩ = some (.slice (some ad826) l0_1.length c0_1) := (blk_cell BK824.out 1).trans rfl
                                have hfz27_0 := blk_frozen BK824.out 0
                                have hfz27_1 := blk_frozen BK824.out 1
                                have p828 : 0 ≤ ((ji12) : Int) := of_decide_eq_true (by first | (with_reducible assumption) | assumption)
                                have q828 : (ji12) < (l0_0.length : Int) := of_decide_eq_true (by first | (with_reducible assumption) | assumption)
                                obtain ⟨ad828, e828, hx828_0⟩ := Kd.at_int HR0_0.out (ji12) p828 q828
                                cases e828
                                replace hx828_0 := (HB.out.cell (World.block_lt_of_cell? w _ hx828_0)).trans hx828_0
                                replace p828 := eq_true p828
                                replace q828 := eq_true q828
                                have p829 : 0 ≤ (x7_1 : Int) := of_decide_eq_true (by first | (with_reducible assumption) | assumption)
                                have q829 : x7_1 < (l0_1.length : Int) := of_decide_eq_true (by first | (with_reducible assumption) | assumption)
                                obtain ⟨ad829, A829_0, c829_0, e829, hx829_0, hl829_0, hi829_0⟩ := at_L2 HR0_1.out x7_1 p829 q829
                                obtain rfl : ad826 = ad829 := (by injection e829)
                                replace hx829_0 := (HB.out.cell (World.block_lt_of_cell? w _ hx829_0)).trans hx829_0
                                have HR829_0 := Aside0.mk hi829_0
                                have HC829_0 := Aside0.mk hl829_0
                                clear hi829_0 hl829_0
                                replace p829 := eq_true p829
                                replace q829 := eq_true q829
                                have p830 : 0 ≤ ((ji12) : Int) := of_decide_eq_true (by first | (with_reducible assumption) | assumption)
                                have q830 : (ji12) < (l0_0.length : Int) := of_decide_eq_true (by first | (with_reducible assumption) | assumption)
                                obtain ⟨ad830, e830, hx830_0⟩ := Kd.at_int HR0_0.out (ji12) p830 q830
                                obtain rfl : ad828 = ad830 := (by injection e830)
                                replace hx830_0 := (HB.out.cell (World.block_lt_of_cell? w _ hx830_0)).trans hx830_0
                                replace p830 := eq_true p830
                                replace q830 := eq_true q830
                                have p831 : 0 ≤ ((ji12) : Int) := of_decide_eq_true (by first | (with_reducible assumption) | assumption)
                                have q831 : (ji12) < (l0_0.length : Int) := of_decide_eq_true (by first | (with_reducible assumption) | assumption)
                                obtain ⟨ad831, e831, hx831_0⟩ := Kd.at_int HR0_0.out (ji12) p831 q831
                                obtain rfl : ad828 = ad831 := (by injection e831)
                                replace hx831_0 := (HB.out.cell (World.block_lt_of_cell? w _ hx831_0)).trans hx831_0
                                replace p831 := eq_true p831
                                replace q831 := eq_true q831
                                have p832 : 0 ≤ ((ji24) : Int) := of_decide_eq_true (by first | (with_reducible assumption) | assumption)
                                have q832 : (ji24) < ((rd_L2 l0_1 x7_1).length : Int) := of_decide_eq_true (by first | (with_reducible assumption) | assumption)
                                obtain ⟨ad832, e832, hx832_0⟩ := Kd.at_int HR829_0.out (ji24) p832 q832
                                cases e832
                                replace hx832_0 := (HB.out.cell (World.block_lt_of_cell? w _ hx832_0)).trans hx832_0
                                replace p832 := eq_true p832
                                replace q832 := eq_true q832
                                go_wp2
                                repeat (go_quiet (fail); try go_wp2)
                                go_roundg k1
                                case measure => have := HK1.out; omega
                                case rel => exact ⟨(ji18), (rd (rd_L2 l0_1 x7_1) (ji24)), (wrap64 (x7_1 + 1)), (by first | rfl | (simp; done) | (simp only [← hji18] <;> (first | rfl | simp)) | (simp [*]; done)), (by first | rfl | (simp; done) | (simp only [← hji24] <;> (first | rfl | simp)) | (simp [*]; done)), (by first | rfl | (simp; done) | (simp [*]; done)), H', ⟨by have := HK1.out; omega⟩, ⟨by (with_reducible repeat (first | refine blk_drewN ?_ _ | refine blk_drew ?_ | refine blk_alloc ?_ _)); exact BK824.out⟩, ⟨by repeat (first | (with_reducible first | exact HB.out | apply below_alloc | apply pw_below_drewN | apply below_drew1 | refine below_set ?_ GE824.out) | exact HB.out)⟩⟩
                              · rw [if_neg c26] at H
                                exact absurd H (by simp)
                            · rw [if_neg c25] at H
                              exact absurd H (by simp)
                        · rw [if_neg c19] at H
                          exact absurd H (by simp)
                      · rw [if_neg c16] at H
                        exact absurd H (by simp)
                    · rw [if_neg c15] at H
                      exact absurd H (by simp)
                  · rw [if_neg c14] at H
                    exact absurd H (by simp)
                · rw [if_neg c13] at H
                  exact absurd H (by simp)
              · rw [if_neg c11] at H
                have c11b0 : decide (x7_1 < (l0_1.length : Int)) = false := decide_eq_false c11
                clear c11
                obtain rfl := Option.some.inj H
                have hcz28_0 : wr.cell? ⟨gb824, 0, none⟩ = some (.slice A0_0 l0_0.length c0_0) := (blk_cell BK824.out 0).trans rfl
                have hcz28_1 : wr.cell? ⟨gb824, 1, none⟩ = some (.slice (some ad826) l0_1.length c0_1) := (blk_cell BK824.out 1).trans rfl
                have hfz28_0 := blk_frozen BK824.out 0
                have hfz28_1 := blk_frozen BK824.out 1
                go_wp2
                repeat (go_quiet (fail); try go_wp2)
                go_ret
                exact ⟨by first | rfl | (simp [errW_none, errW_some] <;> rfl) | (simp only [← hji6]; first | rfl | (simp [errW_none, errW_some] <;> rfl)) | (simp [*, errW_none, errW_some] <;> rfl), by repeat (first | (with_reducible first | exact HB.out | apply below_alloc | apply pw_below_drewN | apply below_drew1 | refine below_set ?_ GE824.out) | exact HB.out)⟩
        · rw [if_neg c8] at H
          exact absurd H (by simp)
      · rw [if_neg c7] at H
        exact absurd H (by simp)
    · rw [if_neg c5] at H
      exact absurd H (by simp)
  · rw [if_neg c4] at H
    exact absurd H (by simp)

end Go.Proofs.Ytdlijioedokgjaa.Q

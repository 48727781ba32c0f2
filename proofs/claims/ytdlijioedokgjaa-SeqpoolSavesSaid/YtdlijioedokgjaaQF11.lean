/- Written by a program of this session (hprint.py), which drives the print over contracts proved by hand. Not trusted: Lean checks it. -/
import Derived.Test.YtdlijioedokgjaaQ0
import Derived.Test.YtdlijioedokgjaaQF35
import Derived.Test.YtdlijioedokgjaaQF54
import Derived.Test.YtdlijioedokgjaaHPool
import Derived.Test.YtdlijioedokgjaaHAlive14
namespace Go.Proofs.Ytdlijioedokgjaa.Q
open Go.RowKit Go.Proofs.YtdlijioedokgjaaW.PrintWords Go.Proofs.YtdlijioedokgjaaW.PrintLast Go.Proofs.YtdlijioedokgjaaW.PrintMore
attribute [local go_sem] max2_int min2_int max_two min_two max_three min_three max_four min_four   -- for this text's walks alone
set_option linter.unusedVariables false
set_option linter.unusedSimpArgs false

/-! ### unicodetextlaw14_SeqpoolSaves: function 11 -/
mutual
def unicodetextlaw14_SeqpoolSaves.j0 : Nat → List (List Int) → Int → Int → Int → Bool → Option (Bool)
  | 0, _, _, _, _, _ => none
  | k + 1, x0, x1, x2, x3, x24 => if x24 = true then ((law14_alive.f).bind fun t533 => (some t533)) else ((seqpool_Pack.f x0).bind fun bt534 => (unicodetextlaw14_SeqpoolSaves.l0 k x0 x1 x2 x3 0 0 bt534.1 bt534.2.1 bt534.2.2))
def unicodetextlaw14_SeqpoolSaves.l0 : Nat → List (List Int) → Int → Int → Int → Int → Int → List Int → List Int → List Int → Option (Bool)
  | 0, _, _, _, _, _, _, _, _, _ => none
  | k + 1, x0, x1, x2, x3, x10, x11, x544000, x544001, x544002 => if x11 < (x0.length : Int) then (if 0 ≤ x11 then (unicodetextlaw14_SeqpoolSaves.l0 k x0 x1 x2 x3 (wrap64 (x10 + ((rd_L2 x0 x11).length : Int))) (wrap64 (x11 + 1)) x544000 x544001 x544002) else (none)) else (if (x0.length : Int) = 0 then (none) else (if 0 ≤ (Int.tmod (wrap64 (x1)) (x0.length : Int)) then (if (Int.tmod (wrap64 (x1)) (x0.length : Int)) < (x0.length : Int) then (if (wrap64 (((rd_L2 x0 (Int.tmod (wrap64 (x1)) (x0.length : Int))).length : Int) + 1)) = 0 then (none) else (if (wrap64 ((wrap64 (((rd_L2 x0 (Int.tmod (wrap64 (x1)) (x0.length : Int))).length : Int) + 1)) - (Int.tmod (wrap64 (x2)) (wrap64 (((rd_L2 x0 (Int.tmod (wrap64 (x1)) (x0.length : Int))).length : Int) + 1))))) = 0 then (none) else (if 0 ≤ (Int.tmod (wrap64 (x2)) (wrap64 (((rd_L2 x0 (Int.tmod (wrap64 (x1)) (x0.length : Int))).length : Int) + 1))) then (if (Int.tmod (wrap64 (x2)) (wrap64 (((rd_L2 x0 (Int.tmod (wrap64 (x1)) (x0.length : Int))).length : Int) + 1))) ≤ (wrap64 ((Int.tmod (wrap64 (x2)) (wrap64 (((rd_L2 x0 (Int.tmod (wrap64 (x1)) (x0.length : Int))).length : Int) + 1))) + (Int.tmod (wrap64 (x3)) (wrap64 ((wrap64 (((rd_L2 x0 (Int.tmod (wrap64 (x1)) (x0.length : Int))).length : Int) + 1)) - (Int.tmod (wrap64 (x2)) (wrap64 (((rd_L2 x0 (Int.tmod (wrap64 (x1)) (x0.length : Int))).length : Int) + 1)))))))) then (if (wrap64 ((Int.tmod (wrap64 (x2)) (wrap64 (((rd_L2 x0 (Int.tmod (wrap64 (x1)) (x0.length : Int))).length : Int) + 1))) + (Int.tmod (wrap64 (x3)) (wrap64 ((wrap64 (((rd_L2 x0 (Int.tmod (wrap64 (x1)) (x0.length : Int))).length : Int) + 1)) - (Int.tmod (wrap64 (x2)) (wrap64 (((rd_L2 x0 (Int.tmod (wrap64 (x1)) (x0.length : Int))).length : Int) + 1)))))))) ≤ ((rd_L2 x0 (Int.tmod (wrap64 (x1)) (x0.length : Int))).length : Int) then ((seqpool_Add.f x544000 x544001 x544002 (((rd_L2 x0 (Int.tmod (wrap64 (x1)) (x0.length : Int))).take ((wrap64 ((Int.tmod (wrap64 (x2)) (wrap64 (((rd_L2 x0 (Int.tmod (wrap64 (x1)) (x0.length : Int))).length : Int) + 1))) + (Int.tmod (wrap64 (x3)) (wrap64 ((wrap64 (((rd_L2 x0 (Int.tmod (wrap64 (x1)) (x0.length : Int))).length : Int) + 1)) - (Int.tmod (wrap64 (x2)) (wrap64 (((rd_L2 x0 (Int.tmod (wrap64 (x1)) (x0.length : Int))).length : Int) + 1)))))))) : Int).toNat).drop ((Int.tmod (wrap64 (x2)) (wrap64 (((rd_L2 x0 (Int.tmod (wrap64 (x1)) (x0.length : Int))).length : Int) + 1))) : Int).toNat)).bind fun bt547 => (if (x544000.length : Int) ≤ x10 then ((unicodetextref01_Equal.f k bt547.1 x544000).bind fun t558 => (if t558 = true then (if bt547.2.2.2 = (x0.length : Int) then ((law14_alive.f).bind fun t559 => (some t559)) else (some false)) else (some false))) else (some false))) else (none)) else (none)) else (none)))) else (none)) else (none)))
end
def unicodetextlaw14_SeqpoolSaves.f (k : Nat) (l0 : List (List Int)) (a1 : Int) (a2 : Int) (a3 : Int) : Option (Bool) := (unicodetextref14_Few.f k l0).bind fun t532 => (if t532 = true then (unicodetextlaw14_SeqpoolSaves.j0 k l0 a1 a2 a3 ((l0.length : Int) == 0)) else (unicodetextlaw14_SeqpoolSaves.j0 k l0 a1 a2 a3 true))
theorem unicodetextlaw14_SeqpoolSaves.mono_l : ∀ k, (∀ y0 y1 y2 y3 y4, LeO (unicodetextlaw14_SeqpoolSaves.j0 k y0 y1 y2 y3 y4) (unicodetextlaw14_SeqpoolSaves.j0 (k + 1) y0 y1 y2 y3 y4)) ∧ (∀ y0 y1 y2 y3 y4 y5 y6 y7 y8, LeO (unicodetextlaw14_SeqpoolSaves.l0 k y0 y1 y2 y3 y4 y5 y6 y7 y8) (unicodetextlaw14_SeqpoolSaves.l0 (k + 1) y0 y1 y2 y3 y4 y5 y6 y7 y8))
  | 0 => ⟨fun _ _ _ _ _ r h => by simp [unicodetextlaw14_SeqpoolSaves.j0] at h, fun _ _ _ _ _ _ _ _ _ r h => by simp [unicodetextlaw14_SeqpoolSaves.l0] at h⟩
  | k + 1 => by
    obtain ⟨ih0, ih1⟩ := unicodetextlaw14_SeqpoolSaves.mono_l k
    refine ⟨?_, ?_⟩
    · intro y0 y1 y2 y3 y4
      unfold unicodetextlaw14_SeqpoolSaves.j0
      repeat' first
      | (with_reducible exact ih0 _ _ _ _ _)
      | (with_reducible exact ih1 _ _ _ _ _ _ _ _ _)
      | (with_reducible exact unicodetextref01_Equal.mono _ _ _)
      | (with_reducible exact unicodetextref14_Few.mono _ _)
      | (with_reducible exact LeO.refl _)
      | (with_reducible exact LeO.none _)
      | (with_reducible refine LeO.ite ?_ ?_)
      | (with_reducible refine LeO.bind ?_ (fun _ => ?_))
      | exact ih0 _ _ _ _ _
      | exact ih1 _ _ _ _ _ _ _ _ _
      | exact unicodetextref01_Equal.mono _ _ _
      | exact unicodetextref14_Few.mono _ _
      | exact LeO.none _
      | refine LeO.ite ?_ ?_
      | refine LeO.bind ?_ (fun _ => ?_)
    · intro y0 y1 y2 y3 y4 y5 y6 y7 y8
      unfold unicodetextlaw14_SeqpoolSaves.l0
      repeat' first
      | (with_reducible exact ih0 _ _ _ _ _)
      | (with_reducible exact ih1 _ _ _ _ _ _ _ _ _)
      | (with_reducible exact unicodetextref01_Equal.mono _ _ _)
      | (with_reducible exact unicodetextref14_Few.mono _ _)
      | (with_reducible exact LeO.refl _)
      | (with_reducible exact LeO.none _)
      | (with_reducible refine LeO.ite ?_ ?_)
      | (with_reducible refine LeO.bind ?_ (fun _ => ?_))
      | exact ih0 _ _ _ _ _
      | exact ih1 _ _ _ _ _ _ _ _ _
      | exact unicodetextref01_Equal.mono _ _ _
      | exact unicodetextref14_Few.mono _ _
      | exact LeO.none _
      | refine LeO.ite ?_ ?_
      | refine LeO.bind ?_ (fun _ => ?_)
theorem unicodetextlaw14_SeqpoolSaves.mono : ∀ a0 a1 a2 a3 k, LeO (unicodetextlaw14_SeqpoolSaves.f k a0 a1 a2 a3) (unicodetextlaw14_SeqpoolSaves.f (k + 1) a0 a1 a2 a3) := by
  intro a0 a1 a2 a3 k
  obtain ⟨ih0, ih1⟩ := unicodetextlaw14_SeqpoolSaves.mono_l k
  unfold unicodetextlaw14_SeqpoolSaves.f
  repeat' first
      | (with_reducible exact ih0 _ _ _ _ _)
      | (with_reducible exact ih1 _ _ _ _ _ _ _ _ _)
      | (with_reducible exact unicodetextref01_Equal.mono _ _ _)
      | (with_reducible exact unicodetextref14_Few.mono _ _)
      | (with_reducible exact LeO.refl _)
      | (with_reducible exact LeO.none _)
      | (with_reducible refine LeO.ite ?_ ?_)
      | (with_reducible refine LeO.bind ?_ (fun _ => ?_))
      | exact ih0 _ _ _ _ _
      | exact ih1 _ _ _ _ _ _ _ _ _
      | exact unicodetextref01_Equal.mono _ _ _
      | exact unicodetextref14_Few.mono _ _
      | exact LeO.none _
      | refine LeO.ite ?_ ?_
      | refine LeO.bind ?_ (fun _ => ?_)
def unicodetextlaw14_SeqpoolSaves.T12 : Bool × List (List Nat × List Nat) := (true, [([], []), ([], []), ([], []), ([], []), ([1, 2, 3], [1, 2, 3]), ([0, 4], [0, 4]), ([5], [5]), ([6], [6]), ([6], [6]), ([], []), ([9, 7, 5, 0, 1, 2, 3, 4, 5, 6, 7, 9], [7, 9]), ([8, 10, 0, 1, 2, 3, 4, 5, 6, 7, 8, 9, 10], [8])])
def unicodetextlaw14_SeqpoolSaves.B12 : List Nat := [0, 0, 0, 0, 14, 31, 63, 127, 127, 0, 767, 2047]
theorem unicodetextlaw14_SeqpoolSaves.tab12 : rtab .any (opsOf Try.f11 12) = unicodetextlaw14_SeqpoolSaves.T12 := by kernel_rfl
theorem unicodetextlaw14_SeqpoolSaves.bits12 : waitsOk unicodetextlaw14_SeqpoolSaves.T12.2 unicodetextlaw14_SeqpoolSaves.B12 = true := by kernel_rfl
set_option maxHeartbeats 8000000 in
set_option maxRecDepth 100000 in
theorem unicodetextlaw14_SeqpoolSaves.calls (k : Nat) (A0 : Option Addr) (c0 : Nat) (l0 : List (List Int)) (a1 : Int) (a2 : Int) (a3 : Int) (r : Bool) (w : World) (hr0 : Kd.C (Kd.slice 3 (Kd.int .i64)) w A0 l0.length l0) (hc0 : l0.length ≤ c0) (h : unicodetextlaw14_SeqpoolSaves.f k l0 a1 a2 a3 = some r) :
    Calls Try.prog 11 #[.slice A0 l0.length c0, .int .u8 a1, .int .u8 a2, .int .u8 a3] w fun e w' => e = .returned (.bool r) ∧ Below w.heap.size w w' := by
  have hu39 := Try.underlying39
  have HR0 := Aside0.mk hr0
  have HC0 := Aside0.mk hc0
  clear hr0 hc0
  have HB := Aside0.mk (Below.refl w.heap.size w)
  have H : ((unicodetextref14_Few.f k l0).bind fun t532 => (if t532 = true then (unicodetextlaw14_SeqpoolSaves.j0 k l0 a1 a2 a3 ((l0.length : Int) == 0)) else (unicodetextlaw14_SeqpoolSaves.j0 k l0 a1 a2 a3 true))) = some r := h
  clear h
  have HC5 := Aside0.mk H
  clear H
  go_enter Try.func11, Try.ntmps11
  go_upto_region 1 with (fail)
  go_cut [24] (fun v24 wc => ∃ (kq : Nat) (x24_4 : Bool), v24 = .bool x24_4 ∧ Aside0 (unicodetextlaw14_SeqpoolSaves.j0 kq l0 a1 a2 a3 x24_4 = some r) ∧ Aside0 (kq ≤ k) ∧ Aside0 (Below w.heap.size w wc))
  case first =>
    have H := HC5.out
    clear HC5
    replace H := Option.bind_eq_some_iff.mp H
    obtain ⟨t532, A60, H⟩ := H
    replace H : (if t532 = true then (unicodetextlaw14_SeqpoolSaves.j0 k l0 a1 a2 a3 ((l0.length : Int) == 0)) else (unicodetextlaw14_SeqpoolSaves.j0 k l0 a1 a2 a3 true)) = some r := H
    have A6 := Aside0.mk A60
    clear A60
    by_cases c7 : t532 = true
    · subst c7
      have H1 : (unicodetextlaw14_SeqpoolSaves.j0 k l0 a1 a2 a3 ((l0.length : Int) == 0)) = some r := by rw [if_pos rfl] at H; exact H
      clear H
      have H := H1
      clear H1
      have H' := Aside0.mk H
      clear H
      go_wp2_with (first | ((with_reducible refine gate_callee (f := 35) rfl ?_); refine goesL_ (some 18) rfl rfl Try.func35 (by kernel_rfl) rfl #[.slice A0 l0.length c0] rfl (by (try simp only [List.map_toArray, List.map_cons, List.map_nil]); first | done | rfl | (simp only [List.length_drop, List.length_take]; rfl)) ?_; (with_reducible refine (unicodetextref14_Few.calls k _ _ l0 true _ ?side1 ?side2 A6.out).mono ?_); (case side1 => repeat (first | exact (Kd.C_below HR0.out HB.out) | (with_reducible refine Kd.C_alloc ?_ _) | (with_reducible refine Kd.C_drewN ?_ _) | (with_reducible refine Kd.C_drew ?_))); (case side2 => exact HC0.out); rintro e w' ⟨rfl, ⟨nd, rfl⟩⟩; refine ⟨_, rfl, ?_⟩))
      go_meet
      case rel => exact ⟨_, (((l0.length : Int) == 0)), (by first | rfl | (simp; done) | (simp [*]; done)), H', ⟨by first | omega | exact Nat.le_refl _⟩, ⟨by repeat (first | (with_reducible first | exact HB.out | apply below_alloc | apply pw_below_drewN | apply below_drew1) | exact HB.out)⟩⟩
    · replace c7 := Bool.eq_false_iff.mpr c7
      subst c7
      have H1 : (unicodetextlaw14_SeqpoolSaves.j0 k l0 a1 a2 a3 true) = some r := by rw [if_neg (show ¬ (false = true) by decide)] at H; exact H
      clear H
      have H := H1
      clear H1
      have H' := Aside0.mk H
      clear H
      go_wp2_with (first | ((with_reducible refine gate_callee (f := 35) rfl ?_); refine goesL_ (some 18) rfl rfl Try.func35 (by kernel_rfl) rfl #[.slice A0 l0.length c0] rfl (by (try simp only [List.map_toArray, List.map_cons, List.map_nil]); first | done | rfl | (simp only [List.length_drop, List.length_take]; rfl)) ?_; (with_reducible refine (unicodetextref14_Few.calls k _ _ l0 false _ ?side1 ?side2 A6.out).mono ?_); (case side1 => repeat (first | exact (Kd.C_below HR0.out HB.out) | (with_reducible refine Kd.C_alloc ?_ _) | (with_reducible refine Kd.C_drewN ?_ _) | (with_reducible refine Kd.C_drew ?_))); (case side2 => exact HC0.out); rintro e w' ⟨rfl, ⟨nd, rfl⟩⟩; refine ⟨_, rfl, ?_⟩))
      go_meet
      case rel => exact ⟨_, (true), (by first | rfl | (simp; done) | (simp [*]; done)), H', ⟨by first | omega | exact Nat.le_refl _⟩, ⟨by repeat (first | (with_reducible first | exact HB.out | apply below_alloc | apply pw_below_drewN | apply below_drew1) | exact HB.out)⟩⟩
  case rest =>
    clear HC5
    try clear c1
    try clear p2
    try clear c3
    try clear c7
    obtain ⟨kq, x24_4, rfl, HA, HJ4, HB⟩ := hcut
    cases kq with
    | zero => exact absurd HA.out (by simp [unicodetextlaw14_SeqpoolSaves.j0])
    | succ kj4 =>
      have H := HA.out
      clear HA
      simp only [unicodetextlaw14_SeqpoolSaves.j0] at H
      by_cases c8 : x24_4 = true
      · subst c8
        have H1 : ((law14_alive.f).bind fun t533 => (some t533)) = some r := by rw [if_pos rfl] at H; exact H
        clear H
        have H := H1
        clear H1
        replace H := Option.bind_eq_some_iff.mp H
        obtain ⟨t533, A90, H⟩ := H
        replace H : (some t533) = some r := H
        have A9 := Aside0.mk A90
        clear A90
        obtain rfl := Option.some.inj H
        go_wp2_with (first | ((with_reducible refine gate_callee (f := 39) rfl ?_); refine goesL_ (some 25) rfl rfl Try.func39 (by kernel_rfl) rfl #[] rfl (by (try simp only [List.map_toArray, List.map_cons, List.map_nil]); first | done | rfl | (simp only [List.length_drop, List.length_take]; rfl)) ?_; (with_reducible refine (law14_alive.calls  t533 _ A9.out).mono ?_); rintro e w10 ⟨rfl, hb⟩; refine ⟨_, rfl, ?_⟩; have n0_ := Aside0.mk (below_step (by repeat (first | (with_reducible first | exact HB.out | apply below_alloc | apply pw_below_drewN | apply below_drew1) | exact HB.out)) hb); clear HB; have HB := n0_; clear n0_; (try clear hb); (try clear hb2); (try clear hk); (try clear hi)))
        go_ret
        exact ⟨by first | rfl | (simp [errW_none, errW_some] <;> rfl) | (simp [*, errW_none, errW_some] <;> rfl), by repeat (first | (with_reducible first | exact HB.out | apply below_alloc | apply pw_below_drewN | apply below_drew1) | exact HB.out)⟩
      · replace c8 := Bool.eq_false_iff.mpr c8
        subst c8
        have H1 : ((seqpool_Pack.f l0).bind fun bt534 => (unicodetextlaw14_SeqpoolSaves.l0 kj4 l0 a1 a2 a3 0 0 bt534.1 bt534.2.1 bt534.2.2)) = some r := by rw [if_neg (show ¬ (false = true) by decide)] at H; exact H
        clear H
        have H := H1
        clear H1
        replace H := Option.bind_eq_some_iff.mp H
        obtain ⟨⟨t534, t537, t540⟩, A110, H⟩ := H
        replace H : (unicodetextlaw14_SeqpoolSaves.l0 kj4 l0 a1 a2 a3 0 0 t534 t537 t540) = some r := H
        have A11 := Aside0.mk A110
        clear A110
        have H' := Aside0.mk H
        clear H
        go_wp2_with (first | ((with_reducible refine gate_callee (f := 37) rfl ?_); refine goesL_ (some 27) rfl rfl Try.func37 (by kernel_rfl) rfl #[.slice A0 l0.length c0] rfl (by (try simp only [List.map_toArray, List.map_cons, List.map_nil]); first | done | rfl | (simp only [List.length_drop, List.length_take]; rfl)) ?_; (with_reducible refine (seqpool_Pack.calls _ _ l0 t534 t537 t540 _ ?side1 ?side2 A11.out).mono ?_); (case side1 => repeat (first | exact (Kd.C_below HR0.out HB.out) | (with_reducible refine Kd.C_alloc ?_ _) | (with_reducible refine Kd.C_drewN ?_ _) | (with_reducible refine Kd.C_drew ?_))); (case side2 => exact HC0.out); rintro e w12 ⟨v535, v538, v541, rfl, ho0, ho1, ho2, hb⟩; refine ⟨_, rfl, ?_⟩; have n0_ := Aside0.mk (Kd.R_lower ho0 (below_size (by repeat (first | (with_reducible first | exact HB.out | apply below_alloc | apply pw_below_drewN | apply below_drew1) | exact HB.out)))); have n1_ := Aside0.mk (Kd.R_lower ho1 (below_size (by repeat (first | (with_reducible first | exact HB.out | apply below_alloc | apply pw_below_drewN | apply below_drew1) | exact HB.out)))); have n2_ := Aside0.mk (Kd.R_lower ho2 (below_size (by repeat (first | (with_reducible first | exact HB.out | apply below_alloc | apply pw_below_drewN | apply below_drew1) | exact HB.out)))); have n3_ := Aside0.mk (below_step (by repeat (first | (with_reducible first | exact HB.out | apply below_alloc | apply pw_below_drewN | apply below_drew1) | exact HB.out)) hb); clear HB; have HO536 := n0_; have HO539 := n1_; have HO542 := n2_; have HB := n3_; clear n0_ n1_ n2_ n3_; (try clear hb); (try clear hb2); (try clear hk); (try clear hi); (try clear ho0); (try clear ho1); (try clear ho2)) | ((with_reducible refine gate_dst (N := 9) rfl ?_); (try (refine gate_guard (by rfl) ?_; dsimp only)); refine box_event ?hg (N := 9) ?hd (cs := #[.slice none 0 0, .slice none 0 0, .slice none 0 0]) (t := 39) ?hr ?_; (case hd => rfl); (case hg => rfl); (case hr => first | (go_simp; done) | (go_simp; rfl)); intro gb543 hg w13 hbox hb; have n0_ := Aside0.mk (Kd.R_below (by (with_reducible repeat (first | apply Kd.R_alloc | apply Kd.R_drewN | apply Kd.R_drew)); exact HO536.out) hb); have n1_ := Aside0.mk (Kd.R_below (by (with_reducible repeat (first | apply Kd.R_alloc | apply Kd.R_drewN | apply Kd.R_drew)); exact HO539.out) hb); have n2_ := Aside0.mk (Kd.R_below (by (with_reducible repeat (first | apply Kd.R_alloc | apply Kd.R_drewN | apply Kd.R_drew)); exact HO542.out) hb); have n3_ := Aside0.mk (below_step (by repeat (first | (with_reducible first | exact HB.out | apply below_alloc | apply pw_below_drewN | apply below_drew1) | exact HB.out)) hb); have n4_ := Aside0.mk (hbox); have n5_ := Aside0.mk ((by rw [hg]; exact (below_size (by repeat (first | (with_reducible first | exact HB.out | apply below_alloc | apply pw_below_drewN | apply below_drew1) | exact HB.out))) : w.heap.size ≤ gb543)); have n6_ := Aside0.mk ((by rw [hg]; exact (below_size (by repeat (first | (with_reducible first | exact HB.out | apply below_alloc | apply pw_below_drewN | apply below_drew1) | exact HB.out))) : w.heap.size ≤ gb543)); clear HO536; clear HO539; clear HO542; clear HB; have HO536 := n0_; have HO539 := n1_; have HO542 := n2_; have HB := n3_; have BK543 := n4_; have GW543 := n5_; have GE543 := n6_; clear n0_ n1_ n2_ n3_ n4_ n5_ n6_; clear hb hbox hg; obtain ⟨Ao14, co14, eo14⟩ := Kd.R_slice HO536.out; subst eo14; have hcz15_0 : w13.cell? ⟨gb543, 0, none⟩ = some (.slice none 0 0) := (blk_cell BK543.out 0).trans rfl; have hcz15_1 : w13.cell? ⟨gb543, 1, none⟩ = some (.slice none 0 0) := (blk_cell BK543.out 1).trans rfl; have hcz15_2 : w13.cell? ⟨gb543, 2, none⟩ = some (.slice none 0 0) := (blk_cell BK543.out 2).trans rfl; have hfz15_0 := blk_frozen BK543.out 0; have hfz15_1 := blk_frozen BK543.out 1; have hfz15_2 := blk_frozen BK543.out 2; obtain ⟨Ao16, co16, eo16⟩ := Kd.R_slice HO539.out; subst eo16; obtain ⟨Ao17, co17, eo17⟩ := Kd.R_slice HO542.out; subst eo17))
        go_loopg [10, 11] kj4 (fun kq v10 v11 w' => ∃ (x10_2 : Int) (x11_2 : Int), v10 = .int .i64 x10_2 ∧ v11 = .int .i64 x11_2 ∧ Aside0 (unicodetextlaw14_SeqpoolSaves.l0 kq l0 a1 a2 a3 x10_2 x11_2 t534 t537 t540 = some r) ∧ Aside0 (kq ≤ kj4) ∧ Aside0 (Kd.R (Kd.int .i64) 3 w' w.heap.size (fun k_ => some k_ ≠ ((.slice Ao16 t537.length co16) : Value).ownBlock ∧ some k_ ≠ ((.slice Ao17 t540.length co17) : Value).ownBlock) (.slice Ao14 t534.length co14) t534) ∧ Aside0 (Kd.R (Kd.int .i64) 3 w' w.heap.size (fun k_ => some k_ ≠ ((.slice Ao14 t534.length co14) : Value).ownBlock ∧ some k_ ≠ ((.slice Ao17 t540.length co17) : Value).ownBlock) (.slice Ao16 t537.length co16) t537) ∧ Aside0 (Kd.R (Kd.int .i64) 3 w' w.heap.size (fun k_ => some k_ ≠ ((.slice Ao14 t534.length co14) : Value).ownBlock ∧ some k_ ≠ ((.slice Ao16 t537.length co16) : Value).ownBlock) (.slice Ao17 t540.length co17) t540) ∧ Aside0 (w'.heap[gb543]? = some (.cells #[(.slice Ao14 t534.length co14), (.slice Ao16 t537.length co16), (.slice Ao17 t540.length co17)] 39 (0, 0))) ∧ Aside0 (Below w.heap.size w w'))
        case atStart => exact ⟨(0), (0), (by first | rfl | (simp; done) | (simp [*]; done)), (by first | rfl | (simp; done) | (simp [*]; done)), H', ⟨Nat.le_refl _⟩, ⟨by (with_reducible repeat (first | apply Kd.R_alloc | apply Kd.R_drewN | apply Kd.R_drew)); exact Kd.R_mono (Kd.R_far (p := ⟨gb543, 2, none⟩) (Kd.R_far (p := ⟨gb543, 1, none⟩) (Kd.R_far (p := ⟨gb543, 0, none⟩) (Kd.R_types HO536.out BK543.out (by decide)) (fun _ hk => hk.2) (.slice Ao14 t534.length co14)) (fun _ hk => hk.2) (.slice Ao16 t537.length co16)) (fun _ hk => hk.2) (.slice Ao17 t540.length co17)) (fun _ hk => ⟨hk.1.1, hk.1.2⟩)⟩, ⟨by (with_reducible repeat (first | apply Kd.R_alloc | apply Kd.R_drewN | apply Kd.R_drew)); exact Kd.R_mono (Kd.R_far (p := ⟨gb543, 2, none⟩) (Kd.R_far (p := ⟨gb543, 1, none⟩) (Kd.R_far (p := ⟨gb543, 0, none⟩) (Kd.R_types HO539.out BK543.out (by decide)) (fun _ hk => hk.2) (.slice Ao14 t534.length co14)) (fun _ hk => hk.2) (.slice Ao16 t537.length co16)) (fun _ hk => hk.2) (.slice Ao17 t540.length co17)) (fun _ hk => ⟨hk.1.1, hk.1.2⟩)⟩, ⟨by (with_reducible repeat (first | apply Kd.R_alloc | apply Kd.R_drewN | apply Kd.R_drew)); exact Kd.R_mono (Kd.R_far (p := ⟨gb543, 2, none⟩) (Kd.R_far (p := ⟨gb543, 1, none⟩) (Kd.R_far (p := ⟨gb543, 0, none⟩) (Kd.R_types HO542.out BK543.out (by decide)) (fun _ hk => hk.2) (.slice Ao14 t534.length co14)) (fun _ hk => hk.2) (.slice Ao16 t537.length co16)) (fun _ hk => hk.2) (.slice Ao17 t540.length co17)) (fun _ hk => ⟨hk.1.1, hk.1.2⟩)⟩, ⟨by (with_reducible repeat (first | refine blk_drewN ?_ _ | refine blk_drew ?_ | refine blk_alloc ?_ _)); refine blk_put (cs := #[.slice Ao14 t534.length co14, .slice Ao16 t537.length co16, .slice none 0 0]) ?_ 2 _ rfl; (with_reducible repeat (first | refine blk_drewN ?_ _ | refine blk_drew ?_ | refine blk_alloc ?_ _)); refine blk_put (cs := #[.slice Ao14 t534.length co14, .slice none 0 0, .slice none 0 0]) ?_ 1 _ rfl; (with_reducible repeat (first | refine blk_drewN ?_ _ | refine blk_drew ?_ | refine blk_alloc ?_ _)); refine blk_put (cs := #[.slice none 0 0, .slice none 0 0, .slice none 0 0]) ?_ 0 _ rfl; (with_reducible repeat (first | refine blk_drewN ?_ _ | refine blk_drew ?_ | refine blk_alloc ?_ _)); exact BK543.out⟩, ⟨by repeat (first | (with_reducible first | exact HB.out | apply below_alloc | apply pw_below_drewN | apply below_drew1 | refine below_set ?_ GE543.out) | exact HB.out)⟩⟩
        case round =>
          clear H'
          try clear c1
          try clear p2
          try clear c3
          try clear c7
          try clear c8
          try clear c11
          try clear hcz15_0
          try clear hcz15_1
          try clear hcz15_2
          try clear hfz15_0
          try clear hfz15_1
          try clear hfz15_2
          try clear p2
          obtain ⟨x10_2, x11_2, rfl, rfl, HA, HK2, HO_544000, HO_544001, HO_544002, BK543, HB⟩ := hrel
          cases gk with
          | zero => exact absurd HA.out (by simp [unicodetextlaw14_SeqpoolSaves.l0])
          | succ k2 =>
            have H := HA.out
            clear HA
            simp only [unicodetextlaw14_SeqpoolSaves.l0] at H
            by_cases c18 : x11_2 < (l0.length : Int)
            · rw [if_pos c18] at H
              have c18b0 : decide (x11_2 < (l0.length : Int)) = true := decide_eq_true c18
              clear c18
              by_cases c19 : 0 ≤ x11_2
              · rw [if_pos c19] at H
                have c19b0 : decide (0 ≤ x11_2) = true := decide_eq_true c19
                clear c19
                have H' := Aside0.mk H
                clear H
                have p544 : 0 ≤ (x11_2 : Int) := of_decide_eq_true (by first | (with_reducible assumption) | assumption)
                have q544 : x11_2 < (l0.length : Int) := of_decide_eq_true (by first | (with_reducible assumption) | assumption)
                obtain ⟨ad544, A544_0, c544_0, e544, hx544_0, hl544_0, hi544_0⟩ := at_L2 HR0.out x11_2 p544 q544
                cases e544
                replace hx544_0 := (HB.out.cell (World.block_lt_of_cell? w _ hx544_0)).trans hx544_0
                have HR544_0 := Aside0.mk hi544_0
                have HC544_0 := Aside0.mk hl544_0
                clear hi544_0 hl544_0
                replace p544 := eq_true p544
                replace q544 := eq_true q544
                go_wp2
                go_roundg k2
                case measure => have := HJ4.out; have := HK2.out; omega
                case rel => exact ⟨(wrap64 (x10_2 + ((rd_L2 l0 x11_2).length : Int))), (wrap64 (x11_2 + 1)), (by first | rfl | (simp; done) | (simp [*]; done)), (by first | rfl | (simp; done) | (simp [*]; done)), H', ⟨by have := HJ4.out; have := HK2.out; omega⟩, ⟨by (with_reducible repeat (first | apply Kd.R_alloc | apply Kd.R_drewN | apply Kd.R_drew)); exact HO_544000.out⟩, ⟨by (with_reducible repeat (first | apply Kd.R_alloc | apply Kd.R_drewN | apply Kd.R_drew)); exact HO_544001.out⟩, ⟨by (with_reducible repeat (first | apply Kd.R_alloc | apply Kd.R_drewN | apply Kd.R_drew)); exact HO_544002.out⟩, ⟨by (with_reducible repeat (first | refine blk_drewN ?_ _ | refine blk_drew ?_ | refine blk_alloc ?_ _)); exact BK543.out⟩, ⟨by repeat (first | (with_reducible first | exact HB.out | apply below_alloc | apply pw_below_drewN | apply below_drew1 | refine below_set ?_ GE543.out) | exact HB.out)⟩⟩
              · rw [if_neg c19] at H
                exact absurd H (by simp)
            · rw [if_neg c18] at H
              have c18b0 : decide (x11_2 < (l0.length : Int)) = false := decide_eq_false c18
              clear c18
              by_cases c20 : (l0.length : Int) = 0
              · rw [if_pos c20] at H
                exact absurd H (by simp)
              · rw [if_neg c20] at H
                have c20b0 : ((l0.length : Int) == 0) = false := beq_eq_false_iff_ne.mpr c20
                have c20b1 : ((l0.length : Int) != 0) = true := bne_iff_ne.mpr c20
                have c20b2 : ¬ (l0 = []) := fun h_ => c20 (by rw [h_]; rfl)
                obtain ⟨ji21, hji21⟩ : ∃ j_ : Int, (Int.tmod (wrap64 (a1)) (l0.length : Int)) = j_ := ⟨_, rfl⟩
                replace H : (if 0 ≤ (ji21) then (if (ji21) < (l0.length : Int) then (if (wrap64 (((rd_L2 l0 (ji21)).length : Int) + 1)) = 0 then (none) else (if (wrap64 ((wrap64 (((rd_L2 l0 (ji21)).length : Int) + 1)) - (Int.tmod (wrap64 (a2)) (wrap64 (((rd_L2 l0 (ji21)).length : Int) + 1))))) = 0 then (none) else (if 0 ≤ (Int.tmod (wrap64 (a2)) (wrap64 (((rd_L2 l0 (ji21)).length : Int) + 1))) then (if (Int.tmod (wrap64 (a2)) (wrap64 (((rd_L2 l0 (ji21)).length : Int) + 1))) ≤ (wrap64 ((Int.tmod (wrap64 (a2)) (wrap64 (((rd_L2 l0 (ji21)).length : Int) + 1))) + (Int.tmod (wrap64 (a3)) (wrap64 ((wrap64 (((rd_L2 l0 (ji21)).length : Int) + 1)) - (Int.tmod (wrap64 (a2)) (wrap64 (((rd_L2 l0 (ji21)).length : Int) + 1)))))))) then (if (wrap64 ((Int.tmod (wrap64 (a2)) (wrap64 (((rd_L2 l0 (ji21)).length : Int) + 1))) + (Int.tmod (wrap64 (a3)) (wrap64 ((wrap64 (((rd_L2 l0 (ji21)).length : Int) + 1)) - (Int.tmod (wrap64 (a2)) (wrap64 (((rd_L2 l0 (ji21)).length : Int) + 1)))))))) ≤ ((rd_L2 l0 (ji21)).length : Int) then ((seqpool_Add.f t534 t537 t540 (((rd_L2 l0 (ji21)).take ((wrap64 ((Int.tmod (wrap64 (a2)) (wrap64 (((rd_L2 l0 (ji21)).length : Int) + 1))) + (Int.tmod (wrap64 (a3)) (wrap64 ((wrap64 (((rd_L2 l0 (ji21)).length : Int) + 1)) - (Int.tmod (wrap64 (a2)) (wrap64 (((rd_L2 l0 (ji21)).length : Int) + 1)))))))) : Int).toNat).drop ((Int.tmod (wrap64 (a2)) (wrap64 (((rd_L2 l0 (ji21)).length : Int) + 1))) : Int).toNat)).bind fun bt547 => (if (t534.length : Int) ≤ x10_2 then ((unicodetextref01_Equal.f k2 bt547.1 t534).bind fun t558 => (if t558 = true then (if bt547.2.2.2 = (l0.length : Int) then ((law14_alive.f).bind fun t559 => (some t559)) else (some false)) else (some false))) else (some false))) else (none)) else (none)) else (none)))) else (none)) else (none)) = some r := by first | (rw [hji21] at H; exact H) | (simp only [hji21] at H ⊢; exact H)
                by_cases c22 : 0 ≤ (ji21)
                · rw [if_pos c22] at H
                  have c22b0 : decide (0 ≤ (ji21)) = true := decide_eq_true c22
                  clear c22
                  by_cases c23 : (ji21) < (l0.length : Int)
                  · rw [if_pos c23] at H
                    have c23b0 : decide ((ji21) < (l0.length : Int)) = true := decide_eq_true c23
                    clear c23
                    by_cases c24 : (wrap64 (((rd_L2 l0 (ji21)).length : Int) + 1)) = 0
                    · rw [if_pos c24] at H
                      exact absurd H (by simp)
                    · rw [if_neg c24] at H
                      have c24b0 : ((wrap64 (((rd_L2 l0 (ji21)).length : Int) + 1)) == 0) = false := beq_eq_false_iff_ne.mpr c24
                      have c24b1 : ((wrap64 (((rd_L2 l0 (ji21)).length : Int) + 1)) != 0) = true := bne_iff_ne.mpr c24
                      by_cases c25 : (wrap64 ((wrap64 (((rd_L2 l0 (ji21)).length : Int) + 1)) - (Int.tmod (wrap64 (a2)) (wrap64 (((rd_L2 l0 (ji21)).length : Int) + 1))))) = 0
                      · rw [if_pos c25] at H
                        exact absurd H (by simp)
                      · rw [if_neg c25] at H
                        have c25b0 : ((wrap64 ((wrap64 (((rd_L2 l0 (ji21)).length : Int) + 1)) - (Int.tmod (wrap64 (a2)) (wrap64 (((rd_L2 l0 (ji21)).length : Int) + 1))))) == 0) = false := beq_eq_false_iff_ne.mpr c25
                        have c25b1 : ((wrap64 ((wrap64 (((rd_L2 l0 (ji21)).length : Int) + 1)) - (Int.tmod (wrap64 (a2)) (wrap64 (((rd_L2 l0 (ji21)).length : Int) + 1))))) != 0) = true := bne_iff_ne.mpr c25
                        obtain ⟨ji26, hji26⟩ : ∃ j_ : Int, (Int.tmod (wrap64 (a2)) (wrap64 (((rd_L2 l0 (ji21)).length : Int) + 1))) = j_ := ⟨_, rfl⟩
                        replace H : (if 0 ≤ (ji26) then (if (ji26) ≤ (wrap64 ((ji26) + (Int.tmod (wrap64 (a3)) (wrap64 ((wrap64 (((rd_L2 l0 (ji21)).length : Int) + 1)) - (ji26)))))) then (if (wrap64 ((ji26) + (Int.tmod (wrap64 (a3)) (wrap64 ((wrap64 (((rd_L2 l0 (ji21)).length : Int) + 1)) - (ji26)))))) ≤ ((rd_L2 l0 (ji21)).length : Int) then ((seqpool_Add.f t534 t537 t540 (((rd_L2 l0 (ji21)).take ((wrap64 ((ji26) + (Int.tmod (wrap64 (a3)) (wrap64 ((wrap64 (((rd_L2 l0 (ji21)).length : Int) + 1)) - (ji26)))))) : Int).toNat).drop ((ji26) : Int).toNat)).bind fun bt547 => (if (t534.length : Int) ≤ x10_2 then ((unicodetextref01_Equal.f k2 bt547.1 t534).bind fun t558 => (if t558 = true then (if bt547.2.2.2 = (l0.length : Int) then ((law14_alive.f).bind fun t559 => (some t559)) else (some false)) else (some false))) else (some false))) else (none)) else (none)) else (none)) = some r := by first | (rw [hji26] at H; exact H) | (simp only [hji26] at H ⊢; exact H)
                        (try rw [hji26] at c25b0)
                        (try rw [hji26] at c25)
                        (try rw [hji26] at c25b1)
                        by_cases c27 : 0 ≤ (ji26)
                        · rw [if_pos c27] at H
                          have c27b0 := eq_true c27
                          have c27b1 : decide (0 ≤ (ji26)) = true := decide_eq_true c27
                          clear c27
                          by_cases c28 : (ji26) ≤ (wrap64 ((ji26) + (Int.tmod (wrap64 (a3)) (wrap64 ((wrap64 (((rd_L2 l0 (ji21)).length : Int) + 1)) - (ji26))))))
                          · rw [if_pos c28] at H
                            have c28b0 := eq_true c28
                            have c28b1 : decide ((ji26) ≤ (wrap64 ((ji26) + (Int.tmod (wrap64 (a3)) (wrap64 ((wrap64 (((rd_L2 l0 (ji21)).length : Int) + 1)) - (ji26))))))) = true := decide_eq_true c28
                            by_cases c29 : (wrap64 ((ji26) + (Int.tmod (wrap64 (a3)) (wrap64 ((wrap64 (((rd_L2 l0 (ji21)).length : Int) + 1)) - (ji26)))))) ≤ ((rd_L2 l0 (ji21)).length : Int)
                            · rw [if_pos c29] at H
                              have c29b0 := eq_true c29
                              have c29b1 : decide ((wrap64 ((ji26) + (Int.tmod (wrap64 (a3)) (wrap64 ((wrap64 (((rd_L2 l0 (ji21)).length : Int) + 1)) - (ji26)))))) ≤ ((rd_L2 l0 (ji21)).length : Int)) = true := decide_eq_true c29
                              replace H := Option.bind_eq_some_iff.mp H
                              obtain ⟨⟨t547, t550, t553, t556⟩, A300, H⟩ := H
                              replace H : (if (t534.length : Int) ≤ x10_2 then ((unicodetextref01_Equal.f k2 t547 t534).bind fun t558 => (if t558 = true then (if t556 = (l0.length : Int) then ((law14_alive.f).bind fun t559 => (some t559)) else (some false)) else (some false))) else (some false)) = some r := H
                              have A30 := Aside0.mk A300
                              clear A300
                              by_cases c31 : (t534.length : Int) ≤ x10_2
                              · rw [if_pos c31] at H
                                have c31b0 : decide ((t534.length : Int) ≤ x10_2) = true := decide_eq_true c31
                                clear c31
                                replace H := Option.bind_eq_some_iff.mp H
                                obtain ⟨t558, A320, H⟩ := H
                                replace H : (if t558 = true then (if t556 = (l0.length : Int) then ((law14_alive.f).bind fun t559 => (some t559)) else (some false)) else (some false)) = some r := H
                                have A32 := Aside0.mk A320
                                clear A320
                                by_cases c33 : t558 = true
                                · subst c33
                                  have H1 : (if t556 = (l0.length : Int) then ((law14_alive.f).bind fun t559 => (some t559)) else (some false)) = some r := by rw [if_pos rfl] at H; exact H
                                  clear H
                                  have H := H1
                                  clear H1
                                  by_cases c34 : t556 = (l0.length : Int)
                                  · rw [if_pos c34] at H
                                    have c34b0 : (t556 == (l0.length : Int)) = true := beq_iff_eq.mpr c34
                                    have c34b1 : (t556 != (l0.length : Int)) = false := bne_eq_false_iff_eq.mpr c34
                                    clear c34
                                    replace H := Option.bind_eq_some_iff.mp H
                                    obtain ⟨t559, A350, H⟩ := H
                                    replace H : (some t559) = some r := H
                                    have A35 := Aside0.mk A350
                                    clear A350
                                    obtain rfl := Option.some.inj H
                                    have p545 : 0 ≤ ((ji21) : Int) := of_decide_eq_true (by first | (with_reducible assumption) | assumption)
                                    have q545 : (ji21) < (l0.length : Int) := of_decide_eq_true (by first | (with_reducible assumption) | assumption)
                                    obtain ⟨ad545, A545_0, c545_0, e545, hx545_0, hl545_0, hi545_0⟩ := at_L2 HR0.out (ji21) p545 q545
                                    cases e545
                                    replace hx545_0 := (HB.out.cell (World.block_lt_of_cell? w _ hx545_0)).trans hx545_0
                                    have HR545_0 := Aside0.mk hi545_0
                                    have HC545_0 := Aside0.mk hl545_0
                                    clear hi545_0 hl545_0
                                    replace p545 := eq_true p545
                                    replace q545 := eq_true q545
                                    try go_wp2
                                    have n0_ := Aside0.mk (Kd.R_drew HO_544000.out)
                                    have n1_ := Aside0.mk (Kd.R_drew HO_544001.out)
                                    have n2_ := Aside0.mk (Kd.R_drew HO_544002.out)
                                    have n3_ := Aside0.mk (blk_drew BK543.out)
                                    have n4_ := Aside0.mk (below_drew1 HB.out)
                                    clear HO_544000
                                    clear HO_544001
                                    clear HO_544002
                                    clear BK543
                                    clear HB
                                    have HO_544000 := n0_
                                    have HO_544001 := n1_
                                    have HO_544002 := n2_
                                    have BK543 := n3_
                                    have HB := n4_
                                    clear n0_ n1_ n2_ n3_ n4_
                                    obtain ⟨i037, hi037, _, hsz37, _⟩ := info_parts info3
                                    obtain ⟨A37, hcut37, hA37, hC37⟩ := print_mid_of (P := Try.prog) (Value.int .i64) 0 26 3 .i64 .i64 Try.underlying26 hi037 hsz37 A545_0 c545_0 (rd_L2 l0 (ji21)) (ji26) (wrap64 ((ji26) + (Int.tmod (wrap64 (a3)) (wrap64 ((wrap64 (((rd_L2 l0 (ji21)).length : Int) + 1)) - (ji26)))))) (of_decide_eq_true (by first | (with_reducible assumption) | assumption)) (by first | omega | exact of_decide_eq_true (by first | (with_reducible assumption) | assumption)) (of_decide_eq_true (by first | (with_reducible assumption) | assumption)) HC545_0.out
                                    have HR546 := Aside0.mk (Kd.C_of_reads (h1 := fun _ => rfl) (hA37 _ (Kd.reads_of_C HR545_0.out)))
                                    have HC546 := Aside0.mk hC37
                                    clear hA37 hC37 hi037 hsz37
                                    refine start_ (n := 12) (S := fun w' => w'.cell? ⟨gb543, 0, none⟩ = some (.slice Ao14 t534.length co14) ∧ w'.cell? ⟨gb543, 1, none⟩ = some (.slice Ao16 t537.length co16) ∧ w'.cell? ⟨gb543, 2, none⟩ = some (.slice Ao17 t540.length co17)) (ds := []) #[false, false, false, false, false, false, false, false, false, false, false, false] (by kernel_rfl) rfl rfl ⟨(blk_cell BK543.out 0).trans rfl, (blk_cell BK543.out 1).trans rfl, (blk_cell BK543.out 2).trans rfl⟩ (fun hHeld => ?_); refine with_tabW unicodetextlaw14_SeqpoolSaves.tab12 unicodetextlaw14_SeqpoolSaves.bits12 (fun HT_ HW_ => ?_)
                                    generalize wr.drew = w36 at HO_544000 HO_544001 HO_544002 BK543 HB HR546 hHeld ⊢
                                    refine pure_ (i := 1) (N := some 67) (v := ?_) (a' := ?_) #[false, true, false, false, false, false, false, false, false, false, false, false] rfl rfl (any_of HT_.out (by kernel_rfl)) (fun _ _ _ h => h) (Or.inl ⟨by rfl, ?_⟩) ?_ ?_
                                    rotate_left
                                    · intro w'
                                      go_simp
                                      with_reducible rfl
                                    rotate_left
                                    · simp only [Act.put, List.setIfInBounds_toArray, List.set_cons_zero, List.set_cons_succ, i64_w, i32_w]
                                      rfl
                                    refine pure_ (i := 2) (N := some 68) (v := ?_) (a' := ?_) #[false, true, true, false, false, false, false, false, false, false, false, false] rfl rfl (any_of HT_.out (by kernel_rfl)) (fun _ _ _ h => h) (Or.inl ⟨by rfl, ?_⟩) ?_ ?_
                                    rotate_left
                                    · intro w'
                                      go_simp
                                      with_reducible rfl
                                    rotate_left
                                    · simp only [Act.put, List.setIfInBounds_toArray, List.set_cons_zero, List.set_cons_succ, i64_w, i32_w]
                                      rfl
                                    refine pure_ (i := 3) (N := some 69) (v := ?_) (a' := ?_) #[false, true, true, true, false, false, false, false, false, false, false, false] rfl rfl (any_of HT_.out (by kernel_rfl)) (fun _ _ _ h => h) (Or.inl ⟨by rfl, ?_⟩) ?_ ?_
                                    rotate_left
                                    · intro w'
                                      go_simp
                                      with_reducible rfl
                                    rotate_left
                                    · simp only [Act.put, List.setIfInBounds_toArray, List.set_cons_zero, List.set_cons_succ, i64_w, i32_w]
                                      rfl
                                    refine pure_ (i := 4) (N := some 70) (v := ?_) (a' := ?_) #[false, true, true, true, true, false, false, false, false, false, false, false] rfl rfl (any_of HT_.out (by kernel_rfl)) (fun _ _ _ h => h) (Or.inl ⟨by rfl, ?_⟩) ?_ ?_
                                    rotate_left
                                    · intro w'
                                      go_simp
                                      with_reducible rfl
                                    rotate_left
                                    · simp only [Act.put, List.setIfInBounds_toArray, List.set_cons_zero, List.set_cons_succ, i64_w, i32_w]
                                      rfl
                                    refine take_ (i := 0) (N := some 66) (v := ?_) (a' := ?_) #[true, true, true, true, true, false, false, false, false, false, false, false] rfl rfl (take_ofW HT_.out HW_.out (by kernel_rfl)) (fun _ _ _ h => h) (Or.inl ⟨by rfl, ?_⟩) hHeld ?_ ?_
                                    rotate_left
                                    · rintro w' ⟨s0, s1, s2⟩
                                      go_simp
                                      with_reducible rfl
                                    rotate_left
                                    · simp only [Act.put, List.setIfInBounds_toArray, List.set_cons_zero, List.set_cons_succ, i64_w, i32_w]
                                      rfl
                                    refine join_ (σ := Value × Value × Value × Nat) 2 #[true, true, true, true, true, true, true, true, true, true, false, false] (fun s_ => [(71, .tuple #[.agg #[s_.1, s_.2.1, s_.2.2.1], .int .i64 t556]), (15, .pointer (some ⟨s_.2.2.2, 0, none⟩)), (65, .tuple #[.agg #[s_.1, s_.2.1, s_.2.2.1], .int .i64 t556]), (72, .agg #[s_.1, s_.2.1, s_.2.2.1]), (73, .int .i64 t556)]) (fun s_ w' => (w'.cell? ⟨gb543, 0, none⟩ = some (.slice Ao14 t534.length co14) ∧ w'.cell? ⟨gb543, 1, none⟩ = some (.slice Ao16 t537.length co16) ∧ w'.cell? ⟨gb543, 2, none⟩ = some (.slice Ao17 t540.length co17)) ∧ (Kd.R (Kd.int .i64) 3 w' w.heap.size (fun k_ => some k_ ≠ (s_.2.1 : Value).ownBlock ∧ some k_ ≠ (s_.2.2.1 : Value).ownBlock ∧ some k_ ≠ (.slice Ao14 t534.length co14 : Value).ownBlock ∧ some k_ ≠ (.slice Ao16 t537.length co16 : Value).ownBlock ∧ some k_ ≠ (.slice Ao17 t540.length co17 : Value).ownBlock) s_.1 t547) ∧ (Kd.R (Kd.int .i64) 3 w' w.heap.size (fun k_ => some k_ ≠ (s_.1 : Value).ownBlock ∧ some k_ ≠ (s_.2.2.1 : Value).ownBlock ∧ some k_ ≠ (.slice Ao14 t534.length co14 : Value).ownBlock ∧ some k_ ≠ (.slice Ao16 t537.length co16 : Value).ownBlock ∧ some k_ ≠ (.slice Ao17 t540.length co17 : Value).ownBlock) s_.2.1 t550) ∧ (Kd.R (Kd.int .i64) 3 w' w.heap.size (fun k_ => some k_ ≠ (s_.1 : Value).ownBlock ∧ some k_ ≠ (s_.2.1 : Value).ownBlock ∧ some k_ ≠ (.slice Ao14 t534.length co14 : Value).ownBlock ∧ some k_ ≠ (.slice Ao16 t537.length co16 : Value).ownBlock ∧ some k_ ≠ (.slice Ao17 t540.length co17 : Value).ownBlock) s_.2.2.1 t553) ∧ (Kd.R (Kd.int .i64) 3 w' w.heap.size (fun k_ => some k_ ≠ (s_.1 : Value).ownBlock ∧ some k_ ≠ (s_.2.1 : Value).ownBlock ∧ some k_ ≠ (s_.2.2.1 : Value).ownBlock ∧ some k_ ≠ (.slice Ao16 t537.length co16 : Value).ownBlock ∧ some k_ ≠ (.slice Ao17 t540.length co17 : Value).ownBlock) (.slice Ao14 t534.length co14) t534) ∧ (Kd.R (Kd.int .i64) 3 w' w.heap.size (fun k_ => some k_ ≠ (s_.1 : Value).ownBlock ∧ some k_ ≠ (s_.2.1 : Value).ownBlock ∧ some k_ ≠ (s_.2.2.1 : Value).ownBlock ∧ some k_ ≠ (.slice Ao14 t534.length co14 : Value).ownBlock ∧ some k_ ≠ (.slice Ao17 t540.length co17 : Value).ownBlock) (.slice Ao16 t537.length co16) t537) ∧ (Kd.R (Kd.int .i64) 3 w' w.heap.size (fun k_ => some k_ ≠ (s_.1 : Value).ownBlock ∧ some k_ ≠ (s_.2.1 : Value).ownBlock ∧ some k_ ≠ (s_.2.2.1 : Value).ownBlock ∧ some k_ ≠ (.slice Ao14 t534.length co14 : Value).ownBlock ∧ some k_ ≠ (.slice Ao16 t537.length co16 : Value).ownBlock) (.slice Ao17 t540.length co17) t540) ∧ (w'.heap[gb543]? = some (.cells #[.slice Ao14 t534.length co14, .slice Ao16 t537.length co16, .slice Ao17 t540.length co17] 39 (0, 0))) ∧ (w'.heap[s_.2.2.2]? = some (.cells #[.slice none 0 0, .slice none 0 0, .slice none 0 0] 39 (0, 0))) ∧ (w.heap.size ≤ s_.2.2.2) ∧ (w.heap.size ≤ s_.2.2.2) ∧ (gb543 ≠ s_.2.2.2) ∧ (s_.2.2.2 ≠ gb543) ∧ (Below w.heap.size w w')) ?_ ?_
                                    rotate_left
                                    · intro hCont
                                      refine two_ (i := 5) (j := 9) (Ni := some 71) (Nj := some 15) #[true, true, true, true, true, true, false, false, false, false, false, false] #[true, true, true, true, true, false, false, false, false, true, false, false] rfl rfl rfl rfl (two_of HT_.out (by kernel_rfl)) (by decide) (by decide) (fun K hK => ?_) (fun K hK => ?_)
                                      · skip
                                        refine goes_ Try.func41 (by kernel_rfl) rfl #[.agg #[.slice Ao14 t534.length co14, .slice Ao16 t537.length co16, .slice Ao17 t540.length co17], .slice A37 (((rd_L2 l0 (ji21)).take ((wrap64 ((ji26) + (Int.tmod (wrap64 (a3)) (wrap64 ((wrap64 (((rd_L2 l0 (ji21)).length : Int) + 1)) - (ji26)))))) : Int).toNat).drop ((ji26) : Int).toNat).length (c545_0 - (ji26).toNat)] (by rfl) rfl rfl (by (try simp only [List.map_toArray, List.map_cons, List.map_nil]); first | done | (rw [show (((rd_L2 l0 (ji21)).take ((wrap64 ((ji26) + (Int.tmod (wrap64 (a3)) (wrap64 ((wrap64 (((rd_L2 l0 (ji21)).length : Int) + 1)) - (ji26)))))) : Int).toNat).drop ((ji26) : Int).toNat).length = ((wrap64 ((ji26) + (Int.tmod (wrap64 (a3)) (wrap64 ((wrap64 (((rd_L2 l0 (ji21)).length : Int) + 1)) - (ji26)))))).toNat - (ji26).toNat) from (by rw [List.length_drop, List.length_take]; have h_ : ((wrap64 ((ji26) + (Int.tmod (wrap64 (a3)) (wrap64 ((wrap64 (((rd_L2 l0 (ji21)).length : Int) + 1)) - (ji26)))))) : Int) ≤ ((rd_L2 l0 (ji21)).length : Int) := of_decide_eq_true (by first | (with_reducible assumption) | assumption); omega)] <;> rfl) | (simp only [hji21, hji26]; rfl) | rfl | (simp only [List.length_drop, List.length_take]; rfl)) ?_
                                        with_reducible refine (seqpool_Add.calls _ _ t534 _ _ t537 _ _ t540 _ _ (((rd_L2 l0 (ji21)).take ((wrap64 ((ji26) + (Int.tmod (wrap64 (a3)) (wrap64 ((wrap64 (((rd_L2 l0 (ji21)).length : Int) + 1)) - (ji26)))))) : Int).toNat).drop ((ji26) : Int).toNat) t547 t550 t553 t556 _ ?side1 ?side2 ?side3 ?side4 ?side5 ?side6 ?side7 ?side8 A30.out).mono ?_
                                        (case side1 => repeat (first | exact (Kd.R_reads' HO_544000.out).2.2 | (with_reducible refine Kd.C_alloc ?_ _) | (with_reducible refine Kd.C_drewN ?_ _) | (with_reducible refine Kd.C_drew ?_)))
                                        (case side2 => exact (Kd.R_reads' HO_544000.out).2.1)
                                        (case side3 => repeat (first | exact (Kd.R_reads' HO_544001.out).2.2 | (with_reducible refine Kd.C_alloc ?_ _) | (with_reducible refine Kd.C_drewN ?_ _) | (with_reducible refine Kd.C_drew ?_)))
                                        (case side4 => exact (Kd.R_reads' HO_544001.out).2.1)
                                        (case side5 => repeat (first | exact (Kd.R_reads' HO_544002.out).2.2 | (with_reducible refine Kd.C_alloc ?_ _) | (with_reducible refine Kd.C_drewN ?_ _) | (with_reducible refine Kd.C_drew ?_)))
                                        (case side6 => exact (Kd.R_reads' HO_544002.out).2.1)
                                        (case side7 => repeat (first | exact (Kd.C_below HR546.out HB.out) | (with_reducible refine Kd.C_alloc ?_ _) | (with_reducible refine Kd.C_drewN ?_ _) | (with_reducible refine Kd.C_drew ?_)))
                                        (case side8 => exact HC546.out)
                                        rintro e w38 ⟨v548, v551, v554, rfl, ho0, ho1, ho2, hb⟩
                                        refine ⟨_, rfl, ?_⟩
                                        have n0_ := Aside0.mk (Kd.R_mono (Kd.R_told (Kd.R_told (Kd.R_told (Kd.R_old (by (with_reducible repeat (first | apply Kd.R_alloc | apply Kd.R_drewN | apply Kd.R_drew)); exact HO_544000.out) hb) (Kd.R_base ho0)) (Kd.R_base ho1)) (Kd.R_base ho2)) (fun _ h_ => h_.1))
                                        have n1_ := Aside0.mk (Kd.R_mono (Kd.R_told (Kd.R_told (Kd.R_told (Kd.R_old (by (with_reducible repeat (first | apply Kd.R_alloc | apply Kd.R_drewN | apply Kd.R_drew)); exact HO_544001.out) hb) (Kd.R_base ho0)) (Kd.R_base ho1)) (Kd.R_base ho2)) (fun _ h_ => h_.1))
                                        have n2_ := Aside0.mk (Kd.R_mono (Kd.R_told (Kd.R_told (Kd.R_told (Kd.R_old (by (with_reducible repeat (first | apply Kd.R_alloc | apply Kd.R_drewN | apply Kd.R_drew)); exact HO_544002.out) hb) (Kd.R_base ho0)) (Kd.R_base ho1)) (Kd.R_base ho2)) (fun _ h_ => h_.1))
                                        have n3_ := Aside0.mk (Kd.R_lower (Kd.R_new' (Kd.R_new' (Kd.R_new' ho0 (Kd.R_lt (by (with_reducible repeat (first | apply Kd.R_alloc | apply Kd.R_drewN | apply Kd.R_drew)); exact HO_544000.out))) (Kd.R_lt (by (with_reducible repeat (first | apply Kd.R_alloc | apply Kd.R_drewN | apply Kd.R_drew)); exact HO_544001.out))) (Kd.R_lt (by (with_reducible repeat (first | apply Kd.R_alloc | apply Kd.R_drewN | apply Kd.R_drew)); exact HO_544002.out))) (below_size (by repeat (first | (with_reducible first | exact HB.out | apply below_alloc | apply pw_below_drewN | apply below_drew1 | refine below_set ?_ GE543.out) | exact HB.out))))
                                        have n4_ := Aside0.mk (Kd.R_lower (Kd.R_new' (Kd.R_new' (Kd.R_new' ho1 (Kd.R_lt (by (with_reducible repeat (first | apply Kd.R_alloc | apply Kd.R_drewN | apply Kd.R_drew)); exact HO_544000.out))) (Kd.R_lt (by (with_reducible repeat (first | apply Kd.R_alloc | apply Kd.R_drewN | apply Kd.R_drew)); exact HO_544001.out))) (Kd.R_lt (by (with_reducible repeat (first | apply Kd.R_alloc | apply Kd.R_drewN | apply Kd.R_drew)); exact HO_544002.out))) (below_size (by repeat (first | (with_reducible first | exact HB.out | apply below_alloc | apply pw_below_drewN | apply below_drew1 | refine below_set ?_ GE543.out) | exact HB.out))))
                                        have n5_ := Aside0.mk (Kd.R_lower (Kd.R_new' (Kd.R_new' (Kd.R_new' ho2 (Kd.R_lt (by (with_reducible repeat (first | apply Kd.R_alloc | apply Kd.R_drewN | apply Kd.R_drew)); exact HO_544000.out))) (Kd.R_lt (by (with_reducible repeat (first | apply Kd.R_alloc | apply Kd.R_drewN | apply Kd.R_drew)); exact HO_544001.out))) (Kd.R_lt (by (with_reducible repeat (first | apply Kd.R_alloc | apply Kd.R_drewN | apply Kd.R_drew)); exact HO_544002.out))) (below_size (by repeat (first | (with_reducible first | exact HB.out | apply below_alloc | apply pw_below_drewN | apply below_drew1 | refine below_set ?_ GE543.out) | exact HB.out))))
                                        have n6_ := Aside0.mk (blk_below (g := gb543) (o := .cells #[.slice Ao14 t534.length co14, .slice Ao16 t537.length co16, .slice Ao17 t540.length co17] 39 (0, 0)) (by (with_reducible repeat (first | refine blk_drewN ?_ _ | refine blk_drew ?_ | refine blk_alloc ?_ _)); exact BK543.out) hb)
                                        have n7_ := Aside0.mk (below_step (by repeat (first | (with_reducible first | exact HB.out | apply below_alloc | apply pw_below_drewN | apply below_drew1 | refine below_set ?_ GE543.out) | exact HB.out)) hb)
                                        clear HO_544000
                                        clear HO_544001
                                        clear HO_544002
                                        clear BK543
                                        clear HB
                                        have HO_544000 := n0_
                                        have HO_544001 := n1_
                                        have HO_544002 := n2_
                                        have HO549 := n3_
                                        have HO552 := n4_
                                        have HO555 := n5_
                                        have BK543 := n6_
                                        have HB := n7_
                                        clear n0_ n1_ n2_ n3_ n4_ n5_ n6_ n7_
                                        (try clear hb)
                                        (try clear hb2)
                                        (try clear hk)
                                        (try clear hi)
                                        (try clear ho0)
                                        (try clear ho1)
                                        (try clear ho2)
                                        refine hK.out _ _ ⟨(blk_cell BK543.out 0).trans rfl, (blk_cell BK543.out 1).trans rfl, (blk_cell BK543.out 2).trans rfl⟩ (fun hHeld => ?_)
                                        clear hK K
                                        refine norm_ (a' := ?_) ?_ ?_
                                        rotate_left
                                        · show Act.put _ (some 71) _ = _
                                          simp only [Act.put, List.setIfInBounds_toArray, List.set_cons_zero, List.set_cons_succ, i64_w, i32_w]
                                          rfl
                                        refine pure_ (i := 6) (N := some 65) (v := ?_) (a' := ?_) #[true, true, true, true, true, true, true, false, false, false, false, false] rfl rfl (any_of HT_.out (by kernel_rfl)) (fun _ _ _ h => h) (Or.inl ⟨by rfl, ?_⟩) ?_ ?_
                                        rotate_left
                                        · intro w'
                                          go_simp
                                          with_reducible rfl
                                        rotate_left
                                        · simp only [Act.put, List.setIfInBounds_toArray, List.set_cons_zero, List.set_cons_succ, i64_w, i32_w]
                                          rfl
                                        refine pure_ (i := 7) (N := some 72) (v := ?_) (a' := ?_) #[true, true, true, true, true, true, true, true, false, false, false, false] rfl rfl (any_of HT_.out (by kernel_rfl)) (fun _ _ _ h => h) (Or.inl ⟨by rfl, ?_⟩) ?_ ?_
                                        rotate_left
                                        · intro w'
                                          go_simp
                                          with_reducible rfl
                                        rotate_left
                                        · simp only [Act.put, List.setIfInBounds_toArray, List.set_cons_zero, List.set_cons_succ, i64_w, i32_w]
                                          rfl
                                        refine pure_ (i := 8) (N := some 73) (v := ?_) (a' := ?_) #[true, true, true, true, true, true, true, true, true, false, false, false] rfl rfl (any_of HT_.out (by kernel_rfl)) (fun _ _ _ h => h) (Or.inl ⟨by rfl, ?_⟩) ?_ ?_
                                        rotate_left
                                        · intro w'
                                          go_simp
                                          with_reducible rfl
                                        rotate_left
                                        · simp only [Act.put, List.setIfInBounds_toArray, List.set_cons_zero, List.set_cons_succ, i64_w, i32_w]
                                          rfl
                                        refine one_ (i := 9) (N := some 15) #[true, true, true, true, true, true, true, true, true, true, false, false] rfl rfl (one_of HT_.out (by kernel_rfl)) (by decide) (fun K hK => ?_)
                                        refine box_step ?hg (N := 15) ?hd (cs := #[.slice none 0 0, .slice none 0 0, .slice none 0 0]) (t := 39) ?hr ?_; (case hd => rfl); (case hg => rfl); (case hr => first | (go_simp; done) | (go_simp; rfl))
                                        intro gb557 hg w39 hbox hb
                                        have n0_ := Aside0.mk (Kd.R_below (by (with_reducible repeat (first | apply Kd.R_alloc | apply Kd.R_drewN | apply Kd.R_drew)); exact HO_544000.out) hb)
                                        have n1_ := Aside0.mk (Kd.R_below (by (with_reducible repeat (first | apply Kd.R_alloc | apply Kd.R_drewN | apply Kd.R_drew)); exact HO_544001.out) hb)
                                        have n2_ := Aside0.mk (Kd.R_below (by (with_reducible repeat (first | apply Kd.R_alloc | apply Kd.R_drewN | apply Kd.R_drew)); exact HO_544002.out) hb)
                                        have n3_ := Aside0.mk (Kd.R_below (by (with_reducible repeat (first | apply Kd.R_alloc | apply Kd.R_drewN | apply Kd.R_drew)); exact HO549.out) hb)
                                        have n4_ := Aside0.mk (Kd.R_below (by (with_reducible repeat (first | apply Kd.R_alloc | apply Kd.R_drewN | apply Kd.R_drew)); exact HO552.out) hb)
                                        have n5_ := Aside0.mk (Kd.R_below (by (with_reducible repeat (first | apply Kd.R_alloc | apply Kd.R_drewN | apply Kd.R_drew)); exact HO555.out) hb)
                                        have n6_ := Aside0.mk (blk_below (g := gb543) (o := .cells #[.slice Ao14 t534.length co14, .slice Ao16 t537.length co16, .slice Ao17 t540.length co17] 39 (0, 0)) (by (with_reducible repeat (first | refine blk_drewN ?_ _ | refine blk_drew ?_ | refine blk_alloc ?_ _)); exact BK543.out) hb)
                                        have n7_ := Aside0.mk (below_step (by repeat (first | (with_reducible first | exact HB.out | apply below_alloc | apply pw_below_drewN | apply below_drew1 | refine below_set ?_ GE543.out) | exact HB.out)) hb)
                                        have n8_ := Aside0.mk (hbox)
                                        have n9_ := Aside0.mk ((by rw [hg]; exact (below_size (by repeat (first | (with_reducible first | exact HB.out | apply below_alloc | apply pw_below_drewN | apply below_drew1 | refine below_set ?_ GE543.out) | exact HB.out))) : w.heap.size ≤ gb557))
                                        have n10_ := Aside0.mk ((by rw [hg]; exact (below_size (by repeat (first | (with_reducible first | exact HB.out | apply below_alloc | apply pw_below_drewN | apply below_drew1 | refine below_set ?_ GE543.out) | exact HB.out))) : w.heap.size ≤ gb557))
                                        have n11_ := Aside0.mk ((by rw [hg]; exact Nat.ne_of_lt (blk_lt (g := gb543) (o := .cells #[.slice Ao14 t534.length co14, .slice Ao16 t537.length co16, .slice Ao17 t540.length co17] 39 (0, 0)) (by (with_reducible repeat (first | refine blk_drewN ?_ _ | refine blk_drew ?_ | refine blk_alloc ?_ _)); exact BK543.out)) : gb543 ≠ gb557))
                                        have n12_ := Aside0.mk ((by rw [hg]; exact Nat.ne_of_gt (blk_lt (g := gb543) (o := .cells #[.slice Ao14 t534.length co14, .slice Ao16 t537.length co16, .slice Ao17 t540.length co17] 39 (0, 0)) (by (with_reducible repeat (first | refine blk_drewN ?_ _ | refine blk_drew ?_ | refine blk_alloc ?_ _)); exact BK543.out)) : gb557 ≠ gb543))
                                        clear HO_544000
                                        clear HO_544001
                                        clear HO_544002
                                        clear HO549
                                        clear HO552
                                        clear HO555
                                        clear BK543
                                        clear HB
                                        have HO_544000 := n0_
                                        have HO_544001 := n1_
                                        have HO_544002 := n2_
                                        have HO549 := n3_
                                        have HO552 := n4_
                                        have HO555 := n5_
                                        have BK543 := n6_
                                        have HB := n7_
                                        have BK557 := n8_
                                        have GW557 := n9_
                                        have GE557 := n10_
                                        have NB543_557 := n11_
                                        have NB557_543 := n12_
                                        clear n0_ n1_ n2_ n3_ n4_ n5_ n6_ n7_ n8_ n9_ n10_ n11_ n12_
                                        clear hb hbox hg
                                        refine hK.out _ _ ⟨(blk_cell BK543.out 0).trans rfl, (blk_cell BK543.out 1).trans rfl, (blk_cell BK543.out 2).trans rfl⟩ (fun hHeld => ?_)
                                        clear hK K
                                        refine norm_ (a' := ?_) ?_ ?_
                                        rotate_left
                                        · show Act.put _ (some 15) _ = _
                                          simp only [Act.put, List.setIfInBounds_toArray, List.set_cons_zero, List.set_cons_succ, i64_w, i32_w]
                                          rfl
                                        exact norm_ (by simp only [putAll, Act.put, List.setIfInBounds_toArray, List.set_cons_zero, List.set_cons_succ]) (hCont (v548, v551, v554, gb557) _ ⟨hHeld, (by (with_reducible repeat (first | apply Kd.R_alloc | apply Kd.R_drewN | apply Kd.R_drew)); exact Kd.R_mono HO549.out (fun _ hk => ⟨hk.1.1.1.1, ⟨hk.1.1.1.2, ⟨hk.1.1.2, ⟨hk.1.2, hk.2⟩⟩⟩⟩)), (by (with_reducible repeat (first | apply Kd.R_alloc | apply Kd.R_drewN | apply Kd.R_drew)); exact Kd.R_mono HO552.out (fun _ hk => ⟨hk.1.1.1.1, ⟨hk.1.1.1.2, ⟨hk.1.1.2, ⟨hk.1.2, hk.2⟩⟩⟩⟩)), (by (with_reducible repeat (first | apply Kd.R_alloc | apply Kd.R_drewN | apply Kd.R_drew)); exact Kd.R_mono HO555.out (fun _ hk => ⟨hk.1.1.1.1, ⟨hk.1.1.1.2, ⟨hk.1.1.2, ⟨hk.1.2, hk.2⟩⟩⟩⟩)), (by (with_reducible repeat (first | apply Kd.R_alloc | apply Kd.R_drewN | apply Kd.R_drew)); exact Kd.R_mono HO_544000.out (fun _ hk => ⟨hk.1.1.2, ⟨hk.1.2, ⟨hk.2, ⟨hk.1.1.1.1, hk.1.1.1.2⟩⟩⟩⟩)), (by (with_reducible repeat (first | apply Kd.R_alloc | apply Kd.R_drewN | apply Kd.R_drew)); exact Kd.R_mono HO_544001.out (fun _ hk => ⟨hk.1.1.2, ⟨hk.1.2, ⟨hk.2, ⟨hk.1.1.1.1, hk.1.1.1.2⟩⟩⟩⟩)), (by (with_reducible repeat (first | apply Kd.R_alloc | apply Kd.R_drewN | apply Kd.R_drew)); exact Kd.R_mono HO_544002.out (fun _ hk => ⟨hk.1.1.2, ⟨hk.1.2, ⟨hk.2, ⟨hk.1.1.1.1, hk.1.1.1.2⟩⟩⟩⟩)), (by (with_reducible repeat (first | refine blk_drewN ?_ _ | refine blk_drew ?_ | refine blk_alloc ?_ _)); exact BK543.out), (by (with_reducible repeat (first | refine blk_drewN ?_ _ | refine blk_drew ?_ | refine blk_alloc ?_ _)); exact BK557.out), GW557.out, GE557.out, NB543_557.out, NB557_543.out, (by repeat (first | (with_reducible first | exact HB.out | apply below_alloc | apply pw_below_drewN | apply below_drew1 | refine below_set ?_ GE543.out | refine below_set ?_ GE557.out) | exact HB.out))⟩)
                                      · skip
                                        refine box_step ?hg (N := 15) ?hd (cs := #[.slice none 0 0, .slice none 0 0, .slice none 0 0]) (t := 39) ?hr ?_; (case hd => rfl); (case hg => rfl); (case hr => first | (go_simp; done) | (go_simp; rfl))
                                        intro gb557 hg w38 hbox hb
                                        have n0_ := Aside0.mk (Kd.R_below (by (with_reducible repeat (first | apply Kd.R_alloc | apply Kd.R_drewN | apply Kd.R_drew)); exact HO_544000.out) hb)
                                        have n1_ := Aside0.mk (Kd.R_below (by (with_reducible repeat (first | apply Kd.R_alloc | apply Kd.R_drewN | apply Kd.R_drew)); exact HO_544001.out) hb)
                                        have n2_ := Aside0.mk (Kd.R_below (by (with_reducible repeat (first | apply Kd.R_alloc | apply Kd.R_drewN | apply Kd.R_drew)); exact HO_544002.out) hb)
                                        have n3_ := Aside0.mk (blk_below (g := gb543) (o := .cells #[.slice Ao14 t534.length co14, .slice Ao16 t537.length co16, .slice Ao17 t540.length co17] 39 (0, 0)) (by (with_reducible repeat (first | refine blk_drewN ?_ _ | refine blk_drew ?_ | refine blk_alloc ?_ _)); exact BK543.out) hb)
                                        have n4_ := Aside0.mk (below_step (by repeat (first | (with_reducible first | exact HB.out | apply below_alloc | apply pw_below_drewN | apply below_drew1 | refine below_set ?_ GE543.out) | exact HB.out)) hb)
                                        have n5_ := Aside0.mk (hbox)
                                        have n6_ := Aside0.mk ((by rw [hg]; exact (below_size (by repeat (first | (with_reducible first | exact HB.out | apply below_alloc | apply pw_below_drewN | apply below_drew1 | refine below_set ?_ GE543.out) | exact HB.out))) : w.heap.size ≤ gb557))
                                        have n7_ := Aside0.mk ((by rw [hg]; exact (below_size (by repeat (first | (with_reducible first | exact HB.out | apply below_alloc | apply pw_below_drewN | apply below_drew1 | refine below_set ?_ GE543.out) | exact HB.out))) : w.heap.size ≤ gb557))
                                        have n8_ := Aside0.mk ((by rw [hg]; exact Nat.ne_of_lt (blk_lt (g := gb543) (o := .cells #[.slice Ao14 t534.length co14, .slice Ao16 t537.length co16, .slice Ao17 t540.length co17] 39 (0, 0)) (by (with_reducible repeat (first | refine blk_drewN ?_ _ | refine blk_drew ?_ | refine blk_alloc ?_ _)); exact BK543.out)) : gb543 ≠ gb557))
                                        have n9_ := Aside0.mk ((by rw [hg]; exact Nat.ne_of_gt (blk_lt (g := gb543) (o := .cells #[.slice Ao14 t534.length co14, .slice Ao16 t537.length co16, .slice Ao17 t540.length co17] 39 (0, 0)) (by (with_reducible repeat (first | refine blk_drewN ?_ _ | refine blk_drew ?_ | refine blk_alloc ?_ _)); exact BK543.out)) : gb557 ≠ gb543))
                                        clear HO_544000
                                        clear HO_544001
                                        clear HO_544002
                                        clear BK543
                                        clear HB
                                        have HO_544000 := n0_
                                        have HO_544001 := n1_
                                        have HO_544002 := n2_
                                        have BK543 := n3_
                                        have HB := n4_
                                        have BK557 := n5_
                                        have GW557 := n6_
                                        have GE557 := n7_
                                        have NB543_557 := n8_
                                        have NB557_543 := n9_
                                        clear n0_ n1_ n2_ n3_ n4_ n5_ n6_ n7_ n8_ n9_
                                        clear hb hbox hg
                                        refine hK.out _ _ ⟨(blk_cell BK543.out 0).trans rfl, (blk_cell BK543.out 1).trans rfl, (blk_cell BK543.out 2).trans rfl⟩ (fun hHeld => ?_)
                                        clear hK K
                                        refine norm_ (a' := ?_) ?_ ?_
                                        rotate_left
                                        · show Act.put _ (some 15) _ = _
                                          simp only [Act.put, List.setIfInBounds_toArray, List.set_cons_zero, List.set_cons_succ, i64_w, i32_w]
                                          rfl
                                        refine one_ (i := 5) (N := some 71) #[true, true, true, true, true, true, false, false, false, true, false, false] rfl rfl (one_of HT_.out (by kernel_rfl)) (by decide) (fun K hK => ?_)
                                        refine goes_ Try.func41 (by kernel_rfl) rfl #[.agg #[.slice Ao14 t534.length co14, .slice Ao16 t537.length co16, .slice Ao17 t540.length co17], .slice A37 (((rd_L2 l0 (ji21)).take ((wrap64 ((ji26) + (Int.tmod (wrap64 (a3)) (wrap64 ((wrap64 (((rd_L2 l0 (ji21)).length : Int) + 1)) - (ji26)))))) : Int).toNat).drop ((ji26) : Int).toNat).length (c545_0 - (ji26).toNat)] (by rfl) rfl rfl (by (try simp only [List.map_toArray, List.map_cons, List.map_nil]); first | done | (rw [show (((rd_L2 l0 (ji21)).take ((wrap64 ((ji26) + (Int.tmod (wrap64 (a3)) (wrap64 ((wrap64 (((rd_L2 l0 (ji21)).length : Int) + 1)) - (ji26)))))) : Int).toNat).drop ((ji26) : Int).toNat).length = ((wrap64 ((ji26) + (Int.tmod (wrap64 (a3)) (wrap64 ((wrap64 (((rd_L2 l0 (ji21)).length : Int) + 1)) - (ji26)))))).toNat - (ji26).toNat) from (by rw [List.length_drop, List.length_take]; have h_ : ((wrap64 ((ji26) + (Int.tmod (wrap64 (a3)) (wrap64 ((wrap64 (((rd_L2 l0 (ji21)).length : Int) + 1)) - (ji26)))))) : Int) ≤ ((rd_L2 l0 (ji21)).length : Int) := of_decide_eq_true (by first | (with_reducible assumption) | assumption); omega)] <;> rfl) | (simp only [hji21, hji26]; rfl) | rfl | (simp only [List.length_drop, List.length_take]; rfl)) ?_
                                        with_reducible refine (seqpool_Add.calls _ _ t534 _ _ t537 _ _ t540 _ _ (((rd_L2 l0 (ji21)).take ((wrap64 ((ji26) + (Int.tmod (wrap64 (a3)) (wrap64 ((wrap64 (((rd_L2 l0 (ji21)).length : Int) + 1)) - (ji26)))))) : Int).toNat).drop ((ji26) : Int).toNat) t547 t550 t553 t556 _ ?side1 ?side2 ?side3 ?side4 ?side5 ?side6 ?side7 ?side8 A30.out).mono ?_
                                        (case side1 => repeat (first | exact (Kd.R_reads' HO_544000.out).2.2 | (with_reducible refine Kd.C_alloc ?_ _) | (with_reducible refine Kd.C_drewN ?_ _) | (with_reducible refine Kd.C_drew ?_)))
                                        (case side2 => exact (Kd.R_reads' HO_544000.out).2.1)
                                        (case side3 => repeat (first | exact (Kd.R_reads' HO_544001.out).2.2 | (with_reducible refine Kd.C_alloc ?_ _) | (with_reducible refine Kd.C_drewN ?_ _) | (with_reducible refine Kd.C_drew ?_)))
                                        (case side4 => exact (Kd.R_reads' HO_544001.out).2.1)
                                        (case side5 => repeat (first | exact (Kd.R_reads' HO_544002.out).2.2 | (with_reducible refine Kd.C_alloc ?_ _) | (with_reducible refine Kd.C_drewN ?_ _) | (with_reducible refine Kd.C_drew ?_)))
                                        (case side6 => exact (Kd.R_reads' HO_544002.out).2.1)
                                        (case side7 => repeat (first | exact (Kd.C_below HR546.out HB.out) | (with_reducible refine Kd.C_alloc ?_ _) | (with_reducible refine Kd.C_drewN ?_ _) | (with_reducible refine Kd.C_drew ?_)))
                                        (case side8 => exact HC546.out)
                                        rintro e w39 ⟨v548, v551, v554, rfl, ho0, ho1, ho2, hb⟩
                                        refine ⟨_, rfl, ?_⟩
                                        have n0_ := Aside0.mk (Kd.R_mono (Kd.R_told (Kd.R_told (Kd.R_told (Kd.R_old (by (with_reducible repeat (first | apply Kd.R_alloc | apply Kd.R_drewN | apply Kd.R_drew)); exact HO_544000.out) hb) (Kd.R_base ho0)) (Kd.R_base ho1)) (Kd.R_base ho2)) (fun _ h_ => h_.1))
                                        have n1_ := Aside0.mk (Kd.R_mono (Kd.R_told (Kd.R_told (Kd.R_told (Kd.R_old (by (with_reducible repeat (first | apply Kd.R_alloc | apply Kd.R_drewN | apply Kd.R_drew)); exact HO_544001.out) hb) (Kd.R_base ho0)) (Kd.R_base ho1)) (Kd.R_base ho2)) (fun _ h_ => h_.1))
                                        have n2_ := Aside0.mk (Kd.R_mono (Kd.R_told (Kd.R_told (Kd.R_told (Kd.R_old (by (with_reducible repeat (first | apply Kd.R_alloc | apply Kd.R_drewN | apply Kd.R_drew)); exact HO_544002.out) hb) (Kd.R_base ho0)) (Kd.R_base ho1)) (Kd.R_base ho2)) (fun _ h_ => h_.1))
                                        have n3_ := Aside0.mk (Kd.R_lower (Kd.R_new' (Kd.R_new' (Kd.R_new' ho0 (Kd.R_lt (by (with_reducible repeat (first | apply Kd.R_alloc | apply Kd.R_drewN | apply Kd.R_drew)); exact HO_544000.out))) (Kd.R_lt (by (with_reducible repeat (first | apply Kd.R_alloc | apply Kd.R_drewN | apply Kd.R_drew)); exact HO_544001.out))) (Kd.R_lt (by (with_reducible repeat (first | apply Kd.R_alloc | apply Kd.R_drewN | apply Kd.R_drew)); exact HO_544002.out))) (below_size (by repeat (first | (with_reducible first | exact HB.out | apply below_alloc | apply pw_below_drewN | apply below_drew1 | refine below_set ?_ GE543.out | refine below_set ?_ GE557.out) | exact HB.out))))
                                        have n4_ := Aside0.mk (Kd.R_lower (Kd.R_new' (Kd.R_new' (Kd.R_new' ho1 (Kd.R_lt (by (with_reducible repeat (first | apply Kd.R_alloc | apply Kd.R_drewN | apply Kd.R_drew)); exact HO_544000.out))) (Kd.R_lt (by (with_reducible repeat (first | apply Kd.R_alloc | apply Kd.R_drewN | apply Kd.R_drew)); exact HO_544001.out))) (Kd.R_lt (by (with_reducible repeat (first | apply Kd.R_alloc | apply Kd.R_drewN | apply Kd.R_drew)); exact HO_544002.out))) (below_size (by repeat (first | (with_reducible first | exact HB.out | apply below_alloc | apply pw_below_drewN | apply below_drew1 | refine below_set ?_ GE543.out | refine below_set ?_ GE557.out) | exact HB.out))))
                                        have n5_ := Aside0.mk (Kd.R_lower (Kd.R_new' (Kd.R_new' (Kd.R_new' ho2 (Kd.R_lt (by (with_reducible repeat (first | apply Kd.R_alloc | apply Kd.R_drewN | apply Kd.R_drew)); exact HO_544000.out))) (Kd.R_lt (by (with_reducible repeat (first | apply Kd.R_alloc | apply Kd.R_drewN | apply Kd.R_drew)); exact HO_544001.out))) (Kd.R_lt (by (with_reducible repeat (first | apply Kd.R_alloc | apply Kd.R_drewN | apply Kd.R_drew)); exact HO_544002.out))) (below_size (by repeat (first | (with_reducible first | exact HB.out | apply below_alloc | apply pw_below_drewN | apply below_drew1 | refine below_set ?_ GE543.out | refine below_set ?_ GE557.out) | exact HB.out))))
                                        have n6_ := Aside0.mk (blk_below (g := gb543) (o := .cells #[.slice Ao14 t534.length co14, .slice Ao16 t537.length co16, .slice Ao17 t540.length co17] 39 (0, 0)) (by (with_reducible repeat (first | refine blk_drewN ?_ _ | refine blk_drew ?_ | refine blk_alloc ?_ _)); exact BK543.out) hb)
                                        have n7_ := Aside0.mk (blk_below (g := gb557) (o := .cells #[.slice none 0 0, .slice none 0 0, .slice none 0 0] 39 (0, 0)) (by (with_reducible repeat (first | refine blk_drewN ?_ _ | refine blk_drew ?_ | refine blk_alloc ?_ _)); exact BK557.out) hb)
                                        have n8_ := Aside0.mk (below_step (by repeat (first | (with_reducible first | exact HB.out | apply below_alloc | apply pw_below_drewN | apply below_drew1 | refine below_set ?_ GE543.out | refine below_set ?_ GE557.out) | exact HB.out)) hb)
                                        clear HO_544000
                                        clear HO_544001
                                        clear HO_544002
                                        clear BK543
                                        clear BK557
                                        clear HB
                                        have HO_544000 := n0_
                                        have HO_544001 := n1_
                                        have HO_544002 := n2_
                                        have HO549 := n3_
                                        have HO552 := n4_
                                        have HO555 := n5_
                                        have BK543 := n6_
                                        have BK557 := n7_
                                        have HB := n8_
                                        clear n0_ n1_ n2_ n3_ n4_ n5_ n6_ n7_ n8_
                                        (try clear hb)
                                        (try clear hb2)
                                        (try clear hk)
                                        (try clear hi)
                                        (try clear ho0)
                                        (try clear ho1)
                                        (try clear ho2)
                                        refine hK.out _ _ ⟨(blk_cell BK543.out 0).trans rfl, (blk_cell BK543.out 1).trans rfl, (blk_cell BK543.out 2).trans rfl⟩ (fun hHeld => ?_)
                                        clear hK K
                                        refine norm_ (a' := ?_) ?_ ?_
                                        rotate_left
                                        · show Act.put _ (some 71) _ = _
                                          simp only [Act.put, List.setIfInBounds_toArray, List.set_cons_zero, List.set_cons_succ, i64_w, i32_w]
                                          rfl
                                        refine pure_ (i := 6) (N := some 65) (v := ?_) (a' := ?_) #[true, true, true, true, true, true, true, false, false, true, false, false] rfl rfl (any_of HT_.out (by kernel_rfl)) (fun _ _ _ h => h) (Or.inl ⟨by rfl, ?_⟩) ?_ ?_
                                        rotate_left
                                        · intro w'
                                          go_simp
                                          with_reducible rfl
                                        rotate_left
                                        · simp only [Act.put, List.setIfInBounds_toArray, List.set_cons_zero, List.set_cons_succ, i64_w, i32_w]
                                          rfl
                                        refine pure_ (i := 7) (N := some 72) (v := ?_) (a' := ?_) #[true, true, true, true, true, true, true, true, false, true, false, false] rfl rfl (any_of HT_.out (by kernel_rfl)) (fun _ _ _ h => h) (Or.inl ⟨by rfl, ?_⟩) ?_ ?_
                                        rotate_left
                                        · intro w'
                                          go_simp
                                          with_reducible rfl
                                        rotate_left
                                        · simp only [Act.put, List.setIfInBounds_toArray, List.set_cons_zero, List.set_cons_succ, i64_w, i32_w]
                                          rfl
                                        refine pure_ (i := 8) (N := some 73) (v := ?_) (a' := ?_) #[true, true, true, true, true, true, true, true, true, true, false, false] rfl rfl (any_of HT_.out (by kernel_rfl)) (fun _ _ _ h => h) (Or.inl ⟨by rfl, ?_⟩) ?_ ?_
                                        rotate_left
                                        · intro w'
                                          go_simp
                                          with_reducible rfl
                                        rotate_left
                                        · simp only [Act.put, List.setIfInBounds_toArray, List.set_cons_zero, List.set_cons_succ, i64_w, i32_w]
                                          rfl
                                        exact norm_ (by simp only [putAll, Act.put, List.setIfInBounds_toArray, List.set_cons_zero, List.set_cons_succ]) (hCont (v548, v551, v554, gb557) _ ⟨hHeld, (by (with_reducible repeat (first | apply Kd.R_alloc | apply Kd.R_drewN | apply Kd.R_drew)); exact Kd.R_mono HO549.out (fun _ hk => ⟨hk.1.1.1.1, ⟨hk.1.1.1.2, ⟨hk.1.1.2, ⟨hk.1.2, hk.2⟩⟩⟩⟩)), (by (with_reducible repeat (first | apply Kd.R_alloc | apply Kd.R_drewN | apply Kd.R_drew)); exact Kd.R_mono HO552.out (fun _ hk => ⟨hk.1.1.1.1, ⟨hk.1.1.1.2, ⟨hk.1.1.2, ⟨hk.1.2, hk.2⟩⟩⟩⟩)), (by (with_reducible repeat (first | apply Kd.R_alloc | apply Kd.R_drewN | apply Kd.R_drew)); exact Kd.R_mono HO555.out (fun _ hk => ⟨hk.1.1.1.1, ⟨hk.1.1.1.2, ⟨hk.1.1.2, ⟨hk.1.2, hk.2⟩⟩⟩⟩)), (by (with_reducible repeat (first | apply Kd.R_alloc | apply Kd.R_drewN | apply Kd.R_drew)); exact Kd.R_mono HO_544000.out (fun _ hk => ⟨hk.1.1.2, ⟨hk.1.2, ⟨hk.2, ⟨hk.1.1.1.1, hk.1.1.1.2⟩⟩⟩⟩)), (by (with_reducible repeat (first | apply Kd.R_alloc | apply Kd.R_drewN | apply Kd.R_drew)); exact Kd.R_mono HO_544001.out (fun _ hk => ⟨hk.1.1.2, ⟨hk.1.2, ⟨hk.2, ⟨hk.1.1.1.1, hk.1.1.1.2⟩⟩⟩⟩)), (by (with_reducible repeat (first | apply Kd.R_alloc | apply Kd.R_drewN | apply Kd.R_drew)); exact Kd.R_mono HO_544002.out (fun _ hk => ⟨hk.1.1.2, ⟨hk.1.2, ⟨hk.2, ⟨hk.1.1.1.1, hk.1.1.1.2⟩⟩⟩⟩)), (by (with_reducible repeat (first | refine blk_drewN ?_ _ | refine blk_drew ?_ | refine blk_alloc ?_ _)); exact BK543.out), (by (with_reducible repeat (first | refine blk_drewN ?_ _ | refine blk_drew ?_ | refine blk_alloc ?_ _)); exact BK557.out), GW557.out, GE557.out, NB543_557.out, NB557_543.out, (by repeat (first | (with_reducible first | exact HB.out | apply below_alloc | apply pw_below_drewN | apply below_drew1 | refine below_set ?_ GE543.out | refine below_set ?_ GE557.out) | exact HB.out))⟩)
                                    rintro ⟨v548, v551, v554, gb557⟩ w40 ⟨hS_, h0_, h1_, h2_, h3_, h4_, h5_, h6_, h7_, h8_, h9_, h10_, h11_, h12_⟩
                                    have n0_ : Aside0 (Kd.R (Kd.int .i64) 3 w40 w.heap.size (fun k_ => some k_ ≠ (v551 : Value).ownBlock ∧ some k_ ≠ (v554 : Value).ownBlock ∧ some k_ ≠ (.slice Ao14 t534.length co14 : Value).ownBlock ∧ some k_ ≠ (.slice Ao16 t537.length co16 : Value).ownBlock ∧ some k_ ≠ (.slice Ao17 t540.length co17 : Value).ownBlock) v548 t547) := ⟨h0_⟩
                                    have n1_ : Aside0 (Kd.R (Kd.int .i64) 3 w40 w.heap.size (fun k_ => some k_ ≠ (v548 : Value).ownBlock ∧ some k_ ≠ (v554 : Value).ownBlock ∧ some k_ ≠ (.slice Ao14 t534.length co14 : Value).ownBlock ∧ some k_ ≠ (.slice Ao16 t537.length co16 : Value).ownBlock ∧ some k_ ≠ (.slice Ao17 t540.length co17 : Value).ownBlock) v551 t550) := ⟨h1_⟩
                                    have n2_ : Aside0 (Kd.R (Kd.int .i64) 3 w40 w.heap.size (fun k_ => some k_ ≠ (v548 : Value).ownBlock ∧ some k_ ≠ (v551 : Value).ownBlock ∧ some k_ ≠ (.slice Ao14 t534.length co14 : Value).ownBlock ∧ some k_ ≠ (.slice Ao16 t537.length co16 : Value).ownBlock ∧ some k_ ≠ (.slice Ao17 t540.length co17 : Value).ownBlock) v554 t553) := ⟨h2_⟩
                                    have n3_ : Aside0 (Kd.R (Kd.int .i64) 3 w40 w.heap.size (fun k_ => some k_ ≠ (v548 : Value).ownBlock ∧ some k_ ≠ (v551 : Value).ownBlock ∧ some k_ ≠ (v554 : Value).ownBlock ∧ some k_ ≠ (.slice Ao16 t537.length co16 : Value).ownBlock ∧ some k_ ≠ (.slice Ao17 t540.length co17 : Value).ownBlock) (.slice Ao14 t534.length co14) t534) := ⟨h3_⟩
                                    have n4_ : Aside0 (Kd.R (Kd.int .i64) 3 w40 w.heap.size (fun k_ => some k_ ≠ (v548 : Value).ownBlock ∧ some k_ ≠ (v551 : Value).ownBlock ∧ some k_ ≠ (v554 : Value).ownBlock ∧ some k_ ≠ (.slice Ao14 t534.length co14 : Value).ownBlock ∧ some k_ ≠ (.slice Ao17 t540.length co17 : Value).ownBlock) (.slice Ao16 t537.length co16) t537) := ⟨h4_⟩
                                    have n5_ : Aside0 (Kd.R (Kd.int .i64) 3 w40 w.heap.size (fun k_ => some k_ ≠ (v548 : Value).ownBlock ∧ some k_ ≠ (v551 : Value).ownBlock ∧ some k_ ≠ (v554 : Value).ownBlock ∧ some k_ ≠ (.slice Ao14 t534.length co14 : Value).ownBlock ∧ some k_ ≠ (.slice Ao16 t537.length co16 : Value).ownBlock) (.slice Ao17 t540.length co17) t540) := ⟨h5_⟩
                                    have n6_ : Aside0 (w40.heap[gb543]? = some (.cells #[.slice Ao14 t534.length co14, .slice Ao16 t537.length co16, .slice Ao17 t540.length co17] 39 (0, 0))) := ⟨h6_⟩
                                    have n7_ : Aside0 (w40.heap[gb557]? = some (.cells #[.slice none 0 0, .slice none 0 0, .slice none 0 0] 39 (0, 0))) := ⟨h7_⟩
                                    have n8_ : Aside0 (w.heap.size ≤ gb557) := ⟨h8_⟩
                                    have n9_ : Aside0 (w.heap.size ≤ gb557) := ⟨h9_⟩
                                    have n10_ : Aside0 (gb543 ≠ gb557) := ⟨h10_⟩
                                    have n11_ : Aside0 (gb557 ≠ gb543) := ⟨h11_⟩
                                    have n12_ : Aside0 (Below w.heap.size w w40) := ⟨h12_⟩
                                    clear HO_544000
                                    clear HO_544001
                                    clear HO_544002
                                    clear BK543
                                    clear HB
                                    clear h0_ h1_ h2_ h3_ h4_ h5_ h6_ h7_ h8_ h9_ h10_ h11_ h12_
                                    have HO549 := n0_
                                    have HO552 := n1_
                                    have HO555 := n2_
                                    have HO_544000 := n3_
                                    have HO_544001 := n4_
                                    have HO_544002 := n5_
                                    have BK543 := n6_
                                    have BK557 := n7_
                                    have GW557 := n8_
                                    have GE557 := n9_
                                    have NB543_557 := n10_
                                    have NB557_543 := n11_
                                    have HB := n12_
                                    clear n0_ n1_ n2_ n3_ n4_ n5_ n6_ n7_ n8_ n9_ n10_ n11_ n12_
                                    have hHeld : w40.cell? ⟨gb543, 0, none⟩ = some (.slice Ao14 t534.length co14) ∧ w40.cell? ⟨gb543, 1, none⟩ = some (.slice Ao16 t537.length co16) ∧ w40.cell? ⟨gb543, 2, none⟩ = some (.slice Ao17 t540.length co17) := hS_
                                    obtain ⟨Ao41, co41, eo41⟩ := Kd.R_slice HO549.out
                                    (first | subst eo41 | (injection eo41 with f1_ f2_ f3_; have f4_ := f1_.symm; have f5_ := f3_.symm; clear f1_ f2_ f3_; subst f4_; subst f5_))
                                    obtain ⟨Ao43, co43, eo43⟩ := Kd.R_slice HO552.out
                                    (first | subst eo43 | (injection eo43 with f1_ f2_ f3_; have f4_ := f1_.symm; have f5_ := f3_.symm; clear f1_ f2_ f3_; subst f4_; subst f5_))
                                    obtain ⟨Ao45, co45, eo45⟩ := Kd.R_slice HO555.out
                                    (first | subst eo45 | (injection eo45 with f1_ f2_ f3_; have f4_ := f1_.symm; have f5_ := f3_.symm; clear f1_ f2_ f3_; subst f4_; subst f5_))
                                    refine norm_ (a' := ?_) ?_ ?_
                                    rotate_left
                                    · simp only [putAll, Act.put, List.setIfInBounds_toArray, List.set_cons_zero, List.set_cons_succ]
                                      rfl
                                    refine one_ (i := 10) (N := none) #[true, true, true, true, true, true, true, true, true, true, true, false] rfl rfl (one_of HT_.out (by kernel_rfl)) (by decide) (fun K hK => ?_)
                                    have hs42 : w40.cell? ⟨gb557, 0, none⟩ = some (.slice none 0 0) := (blk_cell BK557.out 0).trans rfl
                                    have hfs42 := blk_frozen BK557.out 0
                                    have hns42_0 := NB543_557.out
                                    have hms42_0 := NB557_543.out
                                    have hs44 : w40.cell? ⟨gb557, 1, none⟩ = some (.slice none 0 0) := (blk_cell BK557.out 1).trans rfl
                                    have hfs44 := blk_frozen BK557.out 1
                                    have hns44_0 := NB543_557.out
                                    have hms44_0 := NB557_543.out
                                    have hs46 : w40.cell? ⟨gb557, 2, none⟩ = some (.slice none 0 0) := (blk_cell BK557.out 2).trans rfl
                                    have hfs46 := blk_frozen BK557.out 2
                                    have hns46_0 := NB543_557.out
                                    have hms46_0 := NB557_543.out
                                    refine skip_ (w1 := ?_) (by rfl) rfl ?_ ?_
                                    rotate_left
                                    · go_simp
                                      rfl
                                    refine hK.out _ _ ⟨((cell_far (p := ⟨gb557, _, none⟩) NB543_557.out _).trans (((cell_far (p := ⟨gb557, _, none⟩) NB543_557.out _).trans (((cell_far (p := ⟨gb557, _, none⟩) NB543_557.out _).trans (hHeld.1)))))), ((cell_far (p := ⟨gb557, _, none⟩) NB543_557.out _).trans (((cell_far (p := ⟨gb557, _, none⟩) NB543_557.out _).trans (((cell_far (p := ⟨gb557, _, none⟩) NB543_557.out _).trans (hHeld.2.1)))))), ((cell_far (p := ⟨gb557, _, none⟩) NB543_557.out _).trans (((cell_far (p := ⟨gb557, _, none⟩) NB543_557.out _).trans (((cell_far (p := ⟨gb557, _, none⟩) NB543_557.out _).trans (hHeld.2.2))))))⟩ (fun hHeld => ?_)
                                    clear hK K
                                    refine pure_ (i := 11) (N := some 16) (v := ?_) (a' := ?_) #[true, true, true, true, true, true, true, true, true, true, true, true] rfl rfl (any_of HT_.out (by kernel_rfl)) (fun _ _ _ h => h) (Or.inl ⟨by rfl, ?_⟩) ?_ ?_
                                    rotate_left
                                    · intro w'
                                      go_simp
                                      with_reducible rfl
                                    rotate_left
                                    · simp only [Act.put, List.setIfInBounds_toArray, List.set_cons_zero, List.set_cons_succ, i64_w, i32_w]
                                      rfl
                                    refine done_ (done_of HT_.out (by kernel_rfl)) ?_
                                    have hnb47 := NB543_557.out
                                    have hnc47 := NB557_543.out
                                    have hcz48_0 : w40.cell? ⟨gb543, 0, none⟩ = some (.slice Ao14 t534.length co14) := (blk_cell BK543.out 0).trans rfl
                                    have hcz48_1 : w40.cell? ⟨gb543, 1, none⟩ = some (.slice Ao16 t537.length co16) := (blk_cell BK543.out 1).trans rfl
                                    have hcz48_2 : w40.cell? ⟨gb543, 2, none⟩ = some (.slice Ao17 t540.length co17) := (blk_cell BK543.out 2).trans rfl
                                    have hfz48_0 := blk_frozen BK543.out 0
                                    have hfz48_1 := blk_frozen BK543.out 1
                                    have hfz48_2 := blk_frozen BK543.out 2
                                    have hcz49_0 : w40.cell? ⟨gb557, 0, none⟩ = some (.slice none 0 0) := (blk_cell BK557.out 0).trans rfl
                                    have hcz49_1 : w40.cell? ⟨gb557, 1, none⟩ = some (.slice none 0 0) := (blk_cell BK557.out 1).trans rfl
                                    have hcz49_2 : w40.cell? ⟨gb557, 2, none⟩ = some (.slice none 0 0) := (blk_cell BK557.out 2).trans rfl
                                    have hfz49_0 := blk_frozen BK557.out 0
                                    have hfz49_1 := blk_frozen BK557.out 1
                                    have hfz49_2 := blk_frozen BK557.out 2
                                    try go_wp2_with (first | (go_at_call 54; (with_reducible refine (unicodetextref01_Equal.calls k2 _ _ t547 _ _ t534 true _ ?side1 ?side2 ?side3 ?side4 A32.out).mono ?_); (case side1 => refine (Kd.R_reads' (e := 3) (base := w.heap.size) (ok := fun k_ => (some k_ ≠ (.slice Ao43 t550.length co43 : Value).ownBlock ∧ (some k_ ≠ (.slice Ao45 t553.length co45 : Value).ownBlock ∧ (some k_ ≠ (.slice Ao14 t534.length co14 : Value).ownBlock ∧ (some k_ ≠ (.slice Ao16 t537.length co16 : Value).ownBlock ∧ some k_ ≠ (.slice Ao17 t540.length co17 : Value).ownBlock))))) (n := t547.length) (c := co41) ?_).2.2; exact (by (with_reducible repeat (first | apply Kd.R_alloc | apply Kd.R_drewN | apply Kd.R_drew)); exact (Kd.R_mono (Kd.R_far (p := ⟨gb557, 2, none⟩) (Kd.R_far (p := ⟨gb557, 1, none⟩) (Kd.R_far (p := ⟨gb557, 0, none⟩) (Kd.R_types HO549.out BK557.out (by decide)) (fun _ hk => hk.2) (.slice Ao41 t547.length co41)) (fun _ hk => hk.2) (.slice Ao43 t550.length co43)) (fun _ hk => hk.2) (.slice Ao45 t553.length co45)) (fun _ h_ => h_.1)))); (case side2 => exact (Kd.R_reads' HO549.out).2.1); (case side3 => refine (Kd.R_reads' (e := 3) (base := w.heap.size) (ok := fun k_ => (some k_ ≠ (.slice Ao41 t547.length co41 : Value).ownBlock ∧ (some k_ ≠ (.slice Ao43 t550.length co43 : Value).ownBlock ∧ (some k_ ≠ (.slice Ao45 t553.length co45 : Value).ownBlock ∧ (some k_ ≠ (.slice Ao16 t537.length co16 : Value).ownBlock ∧ some k_ ≠ (.slice Ao17 t540.length co17 : Value).ownBlock))))) (n := t534.length) (c := co14) ?_).2.2; exact (by (with_reducible repeat (first | apply Kd.R_alloc | apply Kd.R_drewN | apply Kd.R_drew)); exact (Kd.R_mono (Kd.R_far (p := ⟨gb557, 2, none⟩) (Kd.R_far (p := ⟨gb557, 1, none⟩) (Kd.R_far (p := ⟨gb557, 0, none⟩) (Kd.R_types HO_544000.out BK557.out (by decide)) (fun _ hk => hk.2) (.slice Ao41 t547.length co41)) (fun _ hk => hk.2) (.slice Ao43 t550.length co43)) (fun _ hk => hk.2) (.slice Ao45 t553.length co45)) (fun _ h_ => h_.1)))); (case side4 => exact (Kd.R_reads' HO_544000.out).2.1); rintro e w' ⟨rfl, ⟨nd, rfl⟩⟩) | (go_at_call 39; (with_reducible refine (law14_alive.calls  t559 _ A35.out).mono ?_); rintro e w50 ⟨rfl, hb⟩; have n0_ := Aside0.mk (Kd.R_below (by (with_reducible repeat (first | apply Kd.R_alloc | apply Kd.R_drewN | apply Kd.R_drew)); exact (Kd.R_mono (Kd.R_far (p := ⟨gb557, 2, none⟩) (Kd.R_far (p := ⟨gb557, 1, none⟩) (Kd.R_far (p := ⟨gb557, 0, none⟩) (Kd.R_types HO_544000.out BK557.out (by decide)) (fun _ hk => hk.2) (.slice Ao41 t547.length co41)) (fun _ hk => hk.2) (.slice Ao43 t550.length co43)) (fun _ hk => hk.2) (.slice Ao45 t553.length co45)) (fun _ h_ => h_.1))) hb); have n1_ := Aside0.mk (Kd.R_below (by (with_reducible repeat (first | apply Kd.R_alloc | apply Kd.R_drewN | apply Kd.R_drew)); exact (Kd.R_mono (Kd.R_far (p := ⟨gb557, 2, none⟩) (Kd.R_far (p := ⟨gb557, 1, none⟩) (Kd.R_far (p := ⟨gb557, 0, none⟩) (Kd.R_types HO_544001.out BK557.out (by decide)) (fun _ hk => hk.2) (.slice Ao41 t547.length co41)) (fun _ hk => hk.2) (.slice Ao43 t550.length co43)) (fun _ hk => hk.2) (.slice Ao45 t553.length co45)) (fun _ h_ => h_.1))) hb); have n2_ := Aside0.mk (Kd.R_below (by (with_reducible repeat (first | apply Kd.R_alloc | apply Kd.R_drewN | apply Kd.R_drew)); exact (Kd.R_mono (Kd.R_far (p := ⟨gb557, 2, none⟩) (Kd.R_far (p := ⟨gb557, 1, none⟩) (Kd.R_far (p := ⟨gb557, 0, none⟩) (Kd.R_types HO_544002.out BK557.out (by decide)) (fun _ hk => hk.2) (.slice Ao41 t547.length co41)) (fun _ hk => hk.2) (.slice Ao43 t550.length co43)) (fun _ hk => hk.2) (.slice Ao45 t553.length co45)) (fun _ h_ => h_.1))) hb); have n3_ := Aside0.mk (Kd.R_below (by (with_reducible repeat (first | apply Kd.R_alloc | apply Kd.R_drewN | apply Kd.R_drew)); exact (Kd.R_mono (Kd.R_far (p := ⟨gb557, 2, none⟩) (Kd.R_far (p := ⟨gb557, 1, none⟩) (Kd.R_far (p := ⟨gb557, 0, none⟩) (Kd.R_types HO549.out BK557.out (by decide)) (fun _ hk => hk.2) (.slice Ao41 t547.length co41)) (fun _ hk => hk.2) (.slice Ao43 t550.length co43)) (fun _ hk => hk.2) (.slice Ao45 t553.length co45)) (fun _ h_ => h_.1))) hb); have n4_ := Aside0.mk (Kd.R_below (by (with_reducible repeat (first | apply Kd.R_alloc | apply Kd.R_drewN | apply Kd.R_drew)); exact (Kd.R_mono (Kd.R_far (p := ⟨gb557, 2, none⟩) (Kd.R_far (p := ⟨gb557, 1, none⟩) (Kd.R_far (p := ⟨gb557, 0, none⟩) (Kd.R_types HO552.out BK557.out (by decide)) (fun _ hk => hk.2) (.slice Ao41 t547.length co41)) (fun _ hk => hk.2) (.slice Ao43 t550.length co43)) (fun _ hk => hk.2) (.slice Ao45 t553.length co45)) (fun _ h_ => h_.1))) hb); have n5_ := Aside0.mk (Kd.R_below (by (with_reducible repeat (first | apply Kd.R_alloc | apply Kd.R_drewN | apply Kd.R_drew)); exact (Kd.R_mono (Kd.R_far (p := ⟨gb557, 2, none⟩) (Kd.R_far (p := ⟨gb557, 1, none⟩) (Kd.R_far (p := ⟨gb557, 0, none⟩) (Kd.R_types HO555.out BK557.out (by decide)) (fun _ hk => hk.2) (.slice Ao41 t547.length co41)) (fun _ hk => hk.2) (.slice Ao43 t550.length co43)) (fun _ hk => hk.2) (.slice Ao45 t553.length co45)) (fun _ h_ => h_.1))) hb); have n6_ := Aside0.mk (blk_below (g := gb543) (o := .cells #[.slice Ao14 t534.length co14, .slice Ao16 t537.length co16, .slice Ao17 t540.length co17] 39 (0, 0)) (by (with_reducible repeat (first | refine blk_drewN ?_ _ | refine blk_drew ?_ | refine blk_alloc ?_ _)); refine blk_far ?_ NB543_557.out _; (with_reducible repeat (first | refine blk_drewN ?_ _ | refine blk_drew ?_ | refine blk_alloc ?_ _)); refine blk_far ?_ NB543_557.out _; (with_reducible repeat (first | refine blk_drewN ?_ _ | refine blk_drew ?_ | refine blk_alloc ?_ _)); refine blk_far ?_ NB543_557.out _; (with_reducible repeat (first | refine blk_drewN ?_ _ | refine blk_drew ?_ | refine blk_alloc ?_ _)); exact BK543.out) hb); have n7_ := Aside0.mk (blk_below (g := gb557) (o := .cells #[.slice Ao41 t547.length co41, .slice Ao43 t550.length co43, .slice Ao45 t553.length co45] 39 (0, 0)) (by (with_reducible repeat (first | refine blk_drewN ?_ _ | refine blk_drew ?_ | refine blk_alloc ?_ _)); refine blk_put (cs := #[.slice Ao41 t547.length co41, .slice Ao43 t550.length co43, .slice none 0 0]) ?_ 2 _ rfl; (with_reducible repeat (first | refine blk_drewN ?_ _ | refine blk_drew ?_ | refine blk_alloc ?_ _)); refine blk_put (cs := #[.slice Ao41 t547.length co41, .slice none 0 0, .slice none 0 0]) ?_ 1 _ rfl; (with_reducible repeat (first | refine blk_drewN ?_ _ | refine blk_drew ?_ | refine blk_alloc ?_ _)); refine blk_put (cs := #[.slice none 0 0, .slice none 0 0, .slice none 0 0]) ?_ 0 _ rfl; (with_reducible repeat (first | refine blk_drewN ?_ _ | refine blk_drew ?_ | refine blk_alloc ?_ _)); exact BK557.out) hb); have n8_ := Aside0.mk (below_step (by repeat (first | (with_reducible first | exact HB.out | apply below_alloc | apply pw_below_drewN | apply below_drew1 | refine below_set ?_ GE543.out | refine below_set ?_ GE557.out) | exact HB.out)) hb); clear HO_544000; clear HO_544001; clear HO_544002; clear HO549; clear HO552; clear HO555; clear BK543; clear BK557; clear HB; have HO_544000 := n0_; have HO_544001 := n1_; have HO_544002 := n2_; have HO549 := n3_; have HO552 := n4_; have HO555 := n5_; have BK543 := n6_; have BK557 := n7_; have HB := n8_; clear n0_ n1_ n2_ n3_ n4_ n5_ n6_ n7_ n8_; (try clear hb); (try clear hb2); (try clear hk); (try clear hi)))
                                    go_ret
                                    exact ⟨by first | rfl | (simp [errW_none, errW_some] <;> rfl) | (simp only [← hji21, ← hji26]; first | rfl | (simp [errW_none, errW_some] <;> rfl)) | (simp [*, errW_none, errW_some] <;> rfl), by repeat (first | (with_reducible first | exact HB.out | apply below_alloc | apply pw_below_drewN | apply below_drew1 | refine below_set ?_ GE543.out | refine below_set ?_ GE557.out) | exact HB.out)⟩
                                  · rw [if_neg c34] at H
                                    have c34b0 : (t556 == (l0.length : Int)) = false := beq_eq_false_iff_ne.mpr c34
                                    have c34b1 : (t556 != (l0.length : Int)) = true := bne_iff_ne.mpr c34
                                    obtain rfl := Option.some.inj H
                                    have p545 : 0 ≤ ((ji21) : Int) := of_decide_eq_true (by first | (with_reducible assumption) | assumption)
                                    have q545 : (ji21) < (l0.length : Int) := of_decide_eq_true (by first | (with_reducible assumption) | assumption)
                                    obtain ⟨ad545, A545_0, c545_0, e545, hx545_0, hl545_0, hi545_0⟩ := at_L2 HR0.out (ji21) p545 q545
                                    cases e545
                                    replace hx545_0 := (HB.out.cell (World.block_lt_of_cell? w _ hx545_0)).trans hx545_0
                                    have HR545_0 := Aside0.mk hi545_0
                                    have HC545_0 := Aside0.mk hl545_0
                                    clear hi545_0 hl545_0
                                    replace p545 := eq_true p545
                                    replace q545 := eq_true q545
                                    try go_wp2
                                    have n0_ := Aside0.mk (Kd.R_drew HO_544000.out)
                                    have n1_ := Aside0.mk (Kd.R_drew HO_544001.out)
                                    have n2_ := Aside0.mk (Kd.R_drew HO_544002.out)
                                    have n3_ := Aside0.mk (blk_drew BK543.out)
                                    have n4_ := Aside0.mk (below_drew1 HB.out)
                                    clear HO_544000
                                    clear HO_544001
                                    clear HO_544002
                                    clear BK543
                                    clear HB
                                    have HO_544000 := n0_
                                    have HO_544001 := n1_
                                    have HO_544002 := n2_
                                    have BK543 := n3_
                                    have HB := n4_
                                    clear n0_ n1_ n2_ n3_ n4_
                                    obtain ⟨i052, hi052, _, hsz52, _⟩ := info_parts info3
                                    obtain ⟨A52, hcut52, hA52, hC52⟩ := print_mid_of (P := Try.prog) (Value.int .i64) 0 26 3 .i64 .i64 Try.underlying26 hi052 hsz52 A545_0 c545_0 (rd_L2 l0 (ji21)) (ji26) (wrap64 ((ji26) + (Int.tmod (wrap64 (a3)) (wrap64 ((wrap64 (((rd_L2 l0 (ji21)).length : Int) + 1)) - (ji26)))))) (of_decide_eq_true (by first | (with_reducible assumption) | assumption)) (by first | omega | exact of_decide_eq_true (by first | (with_reducible assumption) | assumption)) (of_decide_eq_true (by first | (with_reducible assumption) | assumption)) HC545_0.out
                                    have HR546 := Aside0.mk (Kd.C_of_reads (h1 := fun _ => rfl) (hA52 _ (Kd.reads_of_C HR545_0.out)))
                                    have HC546 := Aside0.mk hC52
                                    clear hA52 hC52 hi052 hsz52
                                    refine start_ (n := 12) (S := fun w' => w'.cell? ⟨gb543, 0, none⟩ = some (.slice Ao14 t534.length co14) ∧ w'.cell? ⟨gb543, 1, none⟩ = some (.slice Ao16 t537.length co16) ∧ w'.cell? ⟨gb543, 2, none⟩ = some (.slice Ao17 t540.length co17)) (ds := []) #[false, false, false, false, false, false, false, false, false, false, false, false] (by kernel_rfl) rfl rfl ⟨(blk_cell BK543.out 0).trans rfl, (blk_cell BK543.out 1).trans rfl, (blk_cell BK543.out 2).trans rfl⟩ (fun hHeld => ?_); refine with_tabW unicodetextlaw14_SeqpoolSaves.tab12 unicodetextlaw14_SeqpoolSaves.bits12 (fun HT_ HW_ => ?_)
                                    generalize wr.drew = w51 at HO_544000 HO_544001 HO_544002 BK543 HB HR546 hHeld ⊢
                                    refine pure_ (i := 1) (N := some 67) (v := ?_) (a' := ?_) #[false, true, false, false, false, false, false, false, false, false, false, false] rfl rfl (any_of HT_.out (by kernel_rfl)) (fun _ _ _ h => h) (Or.inl ⟨by rfl, ?_⟩) ?_ ?_
                                    rotate_left
                                    · intro w'
                                      go_simp
                                      with_reducible rfl
                                    rotate_left
                                    · simp only [Act.put, List.setIfInBounds_toArray, List.set_cons_zero, List.set_cons_succ, i64_w, i32_w]
                                      rfl
                                    refine pure_ (i := 2) (N := some 68) (v := ?_) (a' := ?_) #[false, true, true, false, false, false, false, false, false, false, false, false] rfl rfl (any_of HT_.out (by kernel_rfl)) (fun _ _ _ h => h) (Or.inl ⟨by rfl, ?_⟩) ?_ ?_
                                    rotate_left
                                    · intro w'
                                      go_simp
                                      with_reducible rfl
                                    rotate_left
                                    · simp only [Act.put, List.setIfInBounds_toArray, List.set_cons_zero, List.set_cons_succ, i64_w, i32_w]
                                      rfl
                                    refine pure_ (i := 3) (N := some 69) (v := ?_) (a' := ?_) #[false, true, true, true, false, false, false, false, false, false, false, false] rfl rfl (any_of HT_.out (by kernel_rfl)) (fun _ _ _ h => h) (Or.inl ⟨by rfl, ?_⟩) ?_ ?_
                                    rotate_left
                                    · intro w'
                                      go_simp
                                      with_reducible rfl
                                    rotate_left
                                    · simp only [Act.put, List.setIfInBounds_toArray, List.set_cons_zero, List.set_cons_succ, i64_w, i32_w]
                                      rfl
                                    refine pure_ (i := 4) (N := some 70) (v := ?_) (a' := ?_) #[false, true, true, true, true, false, false, false, false, false, false, false] rfl rfl (any_of HT_.out (by kernel_rfl)) (fun _ _ _ h => h) (Or.inl ⟨by rfl, ?_⟩) ?_ ?_
                                    rotate_left
                                    · intro w'
                                      go_simp
                                      with_reducible rfl
                                    rotate_left
                                    · simp only [Act.put, List.setIfInBounds_toArray, List.set_cons_zero, List.set_cons_succ, i64_w, i32_w]
                                      rfl
                                    refine take_ (i := 0) (N := some 66) (v := ?_) (a' := ?_) #[true, true, true, true, true, false, false, false, false, false, false, false] rfl rfl (take_ofW HT_.out HW_.out (by kernel_rfl)) (fun _ _ _ h => h) (Or.inl ⟨by rfl, ?_⟩) hHeld ?_ ?_
                                    rotate_left
                                    · rintro w' ⟨s0, s1, s2⟩
                                      go_simp
                                      with_reducible rfl
                                    rotate_left
                                    · simp only [Act.put, List.setIfInBounds_toArray, List.set_cons_zero, List.set_cons_succ, i64_w, i32_w]
                                      rfl
                                    refine join_ (σ := Value × Value × Value × Nat) 2 #[true, true, true, true, true, true, true, true, true, true, false, false] (fun s_ => [(71, .tuple #[.agg #[s_.1, s_.2.1, s_.2.2.1], .int .i64 t556]), (15, .pointer (some ⟨s_.2.2.2, 0, none⟩)), (65, .tuple #[.agg #[s_.1, s_.2.1, s_.2.2.1], .int .i64 t556]), (72, .agg #[s_.1, s_.2.1, s_.2.2.1]), (73, .int .i64 t556)]) (fun s_ w' => (w'.cell? ⟨gb543, 0, none⟩ = some (.slice Ao14 t534.length co14) ∧ w'.cell? ⟨gb543, 1, none⟩ = some (.slice Ao16 t537.length co16) ∧ w'.cell? ⟨gb543, 2, none⟩ = some (.slice Ao17 t540.length co17)) ∧ (Kd.R (Kd.int .i64) 3 w' w.heap.size (fun k_ => some k_ ≠ (s_.2.1 : Value).ownBlock ∧ some k_ ≠ (s_.2.2.1 : Value).ownBlock ∧ some k_ ≠ (.slice Ao14 t534.length co14 : Value).ownBlock ∧ some k_ ≠ (.slice Ao16 t537.length co16 : Value).ownBlock ∧ some k_ ≠ (.slice Ao17 t540.length co17 : Value).ownBlock) s_.1 t547) ∧ (Kd.R (Kd.int .i64) 3 w' w.heap.size (fun k_ => some k_ ≠ (s_.1 : Value).ownBlock ∧ some k_ ≠ (s_.2.2.1 : Value).ownBlock ∧ some k_ ≠ (.slice Ao14 t534.length co14 : Value).ownBlock ∧ some k_ ≠ (.slice Ao16 t537.length co16 : Value).ownBlock ∧ some k_ ≠ (.slice Ao17 t540.length co17 : Value).ownBlock) s_.2.1 t550) ∧ (Kd.R (Kd.int .i64) 3 w' w.heap.size (fun k_ => some k_ ≠ (s_.1 : Value).ownBlock ∧ some k_ ≠ (s_.2.1 : Value).ownBlock ∧ some k_ ≠ (.slice Ao14 t534.length co14 : Value).ownBlock ∧ some k_ ≠ (.slice Ao16 t537.length co16 : Value).ownBlock ∧ some k_ ≠ (.slice Ao17 t540.length co17 : Value).ownBlock) s_.2.2.1 t553) ∧ (Kd.R (Kd.int .i64) 3 w' w.heap.size (fun k_ => some k_ ≠ (s_.1 : Value).ownBlock ∧ some k_ ≠ (s_.2.1 : Value).ownBlock ∧ some k_ ≠ (s_.2.2.1 : Value).ownBlock ∧ some k_ ≠ (.slice Ao16 t537.length co16 : Value).ownBlock ∧ some k_ ≠ (.slice Ao17 t540.length co17 : Value).ownBlock) (.slice Ao14 t534.length co14) t534) ∧ (Kd.R (Kd.int .i64) 3 w' w.heap.size (fun k_ => some k_ ≠ (s_.1 : Value).ownBlock ∧ some k_ ≠ (s_.2.1 : Value).ownBlock ∧ some k_ ≠ (s_.2.2.1 : Value).ownBlock ∧ some k_ ≠ (.slice Ao14 t534.length co14 : Value).ownBlock ∧ some k_ ≠ (.slice Ao17 t540.length co17 : Value).ownBlock) (.slice Ao16 t537.length co16) t537) ∧ (Kd.R (Kd.int .i64) 3 w' w.heap.size (fun k_ => some k_ ≠ (s_.1 : Value).ownBlock ∧ some k_ ≠ (s_.2.1 : Value).ownBlock ∧ some k_ ≠ (s_.2.2.1 : Value).ownBlock ∧ some k_ ≠ (.slice Ao14 t534.length co14 : Value).ownBlock ∧ some k_ ≠ (.slice Ao16 t537.length co16 : Value).ownBlock) (.slice Ao17 t540.length co17) t540) ∧ (w'.heap[gb543]? = some (.cells #[.slice Ao14 t534.length co14, .slice Ao16 t537.length co16, .slice Ao17 t540.length co17] 39 (0, 0))) ∧ (w'.heap[s_.2.2.2]? = some (.cells #[.slice none 0 0, .slice none 0 0, .slice none 0 0] 39 (0, 0))) ∧ (w.heap.size ≤ s_.2.2.2) ∧ (w.heap.size ≤ s_.2.2.2) ∧ (gb543 ≠ s_.2.2.2) ∧ (s_.2.2.2 ≠ gb543) ∧ (Below w.heap.size w w')) ?_ ?_
                                    rotate_left
                                    · intro hCont
                                      refine two_ (i := 5) (j := 9) (Ni := some 71) (Nj := some 15) #[true, true, true, true, true, true, false, false, false, false, false, false] #[true, true, true, true, true, false, false, false, false, true, false, false] rfl rfl rfl rfl (two_of HT_.out (by kernel_rfl)) (by decide) (by decide) (fun K hK => ?_) (fun K hK => ?_)
                                      · skip
                                        refine goes_ Try.func41 (by kernel_rfl) rfl #[.agg #[.slice Ao14 t534.length co14, .slice Ao16 t537.length co16, .slice Ao17 t540.length co17], .slice A52 (((rd_L2 l0 (ji21)).take ((wrap64 ((ji26) + (Int.tmod (wrap64 (a3)) (wrap64 ((wrap64 (((rd_L2 l0 (ji21)).length : Int) + 1)) - (ji26)))))) : Int).toNat).drop ((ji26) : Int).toNat).length (c545_0 - (ji26).toNat)] (by rfl) rfl rfl (by (try simp only [List.map_toArray, List.map_cons, List.map_nil]); first | done | (rw [show (((rd_L2 l0 (ji21)).take ((wrap64 ((ji26) + (Int.tmod (wrap64 (a3)) (wrap64 ((wrap64 (((rd_L2 l0 (ji21)).length : Int) + 1)) - (ji26)))))) : Int).toNat).drop ((ji26) : Int).toNat).length = ((wrap64 ((ji26) + (Int.tmod (wrap64 (a3)) (wrap64 ((wrap64 (((rd_L2 l0 (ji21)).length : Int) + 1)) - (ji26)))))).toNat - (ji26).toNat) from (by rw [List.length_drop, List.length_take]; have h_ : ((wrap64 ((ji26) + (Int.tmod (wrap64 (a3)) (wrap64 ((wrap64 (((rd_L2 l0 (ji21)).length : Int) + 1)) - (ji26)))))) : Int) ≤ ((rd_L2 l0 (ji21)).length : Int) := of_decide_eq_true (by first | (with_reducible assumption) | assumption); omega)] <;> rfl) | (simp only [hji21, hji26]; rfl) | rfl | (simp only [List.length_drop, List.length_take]; rfl)) ?_
                                        with_reducible refine (seqpool_Add.calls _ _ t534 _ _ t537 _ _ t540 _ _ (((rd_L2 l0 (ji21)).take ((wrap64 ((ji26) + (Int.tmod (wrap64 (a3)) (wrap64 ((wrap64 (((rd_L2 l0 (ji21)).length : Int) + 1)) - (ji26)))))) : Int).toNat).drop ((ji26) : Int).toNat) t547 t550 t553 t556 _ ?side1 ?side2 ?side3 ?side4 ?side5 ?side6 ?side7 ?side8 A30.out).mono ?_
                                        (case side1 => repeat (first | exact (Kd.R_reads' HO_544000.out).2.2 | (with_reducible refine Kd.C_alloc ?_ _) | (with_reducible refine Kd.C_drewN ?_ _) | (with_reducible refine Kd.C_drew ?_)))
                                        (case side2 => exact (Kd.R_reads' HO_544000.out).2.1)
                                        (case side3 => repeat (first | exact (Kd.R_reads' HO_544001.out).2.2 | (with_reducible refine Kd.C_alloc ?_ _) | (with_reducible refine Kd.C_drewN ?_ _) | (with_reducible refine Kd.C_drew ?_)))
                                        (case side4 => exact (Kd.R_reads' HO_544001.out).2.1)
                                        (case side5 => repeat (first | exact (Kd.R_reads' HO_544002.out).2.2 | (with_reducible refine Kd.C_alloc ?_ _) | (with_reducible refine Kd.C_drewN ?_ _) | (with_reducible refine Kd.C_drew ?_)))
                                        (case side6 => exact (Kd.R_reads' HO_544002.out).2.1)
                                        (case side7 => repeat (first | exact (Kd.C_below HR546.out HB.out) | (with_reducible refine Kd.C_alloc ?_ _) | (with_reducible refine Kd.C_drewN ?_ _) | (with_reducible refine Kd.C_drew ?_)))
                                        (case side8 => exact HC546.out)
                                        rintro e w53 ⟨v548, v551, v554, rfl, ho0, ho1, ho2, hb⟩
                                        refine ⟨_, rfl, ?_⟩
                                        have n0_ := Aside0.mk (Kd.R_mono (Kd.R_told (Kd.R_told (Kd.R_told (Kd.R_old (by (with_reducible repeat (first | apply Kd.R_alloc | apply Kd.R_drewN | apply Kd.R_drew)); exact HO_544000.out) hb) (Kd.R_base ho0)) (Kd.R_base ho1)) (Kd.R_base ho2)) (fun _ h_ => h_.1))
                                        have n1_ := Aside0.mk (Kd.R_mono (Kd.R_told (Kd.R_told (Kd.R_told (Kd.R_old (by (with_reducible repeat (first | apply Kd.R_alloc | apply Kd.R_drewN | apply Kd.R_drew)); exact HO_544001.out) hb) (Kd.R_base ho0)) (Kd.R_base ho1)) (Kd.R_base ho2)) (fun _ h_ => h_.1))
                                        have n2_ := Aside0.mk (Kd.R_mono (Kd.R_told (Kd.R_told (Kd.R_told (Kd.R_old (by (with_reducible repeat (first | apply Kd.R_alloc | apply Kd.R_drewN | apply Kd.R_drew)); exact HO_544002.out) hb) (Kd.R_base ho0)) (Kd.R_base ho1)) (Kd.R_base ho2)) (fun _ h_ => h_.1))
                                        have n3_ := Aside0.mk (Kd.R_lower (Kd.R_new' (Kd.R_new' (Kd.R_new' ho0 (Kd.R_lt (by (with_reducible repeat (first | apply Kd.R_alloc | apply Kd.R_drewN | apply Kd.R_drew)); exact HO_544000.out))) (Kd.R_lt (by (with_reducible repeat (first | apply Kd.R_alloc | apply Kd.R_drewN | apply Kd.R_drew)); exact HO_544001.out))) (Kd.R_lt (by (with_reducible repeat (first | apply Kd.R_alloc | apply Kd.R_drewN | apply Kd.R_drew)); exact HO_544002.out))) (below_size (by repeat (first | (with_reducible first | exact HB.out | apply below_alloc | apply pw_below_drewN | apply below_drew1 | refine below_set ?_ GE543.out) | exact HB.out))))
                                        have n4_ := Aside0.mk (Kd.R_lower (Kd.R_new' (Kd.R_new' (Kd.R_new' ho1 (Kd.R_lt (by (with_reducible repeat (first | apply Kd.R_alloc | apply Kd.R_drewN | apply Kd.R_drew)); exact HO_544000.out))) (Kd.R_lt (by (with_reducible repeat (first | apply Kd.R_alloc | apply Kd.R_drewN | apply Kd.R_drew)); exact HO_544001.out))) (Kd.R_lt (by (with_reducible repeat (first | apply Kd.R_alloc | apply Kd.R_drewN | apply Kd.R_drew)); exact HO_544002.out))) (below_size (by repeat (first | (with_reducible first | exact HB.out | apply below_alloc | apply pw_below_drewN | apply below_drew1 | refine below_set ?_ GE543.out) | exact HB.out))))
                                        have n5_ := Aside0.mk (Kd.R_lower (Kd.R_new' (Kd.R_new' (Kd.R_new' ho2 (Kd.R_lt (by (with_reducible repeat (first | apply Kd.R_alloc | apply Kd.R_drewN | apply Kd.R_drew)); exact HO_544000.out))) (Kd.R_lt (by (with_reducible repeat (first | apply Kd.R_alloc | apply Kd.R_drewN | apply Kd.R_drew)); exact HO_544001.out))) (Kd.R_lt (by (with_reducible repeat (first | apply Kd.R_alloc | apply Kd.R_drewN | apply Kd.R_drew)); exact HO_544002.out))) (below_size (by repeat (first | (with_reducible first | exact HB.out | apply below_alloc | apply pw_below_drewN | apply below_drew1 | refine below_set ?_ GE543.out) | exact HB.out))))
                                        have n6_ := Aside0.mk (blk_below (g := gb543) (o := .cells #[.slice Ao14 t534.length co14, .slice Ao16 t537.length co16, .slice Ao17 t540.length co17] 39 (0, 0)) (by (with_reducible repeat (first | refine blk_drewN ?_ _ | refine blk_drew ?_ | refine blk_alloc ?_ _)); exact BK543.out) hb)
                                        have n7_ := Aside0.mk (below_step (by repeat (first | (with_reducible first | exact HB.out | apply below_alloc | apply pw_below_drewN | apply below_drew1 | refine below_set ?_ GE543.out) | exact HB.out)) hb)
                                        clear HO_544000
                                        clear HO_544001
                                        clear HO_544002
                                        clear BK543
                                        clear HB
                                        have HO_544000 := n0_
                                        have HO_544001 := n1_
                                        have HO_544002 := n2_
                                        have HO549 := n3_
                                        have HO552 := n4_
                                        have HO555 := n5_
                                        have BK543 := n6_
                                        have HB := n7_
                                        clear n0_ n1_ n2_ n3_ n4_ n5_ n6_ n7_
                                        (try clear hb)
                                        (try clear hb2)
                                        (try clear hk)
                                        (try clear hi)
                                        (try clear ho0)
                                        (try clear ho1)
                                        (try clear ho2)
                                        refine hK.out _ _ ⟨(blk_cell BK543.out 0).trans rfl, (blk_cell BK543.out 1).trans rfl, (blk_cell BK543.out 2).trans rfl⟩ (fun hHeld => ?_)
                                        clear hK K
                                        refine norm_ (a' := ?_) ?_ ?_
                                        rotate_left
                                        · show Act.put _ (some 71) _ = _
                                          simp only [Act.put, List.setIfInBounds_toArray, List.set_cons_zero, List.set_cons_succ, i64_w, i32_w]
                                          rfl
                                        refine pure_ (i := 6) (N := some 65) (v := ?_) (a' := ?_) #[true, true, true, true, true, true, true, false, false, false, false, false] rfl rfl (any_of HT_.out (by kernel_rfl)) (fun _ _ _ h => h) (Or.inl ⟨by rfl, ?_⟩) ?_ ?_
                                        rotate_left
                                        · intro w'
                                          go_simp
                                          with_reducible rfl
                                        rotate_left
                                        · simp only [Act.put, List.setIfInBounds_toArray, List.set_cons_zero, List.set_cons_succ, i64_w, i32_w]
                                          rfl
                                        refine pure_ (i := 7) (N := some 72) (v := ?_) (a' := ?_) #[true, true, true, true, true, true, true, true, false, false, false, false] rfl rfl (any_of HT_.out (by kernel_rfl)) (fun _ _ _ h => h) (Or.inl ⟨by rfl, ?_⟩) ?_ ?_
                                        rotate_left
                                        · intro w'
                                          go_simp
                                          with_reducible rfl
                                        rotate_left
                                        · simp only [Act.put, List.setIfInBounds_toArray, List.set_cons_zero, List.set_cons_succ, i64_w, i32_w]
                                          rfl
                                        refine pure_ (i := 8) (N := some 73) (v := ?_) (a' := ?_) #[true, true, true, true, true, true, true, true, true, false, false, false] rfl rfl (any_of HT_.out (by kernel_rfl)) (fun _ _ _ h => h) (Or.inl ⟨by rfl, ?_⟩) ?_ ?_
                                        rotate_left
                                        · intro w'
                                          go_simp
                                          with_reducible rfl
                                        rotate_left
                                        · simp only [Act.put, List.setIfInBounds_toArray, List.set_cons_zero, List.set_cons_succ, i64_w, i32_w]
                                          rfl
                                        refine one_ (i := 9) (N := some 15) #[true, true, true, true, true, true, true, true, true, true, false, false] rfl rfl (one_of HT_.out (by kernel_rfl)) (by decide) (fun K hK => ?_)
                                        refine box_step ?hg (N := 15) ?hd (cs := #[.slice none 0 0, .slice none 0 0, .slice none 0 0]) (t := 39) ?hr ?_; (case hd => rfl); (case hg => rfl); (case hr => first | (go_simp; done) | (go_simp; rfl))
                                        intro gb557 hg w54 hbox hb
                                        have n0_ := Aside0.mk (Kd.R_below (by (with_reducible repeat (first | apply Kd.R_alloc | apply Kd.R_drewN | apply Kd.R_drew)); exact HO_544000.out) hb)
                                        have n1_ := Aside0.mk (Kd.R_below (by (with_reducible repeat (first | apply Kd.R_alloc | apply Kd.R_drewN | apply Kd.R_drew)); exact HO_544001.out) hb)
                                        have n2_ := Aside0.mk (Kd.R_below (by (with_reducible repeat (first | apply Kd.R_alloc | apply Kd.R_drewN | apply Kd.R_drew)); exact HO_544002.out) hb)
                                        have n3_ := Aside0.mk (Kd.R_below (by (with_reducible repeat (first | apply Kd.R_alloc | apply Kd.R_drewN | apply Kd.R_drew)); exact HO549.out) hb)
                                        have n4_ := Aside0.mk (Kd.R_below (by (with_reducible repeat (first | apply Kd.R_alloc | apply Kd.R_drewN | apply Kd.R_drew)); exact HO552.out) hb)
                                        have n5_ := Aside0.mk (Kd.R_below (by (with_reducible repeat (first | apply Kd.R_alloc | apply Kd.R_drewN | apply Kd.R_drew)); exact HO555.out) hb)
                                        have n6_ := Aside0.mk (blk_below (g := gb543) (o := .cells #[.slice Ao14 t534.length co14, .slice Ao16 t537.length co16, .slice Ao17 t540.length co17] 39 (0, 0)) (by (with_reducible repeat (first | refine blk_drewN ?_ _ | refine blk_drew ?_ | refine blk_alloc ?_ _)); exact BK543.out) hb)
                                        have n7_ := Aside0.mk (below_step (by repeat (first | (with_reducible first | exact HB.out | apply below_alloc | apply pw_below_drewN | apply below_drew1 | refine below_set ?_ GE543.out) | exact HB.out)) hb)
                                        have n8_ := Aside0.mk (hbox)
                                        have n9_ := Aside0.mk ((by rw [hg]; exact (below_size (by repeat (first | (with_reducible first | exact HB.out | apply below_alloc | apply pw_below_drewN | apply below_drew1 | refine below_set ?_ GE543.out) | exact HB.out))) : w.heap.size ≤ gb557))
                                        have n10_ := Aside0.mk ((by rw [hg]; exact (below_size (by repeat (first | (with_reducible first | exact HB.out | apply below_alloc | apply pw_below_drewN | apply below_drew1 | refine below_set ?_ GE543.out) | exact HB.out))) : w.heap.size ≤ gb557))
                                        have n11_ := Aside0.mk ((by rw [hg]; exact Nat.ne_of_lt (blk_lt (g := gb543) (o := .cells #[.slice Ao14 t534.length co14, .slice Ao16 t537.length co16, .slice Ao17 t540.length co17] 39 (0, 0)) (by (with_reducible repeat (first | refine blk_drewN ?_ _ | refine blk_drew ?_ | refine blk_alloc ?_ _)); exact BK543.out)) : gb543 ≠ gb557))
                                        have n12_ := Aside0.mk ((by rw [hg]; exact Nat.ne_of_gt (blk_lt (g := gb543) (o := .cells #[.slice Ao14 t534.length co14, .slice Ao16 t537.length co16, .slice Ao17 t540.length co17] 39 (0, 0)) (by (with_reducible repeat (first | refine blk_drewN ?_ _ | refine blk_drew ?_ | refine blk_alloc ?_ _)); exact BK543.out)) : gb557 ≠ gb543))
                                        clear HO_544000
                                        clear HO_544001
                                        clear HO_544002
                                        clear HO549
                                        clear HO552
                                        clear HO555
                                        clear BK543
                                        clear HB
                                        have HO_544000 := n0_
                                        have HO_544001 := n1_
                                        have HO_544002 := n2_
                                        have HO549 := n3_
                                        have HO552 := n4_
                                        have HO555 := n5_
                                        have BK543 := n6_
                                        have HB := n7_
                                        have BK557 := n8_
                                        have GW557 := n9_
                                        have GE557 := n10_
                                        have NB543_557 := n11_
                                        have NB557_543 := n12_
                                        clear n0_ n1_ n2_ n3_ n4_ n5_ n6_ n7_ n8_ n9_ n10_ n11_ n12_
                                        clear hb hbox hg
                                        refine hK.out _ _ ⟨(blk_cell BK543.out 0).trans rfl, (blk_cell BK543.out 1).trans rfl, (blk_cell BK543.out 2).trans rfl⟩ (fun hHeld => ?_)
                                        clear hK K
                                        refine norm_ (a' := ?_) ?_ ?_
                                        rotate_left
                                        · show Act.put _ (some 15) _ = _
                                          simp only [Act.put, List.setIfInBounds_toArray, List.set_cons_zero, List.set_cons_succ, i64_w, i32_w]
                                          rfl
                                        exact norm_ (by simp only [putAll, Act.put, List.setIfInBounds_toArray, List.set_cons_zero, List.set_cons_succ]) (hCont (v548, v551, v554, gb557) _ ⟨hHeld, (by (with_reducible repeat (first | apply Kd.R_alloc | apply Kd.R_drewN | apply Kd.R_drew)); exact Kd.R_mono HO549.out (fun _ hk => ⟨hk.1.1.1.1, ⟨hk.1.1.1.2, ⟨hk.1.1.2, ⟨hk.1.2, hk.2⟩⟩⟩⟩)), (by (with_reducible repeat (first | apply Kd.R_alloc | apply Kd.R_drewN | apply Kd.R_drew)); exact Kd.R_mono HO552.out (fun _ hk => ⟨hk.1.1.1.1, ⟨hk.1.1.1.2, ⟨hk.1.1.2, ⟨hk.1.2, hk.2⟩⟩⟩⟩)), (by (with_reducible repeat (first | apply Kd.R_alloc | apply Kd.R_drewN | apply Kd.R_drew)); exact Kd.R_mono HO555.out (fun _ hk => ⟨hk.1.1.1.1, ⟨hk.1.1.1.2, ⟨hk.1.1.2, ⟨hk.1.2, hk.2⟩⟩⟩⟩)), (by (with_reducible repeat (first | apply Kd.R_alloc | apply Kd.R_drewN | apply Kd.R_drew)); exact Kd.R_mono HO_544000.out (fun _ hk => ⟨hk.1.1.2, ⟨hk.1.2, ⟨hk.2, ⟨hk.1.1.1.1, hk.1.1.1.2⟩⟩⟩⟩)), (by (with_reducible repeat (first | apply Kd.R_alloc | apply Kd.R_drewN | apply Kd.R_drew)); exact Kd.R_mono HO_544001.out (fun _ hk => ⟨hk.1.1.2, ⟨hk.1.2, ⟨hk.2, ⟨hk.1.1.1.1, hk.1.1.1.2⟩⟩⟩⟩)), (by (with_reducible repeat (first | apply Kd.R_alloc | apply Kd.R_drewN | apply Kd.R_drew)); exact Kd.R_mono HO_544002.out (fun _ hk => ⟨hk.1.1.2, ⟨hk.1.2, ⟨hk.2, ⟨hk.1.1.1.1, hk.1.1.1.2⟩⟩⟩⟩)), (by (with_reducible repeat (first | refine blk_drewN ?_ _ | refine blk_drew ?_ | refine blk_alloc ?_ _)); exact BK543.out), (by (with_reducible repeat (first | refine blk_drewN ?_ _ | refine blk_drew ?_ | refine blk_alloc ?_ _)); exact BK557.out), GW557.out, GE557.out, NB543_557.out, NB557_543.out, (by repeat (first | (with_reducible first | exact HB.out | apply below_alloc | apply pw_below_drewN | apply below_drew1 | refine below_set ?_ GE543.out | refine below_set ?_ GE557.out) | exact HB.out))⟩)
                                      · skip
                                        refine box_step ?hg (N := 15) ?hd (cs := #[.slice none 0 0, .slice none 0 0, .slice none 0 0]) (t := 39) ?hr ?_; (case hd => rfl); (case hg => rfl); (case hr => first | (go_simp; done) | (go_simp; rfl))
                                        intro gb557 hg w53 hbox hb
                                        have n0_ := Aside0.mk (Kd.R_below (by (with_reducible repeat (first | apply Kd.R_alloc | apply Kd.R_drewN | apply Kd.R_drew)); exact HO_544000.out) hb)
                                        have n1_ := Aside0.mk (Kd.R_below (by (with_reducible repeat (first | apply Kd.R_alloc | apply Kd.R_drewN | apply Kd.R_drew)); exact HO_544001.out) hb)
                                        have n2_ := Aside0.mk (Kd.R_below (by (with_reducible repeat (first | apply Kd.R_alloc | apply Kd.R_drewN | apply Kd.R_drew)); exact HO_544002.out) hb)
                                        have n3_ := Aside0.mk (blk_below (g := gb543) (o := .cells #[.slice Ao14 t534.length co14, .slice Ao16 t537.length co16, .slice Ao17 t540.length co17] 39 (0, 0)) (by (with_reducible repeat (first | refine blk_drewN ?_ _ | refine blk_drew ?_ | refine blk_alloc ?_ _)); exact BK543.out) hb)
                                        have n4_ := Aside0.mk (below_step (by repeat (first | (with_reducible first | exact HB.out | apply below_alloc | apply pw_below_drewN | apply below_drew1 | refine below_set ?_ GE543.out) | exact HB.out)) hb)
                                        have n5_ := Aside0.mk (hbox)
                                        have n6_ := Aside0.mk ((by rw [hg]; exact (below_size (by repeat (first | (with_reducible first | exact HB.out | apply below_alloc | apply pw_below_drewN | apply below_drew1 | refine below_set ?_ GE543.out) | exact HB.out))) : w.heap.size ≤ gb557))
                                        have n7_ := Aside0.mk ((by rw [hg]; exact (below_size (by repeat (first | (with_reducible first | exact HB.out | apply below_alloc | apply pw_below_drewN | apply below_drew1 | refine below_set ?_ GE543.out) | exact HB.out))) : w.heap.size ≤ gb557))
                                        have n8_ := Aside0.mk ((by rw [hg]; exact Nat.ne_of_lt (blk_lt (g := gb543) (o := .cells #[.slice Ao14 t534.length co14, .slice Ao16 t537.length co16, .slice Ao17 t540.length co17] 39 (0, 0)) (by (with_reducible repeat (first | refine blk_drewN ?_ _ | refine blk_drew ?_ | refine blk_alloc ?_ _)); exact BK543.out)) : gb543 ≠ gb557))
                                        have n9_ := Aside0.mk ((by rw [hg]; exact Nat.ne_of_gt (blk_lt (g := gb543) (o := .cells #[.slice Ao14 t534.length co14, .slice Ao16 t537.length co16, .slice Ao17 t540.length co17] 39 (0, 0)) (by (with_reducible repeat (first | refine blk_drewN ?_ _ | refine blk_drew ?_ | refine blk_alloc ?_ _)); exact BK543.out)) : gb557 ≠ gb543))
                                        clear HO_544000
                                        clear HO_544001
                                        clear HO_544002
                                        clear BK543
                                        clear HB
                                        have HO_544000 := n0_
                                        have HO_544001 := n1_
                                        have HO_544002 := n2_
                                        have BK543 := n3_
                                        have HB := n4_
                                        have BK557 := n5_
                                        have GW557 := n6_
                                        have GE557 := n7_
                                        have NB543_557 := n8_
                                        have NB557_543 := n9_
                                        clear n0_ n1_ n2_ n3_ n4_ n5_ n6_ n7_ n8_ n9_
                                        clear hb hbox hg
                                        refine hK.out _ _ ⟨(blk_cell BK543.out 0).trans rfl, (blk_cell BK543.out 1).trans rfl, (blk_cell BK543.out 2).trans rfl⟩ (fun hHeld => ?_)
                                        clear hK K
                                        refine norm_ (a' := ?_) ?_ ?_
                                        rotate_left
                                        · show Act.put _ (some 15) _ = _
                                          simp only [Act.put, List.setIfInBounds_toArray, List.set_cons_zero, List.set_cons_succ, i64_w, i32_w]
                                          rfl
                                        refine one_ (i := 5) (N := some 71) #[true, true, true, true, true, true, false, false, false, true, false, false] rfl rfl (one_of HT_.out (by kernel_rfl)) (by decide) (fun K hK => ?_)
                                        refine goes_ Try.func41 (by kernel_rfl) rfl #[.agg #[.slice Ao14 t534.length co14, .slice Ao16 t537.length co16, .slice Ao17 t540.length co17], .slice A52 (((rd_L2 l0 (ji21)).take ((wrap64 ((ji26) + (Int.tmod (wrap64 (a3)) (wrap64 ((wrap64 (((rd_L2 l0 (ji21)).length : Int) + 1)) - (ji26)))))) : Int).toNat).drop ((ji26) : Int).toNat).length (c545_0 - (ji26).toNat)] (by rfl) rfl rfl (by (try simp only [List.map_toArray, List.map_cons, List.map_nil]); first | done | (rw [show (((rd_L2 l0 (ji21)).take ((wrap64 ((ji26) + (Int.tmod (wrap64 (a3)) (wrap64 ((wrap64 (((rd_L2 l0 (ji21)).length : Int) + 1)) - (ji26)))))) : Int).toNat).drop ((ji26) : Int).toNat).length = ((wrap64 ((ji26) + (Int.tmod (wrap64 (a3)) (wrap64 ((wrap64 (((rd_L2 l0 (ji21)).length : Int) + 1)) - (ji26)))))).toNat - (ji26).toNat) from (by rw [List.length_drop, List.length_take]; have h_ : ((wrap64 ((ji26) + (Int.tmod (wrap64 (a3)) (wrap64 ((wrap64 (((rd_L2 l0 (ji21)).length : Int) + 1)) - (ji26)))))) : Int) ≤ ((rd_L2 l0 (ji21)).length : Int) := of_decide_eq_true (by first | (with_reducible assumption) | assumption); omega)] <;> rfl) | (simp only [hji21, hji26]; rfl) | rfl | (simp only [List.length_drop, List.length_take]; rfl)) ?_
                                        with_reducible refine (seqpool_Add.calls _ _ t534 _ _ t537 _ _ t540 _ _ (((rd_L2 l0 (ji21)).take ((wrap64 ((ji26) + (Int.tmod (wrap64 (a3)) (wrap64 ((wrap64 (((rd_L2 l0 (ji21)).length : Int) + 1)) - (ji26)))))) : Int).toNat).drop ((ji26) : Int).toNat) t547 t550 t553 t556 _ ?side1 ?side2 ?side3 ?side4 ?side5 ?side6 ?side7 ?side8 A30.out).mono ?_
                                        (case side1 => repeat (first | exact (Kd.R_reads' HO_544000.out).2.2 | (with_reducible refine Kd.C_alloc ?_ _) | (with_reducible refine Kd.C_drewN ?_ _) | (with_reducible refine Kd.C_drew ?_)))
                                        (case side2 => exact (Kd.R_reads' HO_544000.out).2.1)
                                        (case side3 => repeat (first | exact (Kd.R_reads' HO_544001.out).2.2 | (with_reducible refine Kd.C_alloc ?_ _) | (with_reducible refine Kd.C_drewN ?_ _) | (with_reducible refine Kd.C_drew ?_)))
                                        (case side4 => exact (Kd.R_reads' HO_544001.out).2.1)
                                        (case side5 => repeat (first | exact (Kd.R_reads' HO_544002.out).2.2 | (with_reducible refine Kd.C_alloc ?_ _) | (with_reducible refine Kd.C_drewN ?_ _) | (with_reducible refine Kd.C_drew ?_)))
                                        (case side6 => exact (Kd.R_reads' HO_544002.out).2.1)
                                        (case side7 => repeat (first | exact (Kd.C_below HR546.out HB.out) | (with_reducible refine Kd.C_alloc ?_ _) | (with_reducible refine Kd.C_drewN ?_ _) | (with_reducible refine Kd.C_drew ?_)))
                                        (case side8 => exact HC546.out)
                                        rintro e w54 ⟨v548, v551, v554, rfl, ho0, ho1, ho2, hb⟩
                                        refine ⟨_, rfl, ?_⟩
                                        have n0_ := Aside0.mk (Kd.R_mono (Kd.R_told (Kd.R_told (Kd.R_told (Kd.R_old (by (with_reducible repeat (first | apply Kd.R_alloc | apply Kd.R_drewN | apply Kd.R_drew)); exact HO_544000.out) hb) (Kd.R_base ho0)) (Kd.R_base ho1)) (Kd.R_base ho2)) (fun _ h_ => h_.1))
                                        have n1_ := Aside0.mk (Kd.R_mono (Kd.R_told (Kd.R_told (Kd.R_told (Kd.R_old (by (with_reducible repeat (first | apply Kd.R_alloc | apply Kd.R_drewN | apply Kd.R_drew)); exact HO_544001.out) hb) (Kd.R_base ho0)) (Kd.R_base ho1)) (Kd.R_base ho2)) (fun _ h_ => h_.1))
                                        have n2_ := Aside0.mk (Kd.R_mono (Kd.R_told (Kd.R_told (Kd.R_told (Kd.R_old (by (with_reducible repeat (first | apply Kd.R_alloc | apply Kd.R_drewN | apply Kd.R_drew)); exact HO_544002.out) hb) (Kd.R_base ho0)) (Kd.R_base ho1)) (Kd.R_base ho2)) (fun _ h_ => h_.1))
                                        have n3_ := Aside0.mk (Kd.R_lower (Kd.R_new' (Kd.R_new' (Kd.R_new' ho0 (Kd.R_lt (by (with_reducible repeat (first | apply Kd.R_alloc | apply Kd.R_drewN | apply Kd.R_drew)); exact HO_544000.out))) (Kd.R_lt (by (with_reducible repeat (first | apply Kd.R_alloc | apply Kd.R_drewN | apply Kd.R_drew)); exact HO_544001.out))) (Kd.R_lt (by (with_reducible repeat (first | apply Kd.R_alloc | apply Kd.R_drewN | apply Kd.R_drew)); exact HO_544002.out))) (below_size (by repeat (first | (with_reducible first | exact HB.out | apply below_alloc | apply pw_below_drewN | apply below_drew1 | refine below_set ?_ GE543.out | refine below_set ?_ GE557.out) | exact HB.out))))
                                        have n4_ := Aside0.mk (Kd.R_lower (Kd.R_new' (Kd.R_new' (Kd.R_new' ho1 (Kd.R_lt (by (with_reducible repeat (first | apply Kd.R_alloc | apply Kd.R_drewN | apply Kd.R_drew)); exact HO_544000.out))) (Kd.R_lt (by (with_reducible repeat (first | apply Kd.R_alloc | apply Kd.R_drewN | apply Kd.R_drew)); exact HO_544001.out))) (Kd.R_lt (by (with_reducible repeat (first | apply Kd.R_alloc | apply Kd.R_drewN | apply Kd.R_drew)); exact HO_544002.out))) (below_size (by repeat (first | (with_reducible first | exact HB.out | apply below_alloc | apply pw_below_drewN | apply below_drew1 | refine below_set ?_ GE543.out | refine below_set ?_ GE557.out) | exact HB.out))))
                                        have n5_ := Aside0.mk (Kd.R_lower (Kd.R_new' (Kd.R_new' (Kd.R_new' ho2 (Kd.R_lt (by (with_reducible repeat (first | apply Kd.R_alloc | apply Kd.R_drewN | apply Kd.R_drew)); exact HO_544000.out))) (Kd.R_lt (by (with_reducible repeat (first | apply Kd.R_alloc | apply Kd.R_drewN | apply Kd.R_drew)); exact HO_544001.out))) (Kd.R_lt (by (with_reducible repeat (first | apply Kd.R_alloc | apply Kd.R_drewN | apply Kd.R_drew)); exact HO_544002.out))) (below_size (by repeat (first | (with_reducible first | exact HB.out | apply below_alloc | apply pw_below_drewN | apply below_drew1 | refine below_set ?_ GE543.out | refine below_set ?_ GE557.out) | exact HB.out))))
                                        have n6_ := Aside0.mk (blk_below (g := gb543) (o := .cells #[.slice Ao14 t534.length co14, .slice Ao16 t537.length co16, .slice Ao17 t540.length co17] 39 (0, 0)) (by (with_reducible repeat (first | refine blk_drewN ?_ _ | refine blk_drew ?_ | refine blk_alloc ?_ _)); exact BK543.out) hb)
                                        have n7_ := Aside0.mk (blk_below (g := gb557) (o := .cells #[.slice none 0 0, .slice none 0 0, .slice none 0 0] 39 (0, 0)) (by (with_reducible repeat (first | refine blk_drewN ?_ _ | refine blk_drew ?_ | refine blk_alloc ?_ _)); exact BK557.out) hb)
                                        have n8_ := Aside0.mk (below_step (by repeat (first | (with_reducible first | exact HB.out | apply below_alloc | apply pw_below_drewN | apply below_drew1 | refine below_set ?_ GE543.out | refine below_set ?_ GE557.out) | exact HB.out)) hb)
                                        clear HO_544000
                                        clear HO_544001
                                        clear HO_544002
                                        clear BK543
                                        clear BK557
                                        clear HB
                                        have HO_544000 := n0_
                                        have HO_544001 := n1_
                                        have HO_544002 := n2_
                                        have HO549 := n3_
                                        have HO552 := n4_
                                        have HO555 := n5_
                                        have BK543 := n6_
                                        have BK557 := n7_
                                        have HB := n8_
                                        clear n0_ n1_ n2_ n3_ n4_ n5_ n6_ n7_ n8_
                                        (try clear hb)
                                        (try clear hb2)
                                        (try clear hk)
                                        (try clear hi)
                                        (try clear ho0)
                                        (try clear ho1)
                                        (try clear ho2)
                                        refine hK.out _ _ ⟨(blk_cell BK543.out 0).trans rfl, (blk_cell BK543.out 1).trans rfl, (blk_cell BK543.out 2).trans rfl⟩ (fun hHeld => ?_)
                                        clear hK K
                                        refine norm_ (a' := ?_) ?_ ?_
                                        rotate_left
                                        · show Act.put _ (some 71) _ = _
                                          simp only [Act.put, List.setIfInBounds_toArray, List.set_cons_zero, List.set_cons_succ, i64_w, i32_w]
                                          rfl
                                        refine pure_ (i := 6) (N := some 65) (v := ?_) (a' := ?_) #[true, true, true, true, true, true, true, false, false, true, false, false] rfl rfl (any_of HT_.out (by kernel_rfl)) (fun _ _ _ h => h) (Or.inl ⟨by rfl, ?_⟩) ?_ ?_
                                        rotate_left
                                        · intro w'
                                          go_simp
                                          with_reducible rfl
                                        rotate_left
                                        · simp only [Act.put, List.setIfInBounds_toArray, List.set_cons_zero, List.set_cons_succ, i64_w, i32_w]
                                          rfl
                                        refine pure_ (i := 7) (N := some 72) (v := ?_) (a' := ?_) #[true, true, true, true, true, true, true, true, false, true, false, false] rfl rfl (any_of HT_.out (by kernel_rfl)) (fun _ _ _ h => h) (Or.inl ⟨by rfl, ?_⟩) ?_ ?_
                                        rotate_left
                                        · intro w'
                                          go_simp
                                          with_reducible rfl
                                        rotate_left
                                        · simp only [Act.put, List.setIfInBounds_toArray, List.set_cons_zero, List.set_cons_succ, i64_w, i32_w]
                                          rfl
                                        refine pure_ (i := 8) (N := some 73) (v := ?_) (a' := ?_) #[true, true, true, true, true, true, true, true, true, true, false, false] rfl rfl (any_of HT_.out (by kernel_rfl)) (fun _ _ _ h => h) (Or.inl ⟨by rfl, ?_⟩) ?_ ?_
                                        rotate_left
                                        · intro w'
                                          go_simp
                                          with_reducible rfl
                                        rotate_left
                                        · simp only [Act.put, List.setIfInBounds_toArray, List.set_cons_zero, List.set_cons_succ, i64_w, i32_w]
                                          rfl
                                        exact norm_ (by simp only [putAll, Act.put, List.setIfInBounds_toArray, List.set_cons_zero, List.set_cons_succ]) (hCont (v548, v551, v554, gb557) _ ⟨hHeld, (by (with_reducible repeat (first | apply Kd.R_alloc | apply Kd.R_drewN | apply Kd.R_drew)); exact Kd.R_mono HO549.out (fun _ hk => ⟨hk.1.1.1.1, ⟨hk.1.1.1.2, ⟨hk.1.1.2, ⟨hk.1.2, hk.2⟩⟩⟩⟩)), (by (with_reducible repeat (first | apply Kd.R_alloc | apply Kd.R_drewN | apply Kd.R_drew)); exact Kd.R_mono HO552.out (fun _ hk => ⟨hk.1.1.1.1, ⟨hk.1.1.1.2, ⟨hk.1.1.2, ⟨hk.1.2, hk.2⟩⟩⟩⟩)), (by (with_reducible repeat (first | apply Kd.R_alloc | apply Kd.R_drewN | apply Kd.R_drew)); exact Kd.R_mono HO555.out (fun _ hk => ⟨hk.1.1.1.1, ⟨hk.1.1.1.2, ⟨hk.1.1.2, ⟨hk.1.2, hk.2⟩⟩⟩⟩)), (by (with_reducible repeat (first | apply Kd.R_alloc | apply Kd.R_drewN | apply Kd.R_drew)); exact Kd.R_mono HO_544000.out (fun _ hk => ⟨hk.1.1.2, ⟨hk.1.2, ⟨hk.2, ⟨hk.1.1.1.1, hk.1.1.1.2⟩⟩⟩⟩)), (by (with_reducible repeat (first | apply Kd.R_alloc | apply Kd.R_drewN | apply Kd.R_drew)); exact Kd.R_mono HO_544001.out (fun _ hk => ⟨hk.1.1.2, ⟨hk.1.2, ⟨hk.2, ⟨hk.1.1.1.1, hk.1.1.1.2⟩⟩⟩⟩)), (by (with_reducible repeat (first | apply Kd.R_alloc | apply Kd.R_drewN | apply Kd.R_drew)); exact Kd.R_mono HO_544002.out (fun _ hk => ⟨hk.1.1.2, ⟨hk.1.2, ⟨hk.2, ⟨hk.1.1.1.1, hk.1.1.1.2⟩⟩⟩⟩)), (by (with_reducible repeat (first | refine blk_drewN ?_ _ | refine blk_drew ?_ | refine blk_alloc ?_ _)); exact BK543.out), (by (with_reducible repeat (first | refine blk_drewN ?_ _ | refine blk_drew ?_ | refine blk_alloc ?_ _)); exact BK557.out), GW557.out, GE557.out, NB543_557.out, NB557_543.out, (by repeat (first | (with_reducible first | exact HB.out | apply below_alloc | apply pw_below_drewN | apply below_drew1 | refine below_set ?_ GE543.out | refine below_set ?_ GE557.out) | exact HB.out))⟩)
                                    rintro ⟨v548, v551, v554, gb557⟩ w55 ⟨hS_, h0_, h1_, h2_, h3_, h4_, h5_, h6_, h7_, h8_, h9_, h10_, h11_, h12_⟩
                                    have n0_ : Aside0 (Kd.R (Kd.int .i64) 3 w55 w.heap.size (fun k_ => some k_ ≠ (v551 : Value).ownBlock ∧ some k_ ≠ (v554 : Value).ownBlock ∧ some k_ ≠ (.slice Ao14 t534.length co14 : Value).ownBlock ∧ some k_ ≠ (.slice Ao16 t537.length co16 : Value).ownBlock ∧ some k_ ≠ (.slice Ao17 t540.length co17 : Value).ownBlock) v548 t547) := ⟨h0_⟩
                                    have n1_ : Aside0 (Kd.R (Kd.int .i64) 3 w55 w.heap.size (fun k_ => some k_ ≠ (v548 : Value).ownBlock ∧ some k_ ≠ (v554 : Value).ownBlock ∧ some k_ ≠ (.slice Ao14 t534.length co14 : Value).ownBlock ∧ some k_ ≠ (.slice Ao16 t537.length co16 : Value).ownBlock ∧ some k_ ≠ (.slice Ao17 t540.length co17 : Value).ownBlock) v551 t550) := ⟨h1_⟩
                                    have n2_ : Aside0 (Kd.R (Kd.int .i64) 3 w55 w.heap.size (fun k_ => some k_ ≠ (v548 : Value).ownBlock ∧ some k_ ≠ (v551 : Value).ownBlock ∧ some k_ ≠ (.slice Ao14 t534.length co14 : Value).ownBlock ∧ some k_ ≠ (.slice Ao16 t537.length co16 : Value).ownBlock ∧ some k_ ≠ (.slice Ao17 t540.length co17 : Value).ownBlock) v554 t553) := ⟨h2_⟩
                                    have n3_ : Aside0 (Kd.R (Kd.int .i64) 3 w55 w.heap.size (fun k_ => some k_ ≠ (v548 : Value).ownBlock ∧ some k_ ≠ (v551 : Value).ownBlock ∧ some k_ ≠ (v554 : Value).ownBlock ∧ some k_ ≠ (.slice Ao16 t537.length co16 : Value).ownBlock ∧ some k_ ≠ (.slice Ao17 t540.length co17 : Value).ownBlock) (.slice Ao14 t534.length co14) t534) := ⟨h3_⟩
                                    have n4_ : Aside0 (Kd.R (Kd.int .i64) 3 w55 w.heap.size (fun k_ => some k_ ≠ (v548 : Value).ownBlock ∧ some k_ ≠ (v551 : Value).ownBlock ∧ some k_ ≠ (v554 : Value).ownBlock ∧ some k_ ≠ (.slice Ao14 t534.length co14 : Value).ownBlock ∧ some k_ ≠ (.slice Ao17 t540.length co17 : Value).ownBlock) (.slice Ao16 t537.length co16) t537) := ⟨h4_⟩
                                    have n5_ : Aside0 (Kd.R (Kd.int .i64) 3 w55 w.heap.size (fun k_ => some k_ ≠ (v548 : Value).ownBlock ∧ some k_ ≠ (v551 : Value).ownBlock ∧ some k_ ≠ (v554 : Value).ownBlock ∧ some k_ ≠ (.slice Ao14 t534.length co14 : Value).ownBlock ∧ some k_ ≠ (.slice Ao16 t537.length co16 : Value).ownBlock) (.slice Ao17 t540.length co17) t540) := ⟨h5_⟩
                                    have n6_ : Aside0 (w55.heap[gb543]? = some (.cells #[.slice Ao14 t534.length co14, .slice Ao16 t537.length co16, .slice Ao17 t540.length co17] 39 (0, 0))) := ⟨h6_⟩
                                    have n7_ : Aside0 (w55.heap[gb557]? = some (.cells #[.slice none 0 0, .slice none 0 0, .slice none 0 0] 39 (0, 0))) := ⟨h7_⟩
                                    have n8_ : Aside0 (w.heap.size ≤ gb557) := ⟨h8_⟩
                                    have n9_ : Aside0 (w.heap.size ≤ gb557) := ⟨h9_⟩
                                    have n10_ : Aside0 (gb543 ≠ gb557) := ⟨h10_⟩
                                    have n11_ : Aside0 (gb557 ≠ gb543) := ⟨h11_⟩
                                    have n12_ : Aside0 (Below w.heap.size w w55) := ⟨h12_⟩
                                    clear HO_544000
                                    clear HO_544001
                                    clear HO_544002
                                    clear BK543
                                    clear HB
                                    clear h0_ h1_ h2_ h3_ h4_ h5_ h6_ h7_ h8_ h9_ h10_ h11_ h12_
                                    have HO549 := n0_
                                    have HO552 := n1_
                                    have HO555 := n2_
                                    have HO_544000 := n3_
                                    have HO_544001 := n4_
                                    have HO_544002 := n5_
                                    have BK543 := n6_
                                    have BK557 := n7_
                                    have GW557 := n8_
                                    have GE557 := n9_
                                    have NB543_557 := n10_
                                    have NB557_543 := n11_
                                    have HB := n12_
                                    clear n0_ n1_ n2_ n3_ n4_ n5_ n6_ n7_ n8_ n9_ n10_ n11_ n12_
                                    have hHeld : w55.cell? ⟨gb543, 0, none⟩ = some (.slice Ao14 t534.length co14) ∧ w55.cell? ⟨gb543, 1, none⟩ = some (.slice Ao16 t537.length co16) ∧ w55.cell? ⟨gb543, 2, none⟩ = some (.slice Ao17 t540.length co17) := hS_
                                    obtain ⟨Ao56, co56, eo56⟩ := Kd.R_slice HO549.out
                                    (first | subst eo56 | (injection eo56 with f1_ f2_ f3_; have f4_ := f1_.symm; have f5_ := f3_.symm; clear f1_ f2_ f3_; subst f4_; subst f5_))
                                    obtain ⟨Ao58, co58, eo58⟩ := Kd.R_slice HO552.out
                                    (first | subst eo58 | (injection eo58 with f1_ f2_ f3_; have f4_ := f1_.symm; have f5_ := f3_.symm; clear f1_ f2_ f3_; subst f4_; subst f5_))
                                    obtain ⟨Ao60, co60, eo60⟩ := Kd.R_slice HO555.out
                                    (first | subst eo60 | (injection eo60 with f1_ f2_ f3_; have f4_ := f1_.symm; have f5_ := f3_.symm; clear f1_ f2_ f3_; subst f4_; subst f5_))
                                    refine norm_ (a' := ?_) ?_ ?_
                                    rotate_left
                                    · simp only [putAll, Act.put, List.setIfInBounds_toArray, List.set_cons_zero, List.set_cons_succ]
                                      rfl
                                    refine one_ (i := 10) (N := none) #[true, true, true, true, true, true, true, true, true, true, true, false] rfl rfl (one_of HT_.out (by kernel_rfl)) (by decide) (fun K hK => ?_)
                                    have hs57 : w55.cell? ⟨gb557, 0, none⟩ = some (.slice none 0 0) := (blk_cell BK557.out 0).trans rfl
                                    have hfs57 := blk_frozen BK557.out 0
                                    have hns57_0 := NB543_557.out
                                    have hms57_0 := NB557_543.out
                                    have hs59 : w55.cell? ⟨gb557, 1, none⟩ = some (.slice none 0 0) := (blk_cell BK557.out 1).trans rfl
                                    have hfs59 := blk_frozen BK557.out 1
                                    have hns59_0 := NB543_557.out
                                    have hms59_0 := NB557_543.out
                                    have hs61 : w55.cell? ⟨gb557, 2, none⟩ = some (.slice none 0 0) := (blk_cell BK557.out 2).trans rfl
                                    have hfs61 := blk_frozen BK557.out 2
                                    have hns61_0 := NB543_557.out
                                    have hms61_0 := NB557_543.out
                                    refine skip_ (w1 := ?_) (by rfl) rfl ?_ ?_
                                    rotate_left
                                    · go_simp
                                      rfl
                                    refine hK.out _ _ ⟨((cell_far (p := ⟨gb557, _, none⟩) NB543_557.out _).trans (((cell_far (p := ⟨gb557, _, none⟩) NB543_557.out _).trans (((cell_far (p := ⟨gb557, _, none⟩) NB543_557.out _).trans (hHeld.1)))))), ((cell_far (p := ⟨gb557, _, none⟩) NB543_557.out _).trans (((cell_far (p := ⟨gb557, _, none⟩) NB543_557.out _).trans (((cell_far (p := ⟨gb557, _, none⟩) NB543_557.out _).trans (hHeld.2.1)))))), ((cell_far (p := ⟨gb557, _, none⟩) NB543_557.out _).trans (((cell_far (p := ⟨gb557, _, none⟩) NB543_557.out _).trans (((cell_far (p := ⟨gb557, _, none⟩) NB543_557.out _).trans (hHeld.2.2))))))⟩ (fun hHeld => ?_)
                                    clear hK K
                                    refine pure_ (i := 11) (N := some 16) (v := ?_) (a' := ?_) #[true, true, true, true, true, true, true, true, true, true, true, true] rfl rfl (any_of HT_.out (by kernel_rfl)) (fun _ _ _ h => h) (Or.inl ⟨by rfl, ?_⟩) ?_ ?_
                                    rotate_left
                                    · intro w'
                                      go_simp
                                      with_reducible rfl
                                    rotate_left
                                    · simp only [Act.put, List.setIfInBounds_toArray, List.set_cons_zero, List.set_cons_succ, i64_w, i32_w]
                                      rfl
                                    refine done_ (done_of HT_.out (by kernel_rfl)) ?_
                                    have hnb62 := NB543_557.out
                                    have hnc62 := NB557_543.out
                                    have hcz63_0 : w55.cell? ⟨gb543, 0, none⟩ = some (.slice Ao14 t534.length co14) := (blk_cell BK543.out 0).trans rfl
                                    have hcz63_1 : w55.cell? ⟨gb543, 1, none⟩ = some (.slice Ao16 t537.length co16) := (blk_cell BK543.out 1).trans rfl
                                    have hcz63_2 : w55.cell? ⟨gb543, 2, none⟩ = some (.slice Ao17 t540.length co17) := (blk_cell BK543.out 2).trans rfl
                                    have hfz63_0 := blk_frozen BK543.out 0
                                    have hfz63_1 := blk_frozen BK543.out 1
                                    have hfz63_2 := blk_frozen BK543.out 2
                                    have hcz64_0 : w55.cell? ⟨gb557, 0, none⟩ = some (.slice none 0 0) := (blk_cell BK557.out 0).trans rfl
                                    have hcz64_1 : w55.cell? ⟨gb557, 1, none⟩ = some (.slice none 0 0) := (blk_cell BK557.out 1).trans rfl
                                    have hcz64_2 : w55.cell? ⟨gb557, 2, none⟩ = some (.slice none 0 0) := (blk_cell BK557.out 2).trans rfl
                                    have hfz64_0 := blk_frozen BK557.out 0
                                    have hfz64_1 := blk_frozen BK557.out 1
                                    have hfz64_2 := blk_frozen BK557.out 2
                                    try go_wp2_with (first | (go_at_call 54; (with_reducible refine (unicodetextref01_Equal.calls k2 _ _ t547 _ _ t534 true _ ?side1 ?side2 ?side3 ?side4 A32.out).mono ?_); (case side1 => refine (Kd.R_reads' (e := 3) (base := w.heap.size) (ok := fun k_ => (some k_ ≠ (.slice Ao58 t550.length co58 : Value).ownBlock ∧ (some k_ ≠ (.slice Ao60 t553.length co60 : Value).ownBlock ∧ (some k_ ≠ (.slice Ao14 t534.length co14 : Value).ownBlock ∧ (some k_ ≠ (.slice Ao16 t537.length co16 : Value).ownBlock ∧ some k_ ≠ (.slice Ao17 t540.length co17 : Value).ownBlock))))) (n := t547.length) (c := co56) ?_).2.2; exact (by (with_reducible repeat (first | apply Kd.R_alloc | apply Kd.R_drewN | apply Kd.R_drew)); exact (Kd.R_mono (Kd.R_far (p := ⟨gb557, 2, none⟩) (Kd.R_far (p := ⟨gb557, 1, none⟩) (Kd.R_far (p := ⟨gb557, 0, none⟩) (Kd.R_types HO549.out BK557.out (by decide)) (fun _ hk => hk.2) (.slice Ao56 t547.length co56)) (fun _ hk => hk.2) (.slice Ao58 t550.length co58)) (fun _ hk => hk.2) (.slice Ao60 t553.length co60)) (fun _ h_ => h_.1)))); (case side2 => exact (Kd.R_reads' HO549.out).2.1); (case side3 => refine (Kd.R_reads' (e := 3) (base := w.heap.size) (ok := fun k_ => (some k_ ≠ (.slice Ao56 t547.length co56 : Value).ownBlock ∧ (some k_ ≠ (.slice Ao58 t550.length co58 : Value).ownBlock ∧ (some k_ ≠ (.slice Ao60 t553.length co60 : Value).ownBlock ∧ (some k_ ≠ (.slice Ao16 t537.length co16 : Value).ownBlock ∧ some k_ ≠ (.slice Ao17 t540.length co17 : Value).ownBlock))))) (n := t534.length) (c := co14) ?_).2.2; exact (by (with_reducible repeat (first | apply Kd.R_alloc | apply Kd.R_drewN | apply Kd.R_drew)); exact (Kd.R_mono (Kd.R_far (p := ⟨gb557, 2, none⟩) (Kd.R_far (p := ⟨gb557, 1, none⟩) (Kd.R_far (p := ⟨gb557, 0, none⟩) (Kd.R_types HO_544000.out BK557.out (by decide)) (fun _ hk => hk.2) (.slice Ao56 t547.length co56)) (fun _ hk => hk.2) (.slice Ao58 t550.length co58)) (fun _ hk => hk.2) (.slice Ao60 t553.length co60)) (fun _ h_ => h_.1)))); (case side4 => exact (Kd.R_reads' HO_544000.out).2.1); rintro e w' ⟨rfl, ⟨nd, rfl⟩⟩))
                                    go_ret
                                    exact ⟨by first | rfl | (simp [errW_none, errW_some] <;> rfl) | (simp only [← hji21, ← hji26]; first | rfl | (simp [errW_none, errW_some] <;> rfl)) | (simp [*, errW_none, errW_some] <;> rfl), by repeat (first | (with_reducible first | exact HB.out | apply below_alloc | apply pw_below_drewN | apply below_drew1 | refine below_set ?_ GE543.out | refine below_set ?_ GE557.out) | exact HB.out)⟩
                                · replace c33 := Bool.eq_false_iff.mpr c33
                                  subst c33
                                  have H1 : (some false) = some r := by rw [if_neg (show ¬ (false = true) by decide)] at H; exact H
                                  clear H
                                  have H := H1
                                  clear H1
                                  obtain rfl := Option.some.inj H
                                  have p545 : 0 ≤ ((ji21) : Int) := of_decide_eq_true (by first | (with_reducible assumption) | assumption)
                                  have q545 : (ji21) < (l0.length : Int) := of_decide_eq_true (by first | (with_reducible assumption) | assumption)
                                  obtain ⟨ad545, A545_0, c545_0, e545, hx545_0, hl545_0, hi545_0⟩ := at_L2 HR0.out (ji21) p545 q545
                                  cases e545
                                  replace hx545_0 := (HB.out.cell (World.block_lt_of_cell? w _ hx545_0)).trans hx545_0
                                  have HR545_0 := Aside0.mk hi545_0
                                  have HC545_0 := Aside0.mk hl545_0
                                  clear hi545_0 hl545_0
                                  replace p545 := eq_true p545
                                  replace q545 := eq_true q545
                                  try go_wp2
                                  have n0_ := Aside0.mk (Kd.R_drew HO_544000.out)
                                  have n1_ := Aside0.mk (Kd.R_drew HO_544001.out)
                                  have n2_ := Aside0.mk (Kd.R_drew HO_544002.out)
                                  have n3_ := Aside0.mk (blk_drew BK543.out)
                                  have n4_ := Aside0.mk (below_drew1 HB.out)
                                  clear HO_544000
                                  clear HO_544001
                                  clear HO_544002
                                  clear BK543
                                  clear HB
                                  have HO_544000 := n0_
                                  have HO_544001 := n1_
                                  have HO_544002 := n2_
                                  have BK543 := n3_
                                  have HB := n4_
                                  clear n0_ n1_ n2_ n3_ n4_
                                  obtain ⟨i066, hi066, _, hsz66, _⟩ := info_parts info3
                                  obtain ⟨A66, hcut66, hA66, hC66⟩ := print_mid_of (P := Try.prog) (Value.int .i64) 0 26 3 .i64 .i64 Try.underlying26 hi066 hsz66 A545_0 c545_0 (rd_L2 l0 (ji21)) (ji26) (wrap64 ((ji26) + (Int.tmod (wrap64 (a3)) (wrap64 ((wrap64 (((rd_L2 l0 (ji21)).length : Int) + 1)) - (ji26)))))) (of_decide_eq_true (by first | (with_reducible assumption) | assumption)) (by first | omega | exact of_decide_eq_true (by first | (with_reducible assumption) | assumption)) (of_decide_eq_true (by first | (with_reducible assumption) | assumption)) HC545_0.out
                                  have HR546 := Aside0.mk (Kd.C_of_reads (h1 := fun _ => rfl) (hA66 _ (Kd.reads_of_C HR545_0.out)))
                                  have HC546 := Aside0.mk hC66
                                  clear hA66 hC66 hi066 hsz66
                                  refine start_ (n := 12) (S := fun w' => w'.cell? ⟨gb543, 0, none⟩ = some (.slice Ao14 t534.length co14) ∧ w'.cell? ⟨gb543, 1, none⟩ = some (.slice Ao16 t537.length co16) ∧ w'.cell? ⟨gb543, 2, none⟩ = some (.slice Ao17 t540.length co17)) (ds := []) #[false, false, false, false, false, false, false, false, false, false, false, false] (by kernel_rfl) rfl rfl ⟨(blk_cell BK543.out 0).trans rfl, (blk_cell BK543.out 1).trans rfl, (blk_cell BK543.out 2).trans rfl⟩ (fun hHeld => ?_); refine with_tabW unicodetextlaw14_SeqpoolSaves.tab12 unicodetextlaw14_SeqpoolSaves.bits12 (fun HT_ HW_ => ?_)
                                  generalize wr.drew = w65 at HO_544000 HO_544001 HO_544002 BK543 HB HR546 hHeld ⊢
                                  refine pure_ (i := 1) (N := some 67) (v := ?_) (a' := ?_) #[false, true, false, false, false, false, false, false, false, false, false, false] rfl rfl (any_of HT_.out (by kernel_rfl)) (fun _ _ _ h => h) (Or.inl ⟨by rfl, ?_⟩) ?_ ?_
                                  rotate_left
                                  · intro w'
                                    go_simp
                                    with_reducible rfl
                                  rotate_left
                                  · simp only [Act.put, List.setIfInBounds_toArray, List.set_cons_zero, List.set_cons_succ, i64_w, i32_w]
                                    rfl
                                  refine pure_ (i := 2) (N := some 68) (v := ?_) (a' := ?_) #[false, true, true, false, false, false, false, false, false, false, false, false] rfl rfl (any_of HT_.out (by kernel_rfl)) (fun _ _ _ h => h) (Or.inl ⟨by rfl, ?_⟩) ?_ ?_
                                  rotate_left
                                  · intro w'
                                    go_simp
                                    with_reducible rfl
                                  rotate_left
                                  · simp only [Act.put, List.setIfInBounds_toArray, List.set_cons_zero, List.set_cons_succ, i64_w, i32_w]
                                    rfl
                                  refine pure_ (i := 3) (N := some 69) (v := ?_) (a' := ?_) #[false, true, true, true, false, false, false, false, false, false, false, false] rfl rfl (any_of HT_.out (by kernel_rfl)) (fun _ _ _ h => h) (Or.inl ⟨by rfl, ?_⟩) ?_ ?_
                                  rotate_left
                                  · intro w'
                                    go_simp
                                    with_reducible rfl
                                  rotate_left
                                  · simp only [Act.put, List.setIfInBounds_toArray, List.set_cons_zero, List.set_cons_succ, i64_w, i32_w]
                                    rfl
                                  refine pure_ (i := 4) (N := some 70) (v := ?_) (a' := ?_) #[false, true, true, true, true, false, false, false, false, false, false, false] rfl rfl (any_of HT_.out (by kernel_rfl)) (fun _ _ _ h => h) (Or.inl ⟨by rfl, ?_⟩) ?_ ?_
                                  rotate_left
                                  · intro w'
                                    go_simp
                                    with_reducible rfl
                                  rotate_left
                                  · simp only [Act.put, List.setIfInBounds_toArray, List.set_cons_zero, List.set_cons_succ, i64_w, i32_w]
                                    rfl
                                  refine take_ (i := 0) (N := some 66) (v := ?_) (a' := ?_) #[true, true, true, true, true, false, false, false, false, false, false, false] rfl rfl (take_ofW HT_.out HW_.out (by kernel_rfl)) (fun _ _ _ h => h) (Or.inl ⟨by rfl, ?_⟩) hHeld ?_ ?_
                                  rotate_left
                                  · rintro w' ⟨s0, s1, s2⟩
                                    go_simp
                                    with_reducible rfl
                                  rotate_left
                                  · simp only [Act.put, List.setIfInBounds_toArray, List.set_cons_zero, List.set_cons_succ, i64_w, i32_w]
                                    rfl
                                  refine join_ (σ := Value × Value × Value × Nat) 2 #[true, true, true, true, true, true, true, true, true, true, false, false] (fun s_ => [(71, .tuple #[.agg #[s_.1, s_.2.1, s_.2.2.1], .int .i64 t556]), (15, .pointer (some ⟨s_.2.2.2, 0, none⟩)), (65, .tuple #[.agg #[s_.1, s_.2.1, s_.2.2.1], .int .i64 t556]), (72, .agg #[s_.1, s_.2.1, s_.2.2.1]), (73, .int .i64 t556)]) (fun s_ w' => (w'.cell? ⟨gb543, 0, none⟩ = some (.slice Ao14 t534.length co14) ∧ w'.cell? ⟨gb543, 1, none⟩ = some (.slice Ao16 t537.length co16) ∧ w'.cell? ⟨gb543, 2, none⟩ = some (.slice Ao17 t540.length co17)) ∧ (Kd.R (Kd.int .i64) 3 w' w.heap.size (fun k_ => some k_ ≠ (s_.2.1 : Value).ownBlock ∧ some k_ ≠ (s_.2.2.1 : Value).ownBlock ∧ some k_ ≠ (.slice Ao14 t534.length co14 : Value).ownBlock ∧ some k_ ≠ (.slice Ao16 t537.length co16 : Value).ownBlock ∧ some k_ ≠ (.slice Ao17 t540.length co17 : Value).ownBlock) s_.1 t547) ∧ (Kd.R (Kd.int .i64) 3 w' w.heap.size (fun k_ => some k_ ≠ (s_.1 : Value).ownBlock ∧ some k_ ≠ (s_.2.2.1 : Value).ownBlock ∧ some k_ ≠ (.slice Ao14 t534.length co14 : Value).ownBlock ∧ some k_ ≠ (.slice Ao16 t537.length co16 : Value).ownBlock ∧ some k_ ≠ (.slice Ao17 t540.length co17 : Value).ownBlock) s_.2.1 t550) ∧ (Kd.R (Kd.int .i64) 3 w' w.heap.size (fun k_ => some k_ ≠ (s_.1 : Value).ownBlock ∧ some k_ ≠ (s_.2.1 : Value).ownBlock ∧ some k_ ≠ (.slice Ao14 t534.length co14 : Value).ownBlock ∧ some k_ ≠ (.slice Ao16 t537.length co16 : Value).ownBlock ∧ some k_ ≠ (.slice Ao17 t540.length co17 : Value).ownBlock) s_.2.2.1 t553) ∧ (Kd.R (Kd.int .i64) 3 w' w.heap.size (fun k_ => some k_ ≠ (s_.1 : Value).ownBlock ∧ some k_ ≠ (s_.2.1 : Value).ownBlock ∧ some k_ ≠ (s_.2.2.1 : Value).ownBlock ∧ some k_ ≠ (.slice Ao16 t537.length co16 : Value).ownBlock ∧ some k_ ≠ (.slice Ao17 t540.length co17 : Value).ownBlock) (.slice Ao14 t534.length co14) t534) ∧ (Kd.R (Kd.int .i64) 3 w' w.heap.size (fun k_ => some k_ ≠ (s_.1 : Value).ownBlock ∧ some k_ ≠ (s_.2.1 : Value).ownBlock ∧ some k_ ≠ (s_.2.2.1 : Value).ownBlock ∧ some k_ ≠ (.slice Ao14 t534.length co14 : Value).ownBlock ∧ some k_ ≠ (.slice Ao17 t540.length co17 : Value).ownBlock) (.slice Ao16 t537.length co16) t537) ∧ (Kd.R (Kd.int .i64) 3 w' w.heap.size (fun k_ => some k_ ≠ (s_.1 : Value).ownBlock ∧ some k_ ≠ (s_.2.1 : Value).ownBlock ∧ some k_ ≠ (s_.2.2.1 : Value).ownBlock ∧ some k_ ≠ (.slice Ao14 t534.length co14 : Value).ownBlock ∧ some k_ ≠ (.slice Ao16 t537.length co16 : Value).ownBlock) (.slice Ao17 t540.length co17) t540) ∧ (w'.heap[gb543]? = some (.cells #[.slice Ao14 t534.length co14, .slice Ao16 t537.length co16, .slice Ao17 t540.length co17] 39 (0, 0))) ∧ (w'.heap[s_.2.2.2]? = some (.cells #[.slice none 0 0, .slice none 0 0, .slice none 0 0] 39 (0, 0))) ∧ (w.heap.size ≤ s_.2.2.2) ∧ (w.heap.size ≤ s_.2.2.2) ∧ (gb543 ≠ s_.2.2.2) ∧ (s_.2.2.2 ≠ gb543) ∧ (Below w.heap.size w w')) ?_ ?_
                                  rotate_left
                                  · intro hCont
                                    refine two_ (i := 5) (j := 9) (Ni := some 71) (Nj := some 15) #[true, true, true, true, true, true, false, false, false, false, false, false] #[true, true, true, true, true, false, false, false, false, true, false, false] rfl rfl rfl rfl (two_of HT_.out (by kernel_rfl)) (by decide) (by decide) (fun K hK => ?_) (fun K hK => ?_)
                                    · skip
                                      refine goes_ Try.func41 (by kernel_rfl) rfl #[.agg #[.slice Ao14 t534.length co14, .slice Ao16 t537.length co16, .slice Ao17 t540.length co17], .slice A66 (((rd_L2 l0 (ji21)).take ((wrap64 ((ji26) + (Int.tmod (wrap64 (a3)) (wrap64 ((wrap64 (((rd_L2 l0 (ji21)).length : Int) + 1)) - (ji26)))))) : Int).toNat).drop ((ji26) : Int).toNat).length (c545_0 - (ji26).toNat)] (by rfl) rfl rfl (by (try simp only [List.map_toArray, List.map_cons, List.map_nil]); first | done | (rw [show (((rd_L2 l0 (ji21)).take ((wrap64 ((ji26) + (Int.tmod (wrap64 (a3)) (wrap64 ((wrap64 (((rd_L2 l0 (ji21)).length : Int) + 1)) - (ji26)))))) : Int).toNat).drop ((ji26) : Int).toNat).length = ((wrap64 ((ji26) + (Int.tmod (wrap64 (a3)) (wrap64 ((wrap64 (((rd_L2 l0 (ji21)).length : Int) + 1)) - (ji26)))))).toNat - (ji26).toNat) from (by rw [List.length_drop, List.length_take]; have h_ : ((wrap64 ((ji26) + (Int.tmod (wrap64 (a3)) (wrap64 ((wrap64 (((rd_L2 l0 (ji21)).length : Int) + 1)) - (ji26)))))) : Int) ≤ ((rd_L2 l0 (ji21)).length : Int) := of_decide_eq_true (by first | (with_reducible assumption) | assumption); omega)] <;> rfl) | (simp only [hji21, hji26]; rfl) | rfl | (simp only [List.length_drop, List.length_take]; rfl)) ?_
                                      with_reducible refine (seqpool_Add.calls _ _ t534 _ _ t537 _ _ t540 _ _ (((rd_L2 l0 (ji21)).take ((wrap64 ((ji26) + (Int.tmod (wrap64 (a3)) (wrap64 ((wrap64 (((rd_L2 l0 (ji21)).length : Int) + 1)) - (ji26)))))) : Int).toNat).drop ((ji26) : Int).toNat) t547 t550 t553 t556 _ ?side1 ?side2 ?side3 ?side4 ?side5 ?side6 ?side7 ?side8 A30.out).mono ?_
                                      (case side1 => repeat (first | exact (Kd.R_reads' HO_544000.out).2.2 | (with_reducible refine Kd.C_alloc ?_ _) | (with_reducible refine Kd.C_drewN ?_ _) | (with_reducible refine Kd.C_drew ?_)))
                                      (case side2 => exact (Kd.R_reads' HO_544000.out).2.1)
                                      (case side3 => repeat (first | exact (Kd.R_reads' HO_544001.out).2.2 | (with_reducible refine Kd.C_alloc ?_ _) | (with_reducible refine Kd.C_drewN ?_ _) | (with_reducible refine Kd.C_drew ?_)))
                                      (case side4 => exact (Kd.R_reads' HO_544001.out).2.1)
                                      (case side5 => repeat (first | exact (Kd.R_reads' HO_544002.out).2.2 | (with_reducible refine Kd.C_alloc ?_ _) | (with_reducible refine Kd.C_drewN ?_ _) | (with_reducible refine Kd.C_drew ?_)))
                                      (case side6 => exact (Kd.R_reads' HO_544002.out).2.1)
                                      (case side7 => repeat (first | exact (Kd.C_below HR546.out HB.out) | (with_reducible refine Kd.C_alloc ?_ _) | (with_reducible refine Kd.C_drewN ?_ _) | (with_reducible refine Kd.C_drew ?_)))
                                      (case side8 => exact HC546.out)
                                      rintro e w67 ⟨v548, v551, v554, rfl, ho0, ho1, ho2, hb⟩
                                      refine ⟨_, rfl, ?_⟩
                                      have n0_ := Aside0.mk (Kd.R_mono (Kd.R_told (Kd.R_told (Kd.R_told (Kd.R_old (by (with_reducible repeat (first | apply Kd.R_alloc | apply Kd.R_drewN | apply Kd.R_drew)); exact HO_544000.out) hb) (Kd.R_base ho0)) (Kd.R_base ho1)) (Kd.R_base ho2)) (fun _ h_ => h_.1))
                                      have n1_ := Aside0.mk (Kd.R_mono (Kd.R_told (Kd.R_told (Kd.R_told (Kd.R_old (by (with_reducible repeat (first | apply Kd.R_alloc | apply Kd.R_drewN | apply Kd.R_drew)); exact HO_544001.out) hb) (Kd.R_base ho0)) (Kd.R_base ho1)) (Kd.R_base ho2)) (fun _ h_ => h_.1))
                                      have n2_ := Aside0.mk (Kd.R_mono (Kd.R_told (Kd.R_told (Kd.R_told (Kd.R_old (by (with_reducible repeat (first | apply Kd.R_alloc | apply Kd.R_drewN | apply Kd.R_drew)); exact HO_544002.out) hb) (Kd.R_base ho0)) (Kd.R_base ho1)) (Kd.R_base ho2)) (fun _ h_ => h_.1))
                                      have n3_ := Aside0.mk (Kd.R_lower (Kd.R_new' (Kd.R_new' (Kd.R_new' ho0 (Kd.R_lt (by (with_reducible repeat (first | apply Kd.R_alloc | apply Kd.R_drewN | apply Kd.R_drew)); exact HO_544000.out))) (Kd.R_lt (by (with_reducible repeat (first | apply Kd.R_alloc | apply Kd.R_drewN | apply Kd.R_drew)); exact HO_544001.out))) (Kd.R_lt (by (with_reducible repeat (first | apply Kd.R_alloc | apply Kd.R_drewN | apply Kd.R_drew)); exact HO_544002.out))) (below_size (by repeat (first | (with_reducible first | exact HB.out | apply below_alloc | apply pw_below_drewN | apply below_drew1 | refine below_set ?_ GE543.out) | exact HB.out))))
                                      have n4_ := Aside0.mk (Kd.R_lower (Kd.R_new' (Kd.R_new' (Kd.R_new' ho1 (Kd.R_lt (by (with_reducible repeat (first | apply Kd.R_alloc | apply Kd.R_drewN | apply Kd.R_drew)); exact HO_544000.out))) (Kd.R_lt (by (with_reducible repeat (first | apply Kd.R_alloc | apply Kd.R_drewN | apply Kd.R_drew)); exact HO_544001.out))) (Kd.R_lt (by (with_reducible repeat (first | apply Kd.R_alloc | apply Kd.R_drewN | apply Kd.R_drew)); exact HO_544002.out))) (below_size (by repeat (first | (with_reducible first | exact HB.out | apply below_alloc | apply pw_below_drewN | apply below_drew1 | refine below_set ?_ GE543.out) | exact HB.out))))
                                      have n5_ := Aside0.mk (Kd.R_lower (Kd.R_new' (Kd.R_new' (Kd.R_new' ho2 (Kd.R_lt (by (with_reducible repeat (first | apply Kd.R_alloc | apply Kd.R_drewN | apply Kd.R_drew)); exact HO_544000.out))) (Kd.R_lt (by (with_reducible repeat (first | apply Kd.R_alloc | apply Kd.R_drewN | apply Kd.R_drew)); exact HO_544001.out))) (Kd.R_lt (by (with_reducible repeat (first | apply Kd.R_alloc | apply Kd.R_drewN | apply Kd.R_drew)); exact HO_544002.out))) (below_size (by repeat (first | (with_reducible first | exact HB.out | apply below_alloc | apply pw_below_drewN | apply below_drew1 | refine below_set ?_ GE543.out) | exact HB.out))))
                                      have n6_ := Aside0.mk (blk_below (g := gb543) (o := .cells #[.slice Ao14 t534.length co14, .slice Ao16 t537.length co16, .slice Ao17 t540.length co17] 39 (0, 0)) (by (with_reducible repeat (first | refine blk_drewN ?_ _ | refine blk_drew ?_ | refine blk_alloc ?_ _)); exact BK543.out) hb)
                                      have n7_ := Aside0.mk (below_step (by repeat (first | (with_reducible first | exact HB.out | apply below_alloc | apply pw_below_drewN | apply below_drew1 | refine below_set ?_ GE543.out) | exact HB.out)) hb)
                                      clear HO_544000
                                      clear HO_544001
                                      clear HO_544002
                                      clear BK543
                                      clear HB
                                      have HO_544000 := n0_
                                      have HO_544001 := n1_
                                      have HO_544002 := n2_
                                      have HO549 := n3_
                                      have HO552 := n4_
                                      have HO555 := n5_
                                      have BK543 := n6_
                                      have HB := n7_
                                      clear n0_ n1_ n2_ n3_ n4_ n5_ n6_ n7_
                                      (try clear hb)
                                      (try clear hb2)
                                      (try clear hk)
                                      (try clear hi)
                                      (try clear ho0)
                                      (try clear ho1)
                                      (try clear ho2)
                                      refine hK.out _ _ ⟨(blk_cell BK543.out 0).trans rfl, (blk_cell BK543.out 1).trans rfl, (blk_cell BK543.out 2).trans rfl⟩ (fun hHeld => ?_)
                                      clear hK K
                                      refine norm_ (a' := ?_) ?_ ?_
                                      rotate_left
                                      · show Act.put _ (some 71) _ = _
                                        simp only [Act.put, List.setIfInBounds_toArray, List.set_cons_zero, List.set_cons_succ, i64_w, i32_w]
                                        rfl
                                      refine pure_ (i := 6) (N := some 65) (v := ?_) (a' := ?_) #[true, true, true, true, true, true, true, false, false, false, false, false] rfl rfl (any_of HT_.out (by kernel_rfl)) (fun _ _ _ h => h) (Or.inl ⟨by rfl, ?_⟩) ?_ ?_
                                      rotate_left
                                      · intro w'
                                        go_simp
                                        with_reducible rfl
                                      rotate_left
                                      · simp only [Act.put, List.setIfInBounds_toArray, List.set_cons_zero, List.set_cons_succ, i64_w, i32_w]
                                        rfl
                                      refine pure_ (i := 7) (N := some 72) (v := ?_) (a' := ?_) #[true, true, true, true, true, true, true, true, false, false, false, false] rfl rfl (any_of HT_.out (by kernel_rfl)) (fun _ _ _ h => h) (Or.inl ⟨by rfl, ?_⟩) ?_ ?_
                                      rotate_left
                                      · intro w'
                                        go_simp
                                        with_reducible rfl
                                      rotate_left
                                      · simp only [Act.put, List.setIfInBounds_toArray, List.set_cons_zero, List.set_cons_succ, i64_w, i32_w]
                                        rfl
                                      refine pure_ (i := 8) (N := some 73) (v := ?_) (a' := ?_) #[true, true, true, true, true, true, true, true, true, false, false, false] rfl rfl (any_of HT_.out (by kernel_rfl)) (fun _ _ _ h => h) (Or.inl ⟨by rfl, ?_⟩) ?_ ?_
                                      rotate_left
                                      · intro w'
                                        go_simp
                                        with_reducible rfl
                                      rotate_left
                                      · simp only [Act.put, List.setIfInBounds_toArray, List.set_cons_zero, List.set_cons_succ, i64_w, i32_w]
                                        rfl
                                      refine one_ (i := 9) (N := some 15) #[true, true, true, true, true, true, true, true, true, true, false, false] rfl rfl (one_of HT_.out (by kernel_rfl)) (by decide) (fun K hK => ?_)
                                      refine box_step ?hg (N := 15) ?hd (cs := #[.slice none 0 0, .slice none 0 0, .slice none 0 0]) (t := 39) ?hr ?_; (case hd => rfl); (case hg => rfl); (case hr => first | (go_simp; done) | (go_simp; rfl))
                                      intro gb557 hg w68 hbox hb
                                      have n0_ := Aside0.mk (Kd.R_below (by (with_reducible repeat (first | apply Kd.R_alloc | apply Kd.R_drewN | apply Kd.R_drew)); exact HO_544000.out) hb)
                                      have n1_ := Aside0.mk (Kd.R_below (by (with_reducible repeat (first | apply Kd.R_alloc | apply Kd.R_drewN | apply Kd.R_drew)); exact HO_544001.out) hb)
                                      have n2_ := Aside0.mk (Kd.R_below (by (with_reducible repeat (first | apply Kd.R_alloc | apply Kd.R_drewN | apply Kd.R_drew)); exact HO_544002.out) hb)
                                      have n3_ := Aside0.mk (Kd.R_below (by (with_reducible repeat (first | apply Kd.R_alloc | apply Kd.R_drewN | apply Kd.R_drew)); exact HO549.out) hb)
                                      have n4_ := Aside0.mk (Kd.R_below (by (with_reducible repeat (first | apply Kd.R_alloc | apply Kd.R_drewN | apply Kd.R_drew)); exact HO552.out) hb)
                                      have n5_ := Aside0.mk (Kd.R_below (by (with_reducible repeat (first | apply Kd.R_alloc | apply Kd.R_drewN | apply Kd.R_drew)); exact HO555.out) hb)
                                      have n6_ := Aside0.mk (blk_below (g := gb543) (o := .cells #[.slice Ao14 t534.length co14, .slice Ao16 t537.length co16, .slice Ao17 t540.length co17] 39 (0, 0)) (by (with_reducible repeat (first | refine blk_drewN ?_ _ | refine blk_drew ?_ | refine blk_alloc ?_ _)); exact BK543.out) hb)
                                      have n7_ := Aside0.mk (below_step (by repeat (first | (with_reducible first | exact HB.out | apply below_alloc | apply pw_below_drewN | apply below_drew1 | refine below_set ?_ GE543.out) | exact HB.out)) hb)
                                      have n8_ := Aside0.mk (hbox)
                                      have n9_ := Aside0.mk ((by rw [hg]; exact (below_size (by repeat (first | (with_reducible first | exact HB.out | apply below_alloc | apply pw_below_drewN | apply below_drew1 | refine below_set ?_ GE543.out) | exact HB.out))) : w.heap.size ≤ gb557))
                                      have n10_ := Aside0.mk ((by rw [hg]; exact (below_size (by repeat (first | (with_reducible first | exact HB.out | apply below_alloc | apply pw_below_drewN | apply below_drew1 | refine below_set ?_ GE543.out) | exact HB.out))) : w.heap.size ≤ gb557))
                                      have n11_ := Aside0.mk ((by rw [hg]; exact Nat.ne_of_lt (blk_lt (g := gb543) (o := .cells #[.slice Ao14 t534.length co14, .slice Ao16 t537.length co16, .slice Ao17 t540.length co17] 39 (0, 0)) (by (with_reducible repeat (first | refine blk_drewN ?_ _ | refine blk_drew ?_ | refine blk_alloc ?_ _)); exact BK543.out)) : gb543 ≠ gb557))
                                      have n12_ := Aside0.mk ((by rw [hg]; exact Nat.ne_of_gt (blk_lt (g := gb543) (o := .cells #[.slice Ao14 t534.length co14, .slice Ao16 t537.length co16, .slice Ao17 t540.length co17] 39 (0, 0)) (by (with_reducible repeat (first | refine blk_drewN ?_ _ | refine blk_drew ?_ | refine blk_alloc ?_ _)); exact BK543.out)) : gb557 ≠ gb543))
                                      clear HO_544000
                                      clear HO_544001
                                      clear HO_544002
                                      clear HO549
                                      clear HO552
                                      clear HO555
                                      clear BK543
                                      clear HB
                                      have HO_544000 := n0_
                                      have HO_544001 := n1_
                                      have HO_544002 := n2_
                                      have HO549 := n3_
                                      have HO552 := n4_
                                      have HO555 := n5_
                                      have BK543 := n6_
                                      have HB := n7_
                                      have BK557 := n8_
                                      have GW557 := n9_
                                      have GE557 := n10_
                                      have NB543_557 := n11_
                                      have NB557_543 := n12_
                                      clear n0_ n1_ n2_ n3_ n4_ n5_ n6_ n7_ n8_ n9_ n10_ n11_ n12_
                                      clear hb hbox hg
                                      refine hK.out _ _ ⟨(blk_cell BK543.out 0).trans rfl, (blk_cell BK543.out 1).trans rfl, (blk_cell BK543.out 2).trans rfl⟩ (fun hHeld => ?_)
                                      clear hK K
                                      refine norm_ (a' := ?_) ?_ ?_
                                      rotate_left
                                      · show Act.put _ (some 15) _ = _
                                        simp only [Act.put, List.setIfInBounds_toArray, List.set_cons_zero, List.set_cons_succ, i64_w, i32_w]
                                        rfl
                                      exact norm_ (by simp only [putAll, Act.put, List.setIfInBounds_toArray, List.set_cons_zero, List.set_cons_succ]) (hCont (v548, v551, v554, gb557) _ ⟨hHeld, (by (with_reducible repeat (first | apply Kd.R_alloc | apply Kd.R_drewN | apply Kd.R_drew)); exact Kd.R_mono HO549.out (fun _ hk => ⟨hk.1.1.1.1, ⟨hk.1.1.1.2, ⟨hk.1.1.2, ⟨hk.1.2, hk.2⟩⟩⟩⟩)), (by (with_reducible repeat (first | apply Kd.R_alloc | apply Kd.R_drewN | apply Kd.R_drew)); exact Kd.R_mono HO552.out (fun _ hk => ⟨hk.1.1.1.1, ⟨hk.1.1.1.2, ⟨hk.1.1.2, ⟨hk.1.2, hk.2⟩⟩⟩⟩)), (by (with_reducible repeat (first | apply Kd.R_alloc | apply Kd.R_drewN | apply Kd.R_drew)); exact Kd.R_mono HO555.out (fun _ hk => ⟨hk.1.1.1.1, ⟨hk.1.1.1.2, ⟨hk.1.1.2, ⟨hk.1.2, hk.2⟩⟩⟩⟩)), (by (with_reducible repeat (first | apply Kd.R_alloc | apply Kd.R_drewN | apply Kd.R_drew)); exact Kd.R_mono HO_544000.out (fun _ hk => ⟨hk.1.1.2, ⟨hk.1.2, ⟨hk.2, ⟨hk.1.1.1.1, hk.1.1.1.2⟩⟩⟩⟩)), (by (with_reducible repeat (first | apply Kd.R_alloc | apply Kd.R_drewN | apply Kd.R_drew)); exact Kd.R_mono HO_544001.out (fun _ hk => ⟨hk.1.1.2, ⟨hk.1.2, ⟨hk.2, ⟨hk.1.1.1.1, hk.1.1.1.2⟩⟩⟩⟩)), (by (with_reducible repeat (first | apply Kd.R_alloc | apply Kd.R_drewN | apply Kd.R_drew)); exact Kd.R_mono HO_544002.out (fun _ hk => ⟨hk.1.1.2, ⟨hk.1.2, ⟨hk.2, ⟨hk.1.1.1.1, hk.1.1.1.2⟩⟩⟩⟩)), (by (with_reducible repeat (first | refine blk_drewN ?_ _ | refine blk_drew ?_ | refine blk_alloc ?_ _)); exact BK543.out), (by (with_reducible repeat (first | refine blk_drewN ?_ _ | refine blk_drew ?_ | refine blk_alloc ?_ _)); exact BK557.out), GW557.out, GE557.out, NB543_557.out, NB557_543.out, (by repeat (first | (with_reducible first | exact HB.out | apply below_alloc | apply pw_below_drewN | apply below_drew1 | refine below_set ?_ GE543.out | refine below_set ?_ GE557.out) | exact HB.out))⟩)
                                    · skip
                                      refine box_step ?hg (N := 15) ?hd (cs := #[.slice none 0 0, .slice none 0 0, .slice none 0 0]) (t := 39) ?hr ?_; (case hd => rfl); (case hg => rfl); (case hr => first | (go_simp; done) | (go_simp; rfl))
                                      intro gb557 hg w67 hbox hb
                                      have n0_ := Aside0.mk (Kd.R_below (by (with_reducible repeat (first | apply Kd.R_alloc | apply Kd.R_drewN | apply Kd.R_drew)); exact HO_544000.out) hb)
                                      have n1_ := Aside0.mk (Kd.R_below (by (with_reducible repeat (first | apply Kd.R_alloc | apply Kd.R_drewN | apply Kd.R_drew)); exact HO_544001.out) hb)
                                      have n2_ := Aside0.mk (Kd.R_below (by (with_reducible repeat (first | apply Kd.R_alloc | apply Kd.R_drewN | apply Kd.R_drew)); exact HO_544002.out) hb)
                                      have n3_ := Aside0.mk (blk_below (g := gb543) (o := .cells #[.slice Ao14 t534.length co14, .slice Ao16 t537.length co16, .slice Ao17 t540.length co17] 39 (0, 0)) (by (with_reducible repeat (first | refine blk_drewN ?_ _ | refine blk_drew ?_ | refine blk_alloc ?_ _)); exact BK543.out) hb)
                                      have n4_ := Aside0.mk (below_step (by repeat (first | (with_reducible first | exact HB.out | apply below_alloc | apply pw_below_drewN | apply below_drew1 | refine below_set ?_ GE543.out) | exact HB.out)) hb)
                                      have n5_ := Aside0.mk (hbox)
                                      have n6_ := Aside0.mk ((by rw [hg]; exact (below_size (by repeat (first | (with_reducible first | exact HB.out | apply below_alloc | apply pw_below_drewN | apply below_drew1 | refine below_set ?_ GE543.out) | exact HB.out))) : w.heap.size ≤ gb557))
                                      have n7_ := Aside0.mk ((by rw [hg]; exact (below_size (by repeat (first | (with_reducible first | exact HB.out | apply below_alloc | apply pw_below_drewN | apply below_drew1 | refine below_set ?_ GE543.out) | exact HB.out))) : w.heap.size ≤ gb557))
                                      have n8_ := Aside0.mk ((by rw [hg]; exact Nat.ne_of_lt (blk_lt (g := gb543) (o := .cells #[.slice Ao14 t534.length co14, .slice Ao16 t537.length co16, .slice Ao17 t540.length co17] 39 (0, 0)) (by (with_reducible repeat (first | refine blk_drewN ?_ _ | refine blk_drew ?_ | refine blk_alloc ?_ _)); exact BK543.out)) : gb543 ≠ gb557))
                                      have n9_ := Aside0.mk ((by rw [hg]; exact Nat.ne_of_gt (blk_lt (g := gb543) (o := .cells #[.slice Ao14 t534.length co14, .slice Ao16 t537.length co16, .slice Ao17 t540.length co17] 39 (0, 0)) (by (with_reducible repeat (first | refine blk_drewN ?_ _ | refine blk_drew ?_ | refine blk_alloc ?_ _)); exact BK543.out)) : gb557 ≠ gb543))
                                      clear HO_544000
                                      clear HO_544001
                                      clear HO_544002
                                      clear BK543
                                      clear HB
                                      have HO_544000 := n0_
                                      have HO_544001 := n1_
                                      have HO_544002 := n2_
                                      have BK543 := n3_
                                      have HB := n4_
                                      have BK557 := n5_
                                      have GW557 := n6_
                                      have GE557 := n7_
                                      have NB543_557 := n8_
                                      have NB557_543 := n9_
                                      clear n0_ n1_ n2_ n3_ n4_ n5_ n6_ n7_ n8_ n9_
                                      clear hb hbox hg
                                      refine hK.out _ _ ⟨(blk_cell BK543.out 0).trans rfl, (blk_cell BK543.out 1).trans rfl, (blk_cell BK543.out 2).trans rfl⟩ (fun hHeld => ?_)
                                      clear hK K
                                      refine norm_ (a' := ?_) ?_ ?_
                                      rotate_left
                                      · show Act.put _ (some 15) _ = _
                                        simp only [Act.put, List.setIfInBounds_toArray, List.set_cons_zero, List.set_cons_succ, i64_w, i32_w]
                                        rfl
                                      refine one_ (i := 5) (N := some 71) #[true, true, true, true, true, true, false, false, false, true, false, false] rfl rfl (one_of HT_.out (by kernel_rfl)) (by decide) (fun K hK => ?_)
                                      refine goes_ Try.func41 (by kernel_rfl) rfl #[.agg #[.slice Ao14 t534.length co14, .slice Ao16 t537.length co16, .slice Ao17 t540.length co17], .slice A66 (((rd_L2 l0 (ji21)).take ((wrap64 ((ji26) + (Int.tmod (wrap64 (a3)) (wrap64 ((wrap64 (((rd_L2 l0 (ji21)).length : Int) + 1)) - (ji26)))))) : Int).toNat).drop ((ji26) : Int).toNat).length (c545_0 - (ji26).toNat)] (by rfl) rfl rfl (by (try simp only [List.map_toArray, List.map_cons, List.map_nil]); first | done | (rw [show (((rd_L2 l0 (ji21)).take ((wrap64 ((ji26) + (Int.tmod (wrap64 (a3)) (wrap64 ((wrap64 (((rd_L2 l0 (ji21)).length : Int) + 1)) - (ji26)))))) : Int).toNat).drop ((ji26) : Int).toNat).length = ((wrap64 ((ji26) + (Int.tmod (wrap64 (a3)) (wrap64 ((wrap64 (((rd_L2 l0 (ji21)).length : Int) + 1)) - (ji26)))))).toNat - (ji26).toNat) from (by rw [List.length_drop, List.length_take]; have h_ : ((wrap64 ((ji26) + (Int.tmod (wrap64 (a3)) (wrap64 ((wrap64 (((rd_L2 l0 (ji21)).length : Int) + 1)) - (ji26)))))) : Int) ≤ ((rd_L2 l0 (ji21)).length : Int) := of_decide_eq_true (by first | (with_reducible assumption) | assumption); omega)] <;> rfl) | (simp only [hji21, hji26]; rfl) | rfl | (simp only [List.length_drop, List.length_take]; rfl)) ?_
                                      with_reducible refine (seqpool_Add.calls _ _ t534 _ _ t537 _ _ t540 _ _ (((rd_L2 l0 (ji21)).take ((wrap64 ((ji26) + (Int.tmod (wrap64 (a3)) (wrap64 ((wrap64 (((rd_L2 l0 (ji21)).length : Int) + 1)) - (ji26)))))) : Int).toNat).drop ((ji26) : Int).toNat) t547 t550 t553 t556 _ ?side1 ?side2 ?side3 ?side4 ?side5 ?side6 ?side7 ?side8 A30.out).mono ?_
                                      (case side1 => repeat (first | exact (Kd.R_reads' HO_544000.out).2.2 | (with_reducible refine Kd.C_alloc ?_ _) | (with_reducible refine Kd.C_drewN ?_ _) | (with_reducible refine Kd.C_drew ?_)))
                                      (case side2 => exact (Kd.R_reads' HO_544000.out).2.1)
                                      (case side3 => repeat (first | exact (Kd.R_reads' HO_544001.out).2.2 | (with_reducible refine Kd.C_alloc ?_ _) | (with_reducible refine Kd.C_drewN ?_ _) | (with_reducible refine Kd.C_drew ?_)))
                                      (case side4 => exact (Kd.R_reads' HO_544001.out).2.1)
                                      (case side5 => repeat (first | exact (Kd.R_reads' HO_544002.out).2.2 | (with_reducible refine Kd.C_alloc ?_ _) | (with_reducible refine Kd.C_drewN ?_ _) | (with_reducible refine Kd.C_drew ?_)))
                                      (case side6 => exact (Kd.R_reads' HO_544002.out).2.1)
                                      (case side7 => repeat (first | exact (Kd.C_below HR546.out HB.out) | (with_reducible refine Kd.C_alloc ?_ _) | (with_reducible refine Kd.C_drewN ?_ _) | (with_reducible refine Kd.C_drew ?_)))
                                      (case side8 => exact HC546.out)
                                      rintro e w68 ⟨v548, v551, v554, rfl, ho0, ho1, ho2, hb⟩
                                      refine ⟨_, rfl, ?_⟩
                                      have n0_ := Aside0.mk (Kd.R_mono (Kd.R_told (Kd.R_told (Kd.R_told (Kd.R_old (by (with_reducible repeat (first | apply Kd.R_alloc | apply Kd.R_drewN | apply Kd.R_drew)); exact HO_544000.out) hb) (Kd.R_base ho0)) (Kd.R_base ho1)) (Kd.R_base ho2)) (fun _ h_ => h_.1))
                                      have n1_ := Aside0.mk (Kd.R_mono (Kd.R_told (Kd.R_told (Kd.R_told (Kd.R_old (by (with_reducible repeat (first | apply Kd.R_alloc | apply Kd.R_drewN | apply Kd.R_drew)); exact HO_544001.out) hb) (Kd.R_base ho0)) (Kd.R_base ho1)) (Kd.R_base ho2)) (fun _ h_ => h_.1))
                                      have n2_ := Aside0.mk (Kd.R_mono (Kd.R_told (Kd.R_told (Kd.R_told (Kd.R_old (by (with_reducible repeat (first | apply Kd.R_alloc | apply Kd.R_drewN | apply Kd.R_drew)); exact HO_544002.out) hb) (Kd.R_base ho0)) (Kd.R_base ho1)) (Kd.R_base ho2)) (fun _ h_ => h_.1))
                                      have n3_ := Aside0.mk (Kd.R_lower (Kd.R_new' (Kd.R_new' (Kd.R_new' ho0 (Kd.R_lt (by (with_reducible repeat (first | apply Kd.R_alloc | apply Kd.R_drewN | apply Kd.R_drew)); exact HO_544000.out))) (Kd.R_lt (by (with_reducible repeat (first | apply Kd.R_alloc | apply Kd.R_drewN | apply Kd.R_drew)); exact HO_544001.out))) (Kd.R_lt (by (with_reducible repeat (first | apply Kd.R_alloc | apply Kd.R_drewN | apply Kd.R_drew)); exact HO_544002.out))) (below_size (by repeat (first | (with_reducible first | exact HB.out | apply below_alloc | apply pw_below_drewN | apply below_drew1 | refine below_set ?_ GE543.out | refine below_set ?_ GE557.out) | exact HB.out))))
                                      have n4_ := Aside0.mk (Kd.R_lower (Kd.R_new' (Kd.R_new' (Kd.R_new' ho1 (Kd.R_lt (by (with_reducible repeat (first | apply Kd.R_alloc | apply Kd.R_drewN | apply Kd.R_drew)); exact HO_544000.out))) (Kd.R_lt (by (with_reducible repeat (first | apply Kd.R_alloc | apply Kd.R_drewN | apply Kd.R_drew)); exact HO_544001.out))) (Kd.R_lt (by (with_reducible repeat (first | apply Kd.R_alloc | apply Kd.R_drewN | apply Kd.R_drew)); exact HO_544002.out))) (below_size (by repeat (first | (with_reducible first | exact HB.out | apply below_alloc | apply pw_below_drewN | apply below_drew1 | refine below_set ?_ GE543.out | refine below_set ?_ GE557.out) | exact HB.out))))
                                      have n5_ := Aside0.mk (Kd.R_lower (Kd.R_new' (Kd.R_new' (Kd.R_new' ho2 (Kd.R_lt (by (with_reducible repeat (first | apply Kd.R_alloc | apply Kd.R_drewN | apply Kd.R_drew)); exact HO_544000.out))) (Kd.R_lt (by (with_reducible repeat (first | apply Kd.R_alloc | apply Kd.R_drewN | apply Kd.R_drew)); exact HO_544001.out))) (Kd.R_lt (by (with_reducible repeat (first | apply Kd.R_alloc | apply Kd.R_drewN | apply Kd.R_drew)); exact HO_544002.out))) (below_size (by repeat (first | (with_reducible first | exact HB.out | apply below_alloc | apply pw_below_drewN | apply below_drew1 | refine below_set ?_ GE543.out | refine below_set ?_ GE557.out) | exact HB.out))))
                                      have n6_ := Aside0.mk (blk_below (g := gb543) (o := .cells #[.slice Ao14 t534.length co14, .slice Ao16 t537.length co16, .slice Ao17 t540.length co17] 39 (0, 0)) (by (with_reducible repeat (first | refine blk_drewN ?_ _ | refine blk_drew ?_ | refine blk_alloc ?_ _)); exact BK543.out) hb)
                                      have n7_ := Aside0.mk (blk_below (g := gb557) (o := .cells #[.slice none 0 0, .slice none 0 0, .slice none 0 0] 39 (0, 0)) (by (with_reducible repeat (first | refine blk_drewN ?_ _ | refine blk_drew ?_ | refine blk_alloc ?_ _)); exact BK557.out) hb)
                                      have n8_ := Aside0.mk (below_step (by repeat (first | (with_reducible first | exact HB.out | apply below_alloc | apply pw_below_drewN | apply below_drew1 | refine below_set ?_ GE543.out | refine below_set ?_ GE557.out) | exact HB.out)) hb)
                                      clear HO_544000
                                      clear HO_544001
                                      clear HO_544002
                                      clear BK543
                                      clear BK557
                                      clear HB
                                      have HO_544000 := n0_
                                      have HO_544001 := n1_
                                      have HO_544002 := n2_
                                      have HO549 := n3_
                                      have HO552 := n4_
                                      have HO555 := n5_
                                      have BK543 := n6_
                                      have BK557 := n7_
                                      have HB := n8_
                                      clear n0_ n1_ n2_ n3_ n4_ n5_ n6_ n7_ n8_
                                      (try clear hb)
                                      (try clear hb2)
                                      (try clear hk)
                                      (try clear hi)
                                      (try clear ho0)
                                      (try clear ho1)
                                      (try clear ho2)
                                      refine hK.out _ _ ⟨(blk_cell BK543.out 0).trans rfl, (blk_cell BK543.out 1).trans rfl, (blk_cell BK543.out 2).trans rfl⟩ (fun hHeld => ?_)
                                      clear hK K
                                      refine norm_ (a' := ?_) ?_ ?_
                                      rotate_left
                                      · show Act.put _ (some 71) _ = _
                                        simp only [Act.put, List.setIfInBounds_toArray, List.set_cons_zero, List.set_cons_succ, i64_w, i32_w]
                                        rfl
                                      refine pure_ (i := 6) (N := some 65) (v := ?_) (a' := ?_) #[true, true, true, true, true, true, true, false, false, true, false, false] rfl rfl (any_of HT_.out (by kernel_rfl)) (fun _ _ _ h => h) (Or.inl ⟨by rfl, ?_⟩) ?_ ?_
                                      rotate_left
                                      · intro w'
                                        go_simp
                                        with_reducible rfl
                                      rotate_left
                                      · simp only [Act.put, List.setIfInBounds_toArray, List.set_cons_zero, List.set_cons_succ, i64_w, i32_w]
                                        rfl
                                      refine pure_ (i := 7) (N := some 72) (v := ?_) (a' := ?_) #[true, true, true, true, true, true, true, true, false, true, false, false] rfl rfl (any_of HT_.out (by kernel_rfl)) (fun _ _ _ h => h) (Or.inl ⟨by rfl, ?_⟩) ?_ ?_
                                      rotate_left
                                      · intro w'
                                        go_simp
                                        with_reducible rfl
                                      rotate_left
                                      · simp only [Act.put, List.setIfInBounds_toArray, List.set_cons_zero, List.set_cons_succ, i64_w, i32_w]
                                        rfl
                                      refine pure_ (i := 8) (N := some 73) (v := ?_) (a' := ?_) #[true, true, true, true, true, true, true, true, true, true, false, false] rfl rfl (any_of HT_.out (by kernel_rfl)) (fun _ _ _ h => h) (Or.inl ⟨by rfl, ?_⟩) ?_ ?_
                                      rotate_left
                                      · intro w'
                                        go_simp
                                        with_reducible rfl
                                      rotate_left
                                      · simp only [Act.put, List.setIfInBounds_toArray, List.set_cons_zero, List.set_cons_succ, i64_w, i32_w]
                                        rfl
                                      exact norm_ (by simp only [putAll, Act.put, List.setIfInBounds_toArray, List.set_cons_zero, List.set_cons_succ]) (hCont (v548, v551, v554, gb557) _ ⟨hHeld, (by (with_reducible repeat (first | apply Kd.R_alloc | apply Kd.R_drewN | apply Kd.R_drew)); exact Kd.R_mono HO549.out (fun _ hk => ⟨hk.1.1.1.1, ⟨hk.1.1.1.2, ⟨hk.1.1.2, ⟨hk.1.2, hk.2⟩⟩⟩⟩)), (by (with_reducible repeat (first | apply Kd.R_alloc | apply Kd.R_drewN | apply Kd.R_drew)); exact Kd.R_mono HO552.out (fun _ hk => ⟨hk.1.1.1.1, ⟨hk.1.1.1.2, ⟨hk.1.1.2, ⟨hk.1.2, hk.2⟩⟩⟩⟩)), (by (with_reducible repeat (first | apply Kd.R_alloc | apply Kd.R_drewN | apply Kd.R_drew)); exact Kd.R_mono HO555.out (fun _ hk => ⟨hk.1.1.1.1, ⟨hk.1.1.1.2, ⟨hk.1.1.2, ⟨hk.1.2, hk.2⟩⟩⟩⟩)), (by (with_reducible repeat (first | apply Kd.R_alloc | apply Kd.R_drewN | apply Kd.R_drew)); exact Kd.R_mono HO_544000.out (fun _ hk => ⟨hk.1.1.2, ⟨hk.1.2, ⟨hk.2, ⟨hk.1.1.1.1, hk.1.1.1.2⟩⟩⟩⟩)), (by (with_reducible repeat (first | apply Kd.R_alloc | apply Kd.R_drewN | apply Kd.R_drew)); exact Kd.R_mono HO_544001.out (fun _ hk => ⟨hk.1.1.2, ⟨hk.1.2, ⟨hk.2, ⟨hk.1.1.1.1, hk.1.1.1.2⟩⟩⟩⟩)), (by (with_reducible repeat (first | apply Kd.R_alloc | apply Kd.R_drewN | apply Kd.R_drew)); exact Kd.R_mono HO_544002.out (fun _ hk => ⟨hk.1.1.2, ⟨hk.1.2, ⟨hk.2, ⟨hk.1.1.1.1, hk.1.1.1.2⟩⟩⟩⟩)), (by (with_reducible repeat (first | refine blk_drewN ?_ _ | refine blk_drew ?_ | refine blk_alloc ?_ _)); exact BK543.out), (by (with_reducible repeat (first | refine blk_drewN ?_ _ | refine blk_drew ?_ | refine blk_alloc ?_ _)); exact BK557.out), GW557.out, GE557.out, NB543_557.out, NB557_543.out, (by repeat (first | (with_reducible first | exact HB.out | apply below_alloc | apply pw_below_drewN | apply below_drew1 | refine below_set ?_ GE543.out | refine below_set ?_ GE557.out) | exact HB.out))⟩)
                                  rintro ⟨v548, v551, v554, gb557⟩ w69 ⟨hS_, h0_, h1_, h2_, h3_, h4_, h5_, h6_, h7_, h8_, h9_, h10_, h11_, h12_⟩
                                  have n0_ : Aside0 (Kd.R (Kd.int .i64) 3 w69 w.heap.size (fun k_ => some k_ ≠ (v551 : Value).ownBlock ∧ some k_ ≠ (v554 : Value).ownBlock ∧ some k_ ≠ (.slice Ao14 t534.length co14 : Value).ownBlock ∧ some k_ ≠ (.slice Ao16 t537.length co16 : Value).ownBlock ∧ some k_ ≠ (.slice Ao17 t540.length co17 : Value).ownBlock) v548 t547) := ⟨h0_⟩
                                  have n1_ : Aside0 (Kd.R (Kd.int .i64) 3 w69 w.heap.size (fun k_ => some k_ ≠ (v548 : Value).ownBlock ∧ some k_ ≠ (v554 : Value).ownBlock ∧ some k_ ≠ (.slice Ao14 t534.length co14 : Value).ownBlock ∧ some k_ ≠ (.slice Ao16 t537.length co16 : Value).ownBlock ∧ some k_ ≠ (.slice Ao17 t540.length co17 : Value).ownBlock) v551 t550) := ⟨h1_⟩
                                  have n2_ : Aside0 (Kd.R (Kd.int .i64) 3 w69 w.heap.size (fun k_ => some k_ ≠ (v548 : Value).ownBlock ∧ some k_ ≠ (v551 : Value).ownBlock ∧ some k_ ≠ (.slice Ao14 t534.length co14 : Value).ownBlock ∧ some k_ ≠ (.slice Ao16 t537.length co16 : Value).ownBlock ∧ some k_ ≠ (.slice Ao17 t540.length co17 : Value).ownBlock) v554 t553) := ⟨h2_⟩
                                  have n3_ : Aside0 (Kd.R (Kd.int .i64) 3 w69 w.heap.size (fun k_ => some k_ ≠ (v548 : Value).ownBlock ∧ some k_ ≠ (v551 : Value).ownBlock ∧ some k_ ≠ (v554 : Value).ownBlock ∧ some k_ ≠ (.slice Ao16 t537.length co16 : Value).ownBlock ∧ some k_ ≠ (.slice Ao17 t540.length co17 : Value).ownBlock) (.slice Ao14 t534.length co14) t534) := ⟨h3_⟩
                                  have n4_ : Aside0 (Kd.R (Kd.int .i64) 3 w69 w.heap.size (fun k_ => some k_ ≠ (v548 : Value).ownBlock ∧ some k_ ≠ (v551 : Value).ownBlock ∧ some k_ ≠ (v554 : Value).ownBlock ∧ some k_ ≠ (.slice Ao14 t534.length co14 : Value).ownBlock ∧ some k_ ≠ (.slice Ao17 t540.length co17 : Value).ownBlock) (.slice Ao16 t537.length co16) t537) := ⟨h4_⟩
                                  have n5_ : Aside0 (Kd.R (Kd.int .i64) 3 w69 w.heap.size (fun k_ => some k_ ≠ (v548 : Value).ownBlock ∧ some k_ ≠ (v551 : Value).ownBlock ∧ some k_ ≠ (v554 : Value).ownBlock ∧ some k_ ≠ (.slice Ao14 t534.length co14 : Value).ownBlock ∧ some k_ ≠ (.slice Ao16 t537.length co16 : Value).ownBlock) (.slice Ao17 t540.length co17) t540) := ⟨h5_⟩
                                  have n6_ : Aside0 (w69.heap[gb543]? = some (.cells #[.slice Ao14 t534.length co14, .slice Ao16 t537.length co16, .slice Ao17 t540.length co17] 39 (0, 0))) := ⟨h6_⟩
                                  have n7_ : Aside0 (w69.heap[gb557]? = some (.cells #[.slice none 0 0, .slice none 0 0, .slice none 0 0] 39 (0, 0))) := ⟨h7_⟩
                                  have n8_ : Aside0 (w.heap.size ≤ gb557) := ⟨h8_⟩
                                  have n9_ : Aside0 (w.heap.size ≤ gb557) := ⟨h9_⟩
                                  have n10_ : Aside0 (gb543 ≠ gb557) := ⟨h10_⟩
                                  have n11_ : Aside0 (gb557 ≠ gb543) := ⟨h11_⟩
                                  have n12_ : Aside0 (Below w.heap.size w w69) := ⟨h12_⟩
                                  clear HO_544000
                                  clear HO_544001
                                  clear HO_544002
                                  clear BK543
                                  clear HB
                                  clear h0_ h1_ h2_ h3_ h4_ h5_ h6_ h7_ h8_ h9_ h10_ h11_ h12_
                                  have HO549 := n0_
                                  have HO552 := n1_
                                  have HO555 := n2_
                                  have HO_544000 := n3_
                                  have HO_544001 := n4_
                                  have HO_544002 := n5_
                                  have BK543 := n6_
                                  have BK557 := n7_
                                  have GW557 := n8_
                                  have GE557 := n9_
                                  have NB543_557 := n10_
                                  have NB557_543 := n11_
                                  have HB := n12_
                                  clear n0_ n1_ n2_ n3_ n4_ n5_ n6_ n7_ n8_ n9_ n10_ n11_ n12_
                                  have hHeld : w69.cell? ⟨gb543, 0, none⟩ = some (.slice Ao14 t534.length co14) ∧ w69.cell? ⟨gb543, 1, none⟩ = some (.slice Ao16 t537.length co16) ∧ w69.cell? ⟨gb543, 2, none⟩ = some (.slice Ao17 t540.length co17) := hS_
                                  obtain ⟨Ao70, co70, eo70⟩ := Kd.R_slice HO549.out
                                  (first | subst eo70 | (injection eo70 with f1_ f2_ f3_; have f4_ := f1_.symm; have f5_ := f3_.symm; clear f1_ f2_ f3_; subst f4_; subst f5_))
                                  obtain ⟨Ao72, co72, eo72⟩ := Kd.R_slice HO552.out
                                  (first | subst eo72 | (injection eo72 with f1_ f2_ f3_; have f4_ := f1_.symm; have f5_ := f3_.symm; clear f1_ f2_ f3_; subst f4_; subst f5_))
                                  obtain ⟨Ao74, co74, eo74⟩ := Kd.R_slice HO555.out
                                  (first | subst eo74 | (injection eo74 with f1_ f2_ f3_; have f4_ := f1_.symm; have f5_ := f3_.symm; clear f1_ f2_ f3_; subst f4_; subst f5_))
                                  refine norm_ (a' := ?_) ?_ ?_
                                  rotate_left
                                  · simp only [putAll, Act.put, List.setIfInBounds_toArray, List.set_cons_zero, List.set_cons_succ]
                                    rfl
                                  refine one_ (i := 10) (N := none) #[true, true, true, true, true, true, true, true, true, true, true, false] rfl rfl (one_of HT_.out (by kernel_rfl)) (by decide) (fun K hK => ?_)
                                  have hs71 : w69.cell? ⟨gb557, 0, none⟩ = some (.slice none 0 0) := (blk_cell BK557.out 0).trans rfl
                                  have hfs71 := blk_frozen BK557.out 0
                                  have hns71_0 := NB543_557.out
                                  have hms71_0 := NB557_543.out
                                  have hs73 : w69.cell? ⟨gb557, 1, none⟩ = some (.slice none 0 0) := (blk_cell BK557.out 1).trans rfl
                                  have hfs73 := blk_frozen BK557.out 1
                                  have hns73_0 := NB543_557.out
                                  have hms73_0 := NB557_543.out
                                  have hs75 : w69.cell? ⟨gb557, 2, none⟩ = some (.slice none 0 0) := (blk_cell BK557.out 2).trans rfl
                                  have hfs75 := blk_frozen BK557.out 2
                                  have hns75_0 := NB543_557.out
                                  have hms75_0 := NB557_543.out
                                  refine skip_ (w1 := ?_) (by rfl) rfl ?_ ?_
                                  rotate_left
                                  · go_simp
                                    rfl
                                  refine hK.out _ _ ⟨((cell_far (p := ⟨gb557, _, none⟩) NB543_557.out _).trans (((cell_far (p := ⟨gb557, _, none⟩) NB543_557.out _).trans (((cell_far (p := ⟨gb557, _, none⟩) NB543_557.out _).trans (hHeld.1)))))), ((cell_far (p := ⟨gb557, _, none⟩) NB543_557.out _).trans (((cell_far (p := ⟨gb557, _, none⟩) NB543_557.out _).trans (((cell_far (p := ⟨gb557, _, none⟩) NB543_557.out _).trans (hHeld.2.1)))))), ((cell_far (p := ⟨gb557, _, none⟩) NB543_557.out _).trans (((cell_far (p := ⟨gb557, _, none⟩) NB543_557.out _).trans (((cell_far (p := ⟨gb557, _, none⟩) NB543_557.out _).trans (hHeld.2.2))))))⟩ (fun hHeld => ?_)
                                  clear hK K
                                  refine pure_ (i := 11) (N := some 16) (v := ?_) (a' := ?_) #[true, true, true, true, true, true, true, true, true, true, true, true] rfl rfl (any_of HT_.out (by kernel_rfl)) (fun _ _ _ h => h) (Or.inl ⟨by rfl, ?_⟩) ?_ ?_
                                  rotate_left
                                  · intro w'
                                    go_simp
                                    with_reducible rfl
                                  rotate_left
                                  · simp only [Act.put, List.setIfInBounds_toArray, List.set_cons_zero, List.set_cons_succ, i64_w, i32_w]
                                    rfl
                                  refine done_ (done_of HT_.out (by kernel_rfl)) ?_
                                  have hnb76 := NB543_557.out
                                  have hnc76 := NB557_543.out
                                  have hcz77_0 : w69.cell? ⟨gb543, 0, none⟩ = some (.slice Ao14 t534.length co14) := (blk_cell BK543.out 0).trans rfl
                                  have hcz77_1 : w69.cell? ⟨gb543, 1, none⟩ = some (.slice Ao16 t537.length co16) := (blk_cell BK543.out 1).trans rfl
                                  have hcz77_2 : w69.cell? ⟨gb543, 2, none⟩ = some (.slice Ao17 t540.length co17) := (blk_cell BK543.out 2).trans rfl
                                  have hfz77_0 := blk_frozen BK543.out 0
                                  have hfz77_1 := blk_frozen BK543.out 1
                                  have hfz77_2 := blk_frozen BK543.out 2
                                  have hcz78_0 : w69.cell? ⟨gb557, 0, none⟩ = some (.slice none 0 0) := (blk_cell BK557.out 0).trans rfl
                                  have hcz78_1 : w69.cell? ⟨gb557, 1, none⟩ = some (.slice none 0 0) := (blk_cell BK557.out 1).trans rfl
                                  have hcz78_2 : w69.cell? ⟨gb557, 2, none⟩ = some (.slice none 0 0) := (blk_cell BK557.out 2).trans rfl
                                  have hfz78_0 := blk_frozen BK557.out 0
                                  have hfz78_1 := blk_frozen BK557.out 1
                                  have hfz78_2 := blk_frozen BK557.out 2
                                  try go_wp2_with (first | (go_at_call 54; (with_reducible refine (unicodetextref01_Equal.calls k2 _ _ t547 _ _ t534 false _ ?side1 ?side2 ?side3 ?side4 A32.out).mono ?_); (case side1 => refine (Kd.R_reads' (e := 3) (base := w.heap.size) (ok := fun k_ => (some k_ ≠ (.slice Ao72 t550.length co72 : Value).ownBlock ∧ (some k_ ≠ (.slice Ao74 t553.length co74 : Value).ownBlock ∧ (some k_ ≠ (.slice Ao14 t534.length co14 : Value).ownBlock ∧ (some k_ ≠ (.slice Ao16 t537.length co16 : Value).ownBlock ∧ some k_ ≠ (.slice Ao17 t540.length co17 : Value).ownBlock))))) (n := t547.length) (c := co70) ?_).2.2; exact (by (with_reducible repeat (first | apply Kd.R_alloc | apply Kd.R_drewN | apply Kd.R_drew)); exact (Kd.R_mono (Kd.R_far (p := ⟨gb557, 2, none⟩) (Kd.R_far (p := ⟨gb557, 1, none⟩) (Kd.R_far (p := ⟨gb557, 0, none⟩) (Kd.R_types HO549.out BK557.out (by decide)) (fun _ hk => hk.2) (.slice Ao70 t547.length co70)) (fun _ hk => hk.2) (.slice Ao72 t550.length co72)) (fun _ hk => hk.2) (.slice Ao74 t553.length co74)) (fun _ h_ => h_.1)))); (case side2 => exact (Kd.R_reads' HO549.out).2.1); (case side3 => refine (Kd.R_reads' (e := 3) (base := w.heap.size) (ok := fun k_ => (some k_ ≠ (.slice Ao70 t547.length co70 : Value).ownBlock ∧ (some k_ ≠ (.slice Ao72 t550.length co72 : Value).ownBlock ∧ (some k_ ≠ (.slice Ao74 t553.length co74 : Value).ownBlock ∧ (some k_ ≠ (.slice Ao16 t537.length co16 : Value).ownBlock ∧ some k_ ≠ (.slice Ao17 t540.length co17 : Value).ownBlock))))) (n := t534.length) (c := co14) ?_).2.2; exact (by (with_reducible repeat (first | apply Kd.R_alloc | apply Kd.R_drewN | apply Kd.R_drew)); exact (Kd.R_mono (Kd.R_far (p := ⟨gb557, 2, none⟩) (Kd.R_far (p := ⟨gb557, 1, none⟩) (Kd.R_far (p := ⟨gb557, 0, none⟩) (Kd.R_types HO_544000.out BK557.out (by decide)) (fun _ hk => hk.2) (.slice Ao70 t547.length co70)) (fun _ hk => hk.2) (.slice Ao72 t550.length co72)) (fun _ hk => hk.2) (.slice Ao74 t553.length co74)) (fun _ h_ => h_.1)))); (case side4 => exact (Kd.R_reads' HO_544000.out).2.1); rintro e w' ⟨rfl, ⟨nd, rfl⟩⟩))
                                  go_ret
                                  exact ⟨by first | rfl | (simp [errW_none, errW_some] <;> rfl) | (simp only [← hji21, ← hji26]; first | rfl | (simp [errW_none, errW_some] <;> rfl)) | (simp [*, errW_none, errW_some] <;> rfl), by repeat (first | (with_reducible first | exact HB.out | apply below_alloc | apply pw_below_drewN | apply below_drew1 | refine below_set ?_ GE543.out | refine below_set ?_ GE557.out) | exact HB.out)⟩
                              · rw [if_neg c31] at H
                                have c31b0 : decide ((t534.length : Int) ≤ x10_2) = false := decide_eq_false c31
                                clear c31
                                obtain rfl := Option.some.inj H
                                have p545 : 0 ≤ ((ji21) : Int) := of_decide_eq_true (by first | (with_reducible assumption) | assumption)
                                have q545 : (ji21) < (l0.length : Int) := of_decide_eq_true (by first | (with_reducible assumption) | assumption)
                                obtain ⟨ad545, A545_0, c545_0, e545, hx545_0, hl545_0, hi545_0⟩ := at_L2 HR0.out (ji21) p545 q545
                                cases e545
                                replace hx545_0 := (HB.out.cell (World.block_lt_of_cell? w _ hx545_0)).trans hx545_0
                                have HR545_0 := Aside0.mk hi545_0
                                have HC545_0 := Aside0.mk hl545_0
                                clear hi545_0 hl545_0
                                replace p545 := eq_true p545
                                replace q545 := eq_true q545
                                try go_wp2
                                have n0_ := Aside0.mk (Kd.R_drew HO_544000.out)
                                have n1_ := Aside0.mk (Kd.R_drew HO_544001.out)
                                have n2_ := Aside0.mk (Kd.R_drew HO_544002.out)
                                have n3_ := Aside0.mk (blk_drew BK543.out)
                                have n4_ := Aside0.mk (below_drew1 HB.out)
                                clear HO_544000
                                clear HO_544001
                                clear HO_544002
                                clear BK543
                                clear HB
                                have HO_544000 := n0_
                                have HO_544001 := n1_
                                have HO_544002 := n2_
                                have BK543 := n3_
                                have HB := n4_
                                clear n0_ n1_ n2_ n3_ n4_
                                obtain ⟨i080, hi080, _, hsz80, _⟩ := info_parts info3
                                obtain ⟨A80, hcut80, hA80, hC80⟩ := print_mid_of (P := Try.prog) (Value.int .i64) 0 26 3 .i64 .i64 Try.underlying26 hi080 hsz80 A545_0 c545_0 (rd_L2 l0 (ji21)) (ji26) (wrap64 ((ji26) + (Int.tmod (wrap64 (a3)) (wrap64 ((wrap64 (((rd_L2 l0 (ji21)).length : Int) + 1)) - (ji26)))))) (of_decide_eq_true (by first | (with_reducible assumption) | assumption)) (by first | omega | exact of_decide_eq_true (by first | (with_reducible assumption) | assumption)) (of_decide_eq_true (by first | (with_reducible assumption) | assumption)) HC545_0.out
                                have HR546 := Aside0.mk (Kd.C_of_reads (h1 := fun _ => rfl) (hA80 _ (Kd.reads_of_C HR545_0.out)))
                                have HC546 := Aside0.mk hC80
                                clear hA80 hC80 hi080 hsz80
                                refine start_ (n := 12) (S := fun w' => w'.cell? ⟨gb543, 0, none⟩ = some (.slice Ao14 t534.length co14) ∧ w'.cell? ⟨gb543, 1, none⟩ = some (.slice Ao16 t537.length co16) ∧ w'.cell? ⟨gb543, 2, none⟩ = some (.slice Ao17 t540.length co17)) (ds := []) #[false, false, false, false, false, false, false, false, false, false, false, false] (by kernel_rfl) rfl rfl ⟨(blk_cell BK543.out 0).trans rfl, (blk_cell BK543.out 1).trans rfl, (blk_cell BK543.out 2).trans rfl⟩ (fun hHeld => ?_); refine with_tabW unicodetextlaw14_SeqpoolSaves.tab12 unicodetextlaw14_SeqpoolSaves.bits12 (fun HT_ HW_ => ?_)
                                generalize wr.drew = w79 at HO_544000 HO_544001 HO_544002 BK543 HB HR546 hHeld ⊢
                                refine pure_ (i := 1) (N := some 67) (v := ?_) (a' := ?_) #[false, true, false, false, false, false, false, false, false, false, false, false] rfl rfl (any_of HT_.out (by kernel_rfl)) (fun _ _ _ h => h) (Or.inl ⟨by rfl, ?_⟩) ?_ ?_
                                rotate_left
                                · intro w'
                                  go_simp
                                  with_reducible rfl
                                rotate_left
                                · simp only [Act.put, List.setIfInBounds_toArray, List.set_cons_zero, List.set_cons_succ, i64_w, i32_w]
                                  rfl
                                refine pure_ (i := 2) (N := some 68) (v := ?_) (a' := ?_) #[false, true, true, false, false, false, false, false, false, false, false, false] rfl rfl (any_of HT_.out (by kernel_rfl)) (fun _ _ _ h => h) (Or.inl ⟨by rfl, ?_⟩) ?_ ?_
                                rotate_left
                                · intro w'
                                  go_simp
                                  with_reducible rfl
                                rotate_left
                                · simp only [Act.put, List.setIfInBounds_toArray, List.set_cons_zero, List.set_cons_succ, i64_w, i32_w]
                                  rfl
                                refine pure_ (i := 3) (N := some 69) (v := ?_) (a' := ?_) #[false, true, true, true, false, false, false, false, false, false, false, false] rfl rfl (any_of HT_.out (by kernel_rfl)) (fun _ _ _ h => h) (Or.inl ⟨by rfl, ?_⟩) ?_ ?_
                                rotate_left
                                · intro w'
                                  go_simp
                                  with_reducible rfl
                                rotate_left
                                · simp only [Act.put, List.setIfInBounds_toArray, List.set_cons_zero, List.set_cons_succ, i64_w, i32_w]
                                  rfl
                                refine pure_ (i := 4) (N := some 70) (v := ?_) (a' := ?_) #[false, true, true, true, true, false, false, false, false, false, false, false] rfl rfl (any_of HT_.out (by kernel_rfl)) (fun _ _ _ h => h) (Or.inl ⟨by rfl, ?_⟩) ?_ ?_
                                rotate_left
                                · intro w'
                                  go_simp
                                  with_reducible rfl
                                rotate_left
                                · simp only [Act.put, List.setIfInBounds_toArray, List.set_cons_zero, List.set_cons_succ, i64_w, i32_w]
                                  rfl
                                refine take_ (i := 0) (N := some 66) (v := ?_) (a' := ?_) #[true, true, true, true, true, false, false, false, false, false, false, false] rfl rfl (take_ofW HT_.out HW_.out (by kernel_rfl)) (fun _ _ _ h => h) (Or.inl ⟨by rfl, ?_⟩) hHeld ?_ ?_
                                rotate_left
                                · rintro w' ⟨s0, s1, s2⟩
                                  go_simp
                                  with_reducible rfl
                                rotate_left
                                · simp only [Act.put, List.setIfInBounds_toArray, List.set_cons_zero, List.set_cons_succ, i64_w, i32_w]
                                  rfl
                                refine join_ (σ := Value × Value × Value × Nat) 2 #[true, true, true, true, true, true, true, true, true, true, false, false] (fun s_ => [(71, .tuple #[.agg #[s_.1, s_.2.1, s_.2.2.1], .int .i64 t556]), (15, .pointer (some ⟨s_.2.2.2, 0, none⟩)), (65, .tuple #[.agg #[s_.1, s_.2.1, s_.2.2.1], .int .i64 t556]), (72, .agg #[s_.1, s_.2.1, s_.2.2.1]), (73, .int .i64 t556)]) (fun s_ w' => (w'.cell? ⟨gb543, 0, none⟩ = some (.slice Ao14 t534.length co14) ∧ w'.cell? ⟨gb543, 1, none⟩ = some (.slice Ao16 t537.length co16) ∧ w'.cell? ⟨gb543, 2, none⟩ = some (.slice Ao17 t540.length co17)) ∧ (Kd.R (Kd.int .i64) 3 w' w.heap.size (fun k_ => some k_ ≠ (s_.2.1 : Value).ownBlock ∧ some k_ ≠ (s_.2.2.1 : Value).ownBlock ∧ some k_ ≠ (.slice Ao14 t534.length co14 : Value).ownBlock ∧ some k_ ≠ (.slice Ao16 t537.length co16 : Value).ownBlock ∧ some k_ ≠ (.slice Ao17 t540.length co17 : Value).ownBlock) s_.1 t547) ∧ (Kd.R (Kd.int .i64) 3 w' w.heap.size (fun k_ => some k_ ≠ (s_.1 : Value).ownBlock ∧ some k_ ≠ (s_.2.2.1 : Value).ownBlock ∧ some k_ ≠ (.slice Ao14 t534.length co14 : Value).ownBlock ∧ some k_ ≠ (.slice Ao16 t537.length co16 : Value).ownBlock ∧ some k_ ≠ (.slice Ao17 t540.length co17 : Value).ownBlock) s_.2.1 t550) ∧ (Kd.R (Kd.int .i64) 3 w' w.heap.size (fun k_ => some k_ ≠ (s_.1 : Value).ownBlock ∧ some k_ ≠ (s_.2.1 : Value).ownBlock ∧ some k_ ≠ (.slice Ao14 t534.length co14 : Value).ownBlock ∧ some k_ ≠ (.slice Ao16 t537.length co16 : Value).ownBlock ∧ some k_ ≠ (.slice Ao17 t540.length co17 : Value).ownBlock) s_.2.2.1 t553) ∧ (Kd.R (Kd.int .i64) 3 w' w.heap.size (fun k_ => some k_ ≠ (s_.1 : Value).ownBlock ∧ some k_ ≠ (s_.2.1 : Value).ownBlock ∧ some k_ ≠ (s_.2.2.1 : Value).ownBlock ∧ some k_ ≠ (.slice Ao16 t537.length co16 : Value).ownBlock ∧ some k_ ≠ (.slice Ao17 t540.length co17 : Value).ownBlock) (.slice Ao14 t534.length co14) t534) ∧ (Kd.R (Kd.int .i64) 3 w' w.heap.size (fun k_ => some k_ ≠ (s_.1 : Value).ownBlock ∧ some k_ ≠ (s_.2.1 : Value).ownBlock ∧ some k_ ≠ (s_.2.2.1 : Value).ownBlock ∧ some k_ ≠ (.slice Ao14 t534.length co14 : Value).ownBlock ∧ some k_ ≠ (.slice Ao17 t540.length co17 : Value).ownBlock) (.slice Ao16 t537.length co16) t537) ∧ (Kd.R (Kd.int .i64) 3 w' w.heap.size (fun k_ => some k_ ≠ (s_.1 : Value).ownBlock ∧ some k_ ≠ (s_.2.1 : Value).ownBlock ∧ some k_ ≠ (s_.2.2.1 : Value).ownBlock ∧ some k_ ≠ (.slice Ao14 t534.length co14 : Value).ownBlock ∧ some k_ ≠ (.slice Ao16 t537.length co16 : Value).ownBlock) (.slice Ao17 t540.length co17) t540) ∧ (w'.heap[gb543]? = some (.cells #[.slice Ao14 t534.length co14, .slice Ao16 t537.length co16, .slice Ao17 t540.length co17] 39 (0, 0))) ∧ (w'.heap[s_.2.2.2]? = some (.cells #[.slice none 0 0, .slice none 0 0, .slice none 0 0] 39 (0, 0))) ∧ (w.heap.size ≤ s_.2.2.2) ∧ (w.heap.size ≤ s_.2.2.2) ∧ (gb543 ≠ s_.2.2.2) ∧ (s_.2.2.2 ≠ gb543) ∧ (Below w.heap.size w w')) ?_ ?_
                                rotate_left
                                · intro hCont
                                  refine two_ (i := 5) (j := 9) (Ni := some 71) (Nj := some 15) #[true, true, true, true, true, true, false, false, false, false, false, false] #[true, true, true, true, true, false, false, false, false, true, false, false] rfl rfl rfl rfl (two_of HT_.out (by kernel_rfl)) (by decide) (by decide) (fun K hK => ?_) (fun K hK => ?_)
                                  · skip
                                    refine goes_ Try.func41 (by kernel_rfl) rfl #[.agg #[.slice Ao14 t534.length co14, .slice Ao16 t537.length co16, .slice Ao17 t540.length co17], .slice A80 (((rd_L2 l0 (ji21)).take ((wrap64 ((ji26) + (Int.tmod (wrap64 (a3)) (wrap64 ((wrap64 (((rd_L2 l0 (ji21)).length : Int) + 1)) - (ji26)))))) : Int).toNat).drop ((ji26) : Int).toNat).length (c545_0 - (ji26).toNat)] (by rfl) rfl rfl (by (try simp only [List.map_toArray, List.map_cons, List.map_nil]); first | done | (rw [show (((rd_L2 l0 (ji21)).take ((wrap64 ((ji26) + (Int.tmod (wrap64 (a3)) (wrap64 ((wrap64 (((rd_L2 l0 (ji21)).length : Int) + 1)) - (ji26)))))) : Int).toNat).drop ((ji26) : Int).toNat).length = ((wrap64 ((ji26) + (Int.tmod (wrap64 (a3)) (wrap64 ((wrap64 (((rd_L2 l0 (ji21)).length : Int) + 1)) - (ji26)))))).toNat - (ji26).toNat) from (by rw [List.length_drop, List.length_take]; have h_ : ((wrap64 ((ji26) + (Int.tmod (wrap64 (a3)) (wrap64 ((wrap64 (((rd_L2 l0 (ji21)).length : Int) + 1)) - (ji26)))))) : Int) ≤ ((rd_L2 l0 (ji21)).length : Int) := of_decide_eq_true (by first | (with_reducible assumption) | assumption); omega)] <;> rfl) | (simp only [hji21, hji26]; rfl) | rfl | (simp only [List.length_drop, List.length_take]; rfl)) ?_
                                    with_reducible refine (seqpool_Add.calls _ _ t534 _ _ t537 _ _ t540 _ _ (((rd_L2 l0 (ji21)).take ((wrap64 ((ji26) + (Int.tmod (wrap64 (a3)) (wrap64 ((wrap64 (((rd_L2 l0 (ji21)).length : Int) + 1)) - (ji26)))))) : Int).toNat).drop ((ji26) : Int).toNat) t547 t550 t553 t556 _ ?side1 ?side2 ?side3 ?side4 ?side5 ?side6 ?side7 ?side8 A30.out).mono ?_
                                    (case side1 => repeat (first | exact (Kd.R_reads' HO_544000.out).2.2 | (with_reducible refine Kd.C_alloc ?_ _) | (with_reducible refine Kd.C_drewN ?_ _) | (with_reducible refine Kd.C_drew ?_)))
                                    (case side2 => exact (Kd.R_reads' HO_544000.out).2.1)
                                    (case side3 => repeat (first | exact (Kd.R_reads' HO_544001.out).2.2 | (with_reducible refine Kd.C_alloc ?_ _) | (with_reducible refine Kd.C_drewN ?_ _) | (with_reducible refine Kd.C_drew ?_)))
                                    (case side4 => exact (Kd.R_reads' HO_544001.out).2.1)
                                    (case side5 => repeat (first | exact (Kd.R_reads' HO_544002.out).2.2 | (with_reducible refine Kd.C_alloc ?_ _) | (with_reducible refine Kd.C_drewN ?_ _) | (with_reducible refine Kd.C_drew ?_)))
                                    (case side6 => exact (Kd.R_reads' HO_544002.out).2.1)
                                    (case side7 => repeat (first | exact (Kd.C_below HR546.out HB.out) | (with_reducible refine Kd.C_alloc ?_ _) | (with_reducible refine Kd.C_drewN ?_ _) | (with_reducible refine Kd.C_drew ?_)))
                                    (case side8 => exact HC546.out)
                                    rintro e w81 ⟨v548, v551, v554, rfl, ho0, ho1, ho2, hb⟩
                                    refine ⟨_, rfl, ?_⟩
                                    have n0_ := Aside0.mk (Kd.R_mono (Kd.R_told (Kd.R_told (Kd.R_told (Kd.R_old (by (with_reducible repeat (first | apply Kd.R_alloc | apply Kd.R_drewN | apply Kd.R_drew)); exact HO_544000.out) hb) (Kd.R_base ho0)) (Kd.R_base ho1)) (Kd.R_base ho2)) (fun _ h_ => h_.1))
                                    have n1_ := Aside0.mk (Kd.R_mono (Kd.R_told (Kd.R_told (Kd.R_told (Kd.R_old (by (with_reducible repeat (first | apply Kd.R_alloc | apply Kd.R_drewN | apply Kd.R_drew)); exact HO_544001.out) hb) (Kd.R_base ho0)) (Kd.R_base ho1)) (Kd.R_base ho2)) (fun _ h_ => h_.1))
                                    have n2_ := Aside0.mk (Kd.R_mono (Kd.R_told (Kd.R_told (Kd.R_told (Kd.R_old (by (with_reducible repeat (first | apply Kd.R_alloc | apply Kd.R_drewN | apply Kd.R_drew)); exact HO_544002.out) hb) (Kd.R_base ho0)) (Kd.R_base ho1)) (Kd.R_base ho2)) (fun _ h_ => h_.1))
                                    have n3_ := Aside0.mk (Kd.R_lower (Kd.R_new' (Kd.R_new' (Kd.R_new' ho0 (Kd.R_lt (by (with_reducible repeat (first | apply Kd.R_alloc | apply Kd.R_drewN | apply Kd.R_drew)); exact HO_544000.out))) (Kd.R_lt (by (with_reducible repeat (first | apply Kd.R_alloc | apply Kd.R_drewN | apply Kd.R_drew)); exact HO_544001.out))) (Kd.R_lt (by (with_reducible repeat (first | apply Kd.R_alloc | apply Kd.R_drewN | apply Kd.R_drew)); exact HO_544002.out))) (below_size (by repeat (first | (with_reducible first | exact HB.out | apply below_alloc | apply pw_below_drewN | apply below_drew1 | refine below_set ?_ GE543.out) | exact HB.out))))
                                    have n4_ := Aside0.mk (Kd.R_lower (Kd.R_new' (Kd.R_new' (Kd.R_new' ho1 (Kd.R_lt (by (with_reducible repeat (first | apply Kd.R_alloc | apply Kd.R_drewN | apply Kd.R_drew)); exact HO_544000.out))) (Kd.R_lt (by (with_reducible repeat (first | apply Kd.R_alloc | apply Kd.R_drewN | apply Kd.R_drew)); exact HO_544001.out))) (Kd.R_lt (by (with_reducible repeat (first | apply Kd.R_alloc | apply Kd.R_drewN | apply Kd.R_drew)); exact HO_544002.out))) (below_size (by repeat (first | (with_reducible first | exact HB.out | apply below_alloc | apply pw_below_drewN | apply below_drew1 | refine below_set ?_ GE543.out) | exact HB.out))))
                                    have n5_ := Aside0.mk (Kd.R_lower (Kd.R_new' (Kd.R_new' (Kd.R_new' ho2 (Kd.R_lt (by (with_reducible repeat (first | apply Kd.R_alloc | apply Kd.R_drewN | apply Kd.R_drew)); exact HO_544000.out))) (Kd.R_lt (by (with_reducible repeat (first | apply Kd.R_alloc | apply Kd.R_drewN | apply Kd.R_drew)); exact HO_544001.out))) (Kd.R_lt (by (with_reducible repeat (first | apply Kd.R_alloc | apply Kd.R_drewN | apply Kd.R_drew)); exact HO_544002.out))) (below_size (by repeat (first | (with_reducible first | exact HB.out | apply below_alloc | apply pw_below_drewN | apply below_drew1 | refine below_set ?_ GE543.out) | exact HB.out))))
                                    have n6_ := Aside0.mk (blk_below (g := gb543) (o := .cells #[.slice Ao14 t534.length co14, .slice Ao16 t537.length co16, .slice Ao17 t540.length co17] 39 (0, 0)) (by (with_reducible repeat (first | refine blk_drewN ?_ _ | refine blk_drew ?_ | refine blk_alloc ?_ _)); exact BK543.out) hb)
                                    have n7_ := Aside0.mk (below_step (by repeat (first | (with_reducible first | exact HB.out | apply below_alloc | apply pw_below_drewN | apply below_drew1 | refine below_set ?_ GE543.out) | exact HB.out)) hb)
                                    clear HO_544000
                                    clear HO_544001
                                    clear HO_544002
                                    clear BK543
                                    clear HB
                                    have HO_544000 := n0_
                                    have HO_544001 := n1_
                                    have HO_544002 := n2_
                                    have HO549 := n3_
                                    have HO552 := n4_
                                    have HO555 := n5_
                                    have BK543 := n6_
                                    have HB := n7_
                                    clear n0_ n1_ n2_ n3_ n4_ n5_ n6_ n7_
                                    (try clear hb)
                                    (try clear hb2)
                                    (try clear hk)
                                    (try clear hi)
                                    (try clear ho0)
                                    (try clear ho1)
                                    (try clear ho2)
                                    refine hK.out _ _ ⟨(blk_cell BK543.out 0).trans rfl, (blk_cell BK543.out 1).trans rfl, (blk_cell BK543.out 2).trans rfl⟩ (fun hHeld => ?_)
                                    clear hK K
                                    refine norm_ (a' := ?_) ?_ ?_
                                    rotate_left
                                    · show Act.put _ (some 71) _ = _
                                      simp only [Act.put, List.setIfInBounds_toArray, List.set_cons_zero, List.set_cons_succ, i64_w, i32_w]
                                      rfl
                                    refine pure_ (i := 6) (N := some 65) (v := ?_) (a' := ?_) #[true, true, true, true, true, true, true, false, false, false, false, false] rfl rfl (any_of HT_.out (by kernel_rfl)) (fun _ _ _ h => h) (Or.inl ⟨by rfl, ?_⟩) ?_ ?_
                                    rotate_left
                                    · intro w'
                                      go_simp
                                      with_reducible rfl
                                    rotate_left
                                    · simp only [Act.put, List.setIfInBounds_toArray, List.set_cons_zero, List.set_cons_succ, i64_w, i32_w]
                                      rfl
                                    refine pure_ (i := 7) (N := some 72) (v := ?_) (a' := ?_) #[true, true, true, true, true, true, true, true, false, false, false, false] rfl rfl (any_of HT_.out (by kernel_rfl)) (fun _ _ _ h => h) (Or.inl ⟨by rfl, ?_⟩) ?_ ?_
                                    rotate_left
                                    · intro w'
                                      go_simp
                                      with_reducible rfl
                                    rotate_left
                                    · simp only [Act.put, List.setIfInBounds_toArray, List.set_cons_zero, List.set_cons_succ, i64_w, i32_w]
                                      rfl
                                    refine pure_ (i := 8) (N := some 73) (v := ?_) (a' := ?_) #[true, true, true, true, true, true, true, true, true, false, false, false] rfl rfl (any_of HT_.out (by kernel_rfl)) (fun _ _ _ h => h) (Or.inl ⟨by rfl, ?_⟩) ?_ ?_
                                    rotate_left
                                    · intro w'
                                      go_simp
                                      with_reducible rfl
                                    rotate_left
                                    · simp only [Act.put, List.setIfInBounds_toArray, List.set_cons_zero, List.set_cons_succ, i64_w, i32_w]
                                      rfl
                                    refine one_ (i := 9) (N := some 15) #[true, true, true, true, true, true, true, true, true, true, false, false] rfl rfl (one_of HT_.out (by kernel_rfl)) (by decide) (fun K hK => ?_)
                                    refine box_step ?hg (N := 15) ?hd (cs := #[.slice none 0 0, .slice none 0 0, .slice none 0 0]) (t := 39) ?hr ?_; (case hd => rfl); (case hg => rfl); (case hr => first | (go_simp; done) | (go_simp; rfl))
                                    intro gb557 hg w82 hbox hb
                                    have n0_ := Aside0.mk (Kd.R_below (by (with_reducible repeat (first | apply Kd.R_alloc | apply Kd.R_drewN | apply Kd.R_drew)); exact HO_544000.out) hb)
                                    have n1_ := Aside0.mk (Kd.R_below (by (with_reducible repeat (first | apply Kd.R_alloc | apply Kd.R_drewN | apply Kd.R_drew)); exact HO_544001.out) hb)
                                    have n2_ := Aside0.mk (Kd.R_below (by (with_reducible repeat (first | apply Kd.R_alloc | apply Kd.R_drewN | apply Kd.R_drew)); exact HO_544002.out) hb)
                                    have n3_ := Aside0.mk (Kd.R_below (by (with_reducible repeat (first | apply Kd.R_alloc | apply Kd.R_drewN | apply Kd.R_drew)); exact HO549.out) hb)
                                    have n4_ := Aside0.mk (Kd.R_below (by (with_reducible repeat (first | apply Kd.R_alloc | apply Kd.R_drewN | apply Kd.R_drew)); exact HO552.out) hb)
                                    have n5_ := Aside0.mk (Kd.R_below (by (with_reducible repeat (first | apply Kd.R_alloc | apply Kd.R_drewN | apply Kd.R_drew)); exact HO555.out) hb)
                                    have n6_ := Aside0.mk (blk_below (g := gb543) (o := .cells #[.slice Ao14 t534.length co14, .slice Ao16 t537.length co16, .slice Ao17 t540.length co17] 39 (0, 0)) (by (with_reducible repeat (first | refine blk_drewN ?_ _ | refine blk_drew ?_ | refine blk_alloc ?_ _)); exact BK543.out) hb)
                                    have n7_ := Aside0.mk (below_step (by repeat (first | (with_reducible first | exact HB.out | apply below_alloc | apply pw_below_drewN | apply below_drew1 | refine below_set ?_ GE543.out) | exact HB.out)) hb)
                                    have n8_ := Aside0.mk (hbox)
                                    have n9_ := Aside0.mk ((by rw [hg]; exact (below_size (by repeat (first | (with_reducible first | exact HB.out | apply below_alloc | apply pw_below_drewN | apply below_drew1 | refine below_set ?_ GE543.out) | exact HB.out))) : w.heap.size ≤ gb557))
                                    have n10_ := Aside0.mk ((by rw [hg]; exact (below_size (by repeat (first | (with_reducible first | exact HB.out | apply below_alloc | apply pw_below_drewN | apply below_drew1 | refine below_set ?_ GE543.out) | exact HB.out))) : w.heap.size ≤ gb557))
                                    have n11_ := Aside0.mk ((by rw [hg]; exact Nat.ne_of_lt (blk_lt (g := gb543) (o := .cells #[.slice Ao14 t534.length co14, .slice Ao16 t537.length co16, .slice Ao17 t540.length co17] 39 (0, 0)) (by (with_reducible repeat (first | refine blk_drewN ?_ _ | refine blk_drew ?_ | refine blk_alloc ?_ _)); exact BK543.out)) : gb543 ≠ gb557))
                                    have n12_ := Aside0.mk ((by rw [hg]; exact Nat.ne_of_gt (blk_lt (g := gb543) (o := .cells #[.slice Ao14 t534.length co14, .slice Ao16 t537.length co16, .slice Ao17 t540.length co17] 39 (0, 0)) (by (with_reducible repeat (first | refine blk_drewN ?_ _ | refine blk_drew ?_ | refine blk_alloc ?_ _)); exact BK543.out)) : gb557 ≠ gb543))
                                    clear HO_544000
                                    clear HO_544001
                                    clear HO_544002
                                    clear HO549
                                    clear HO552
                                    clear HO555
                                    clear BK543
                                    clear HB
                                    have HO_544000 := n0_
                                    have HO_544001 := n1_
                                    have HO_544002 := n2_
                                    have HO549 := n3_
                                    have HO552 := n4_
                                    have HO555 := n5_
                                    have BK543 := n6_
                                    have HB := n7_
                                    have BK557 := n8_
                                    have GW557 := n9_
                                    have GE557 := n10_
                                    have NB543_557 := n11_
                                    have NB557_543 := n12_
                                    clear n0_ n1_ n2_ n3_ n4_ n5_ n6_ n7_ n8_ n9_ n10_ n11_ n12_
                                    clear hb hbox hg
                                    refine hK.out _ _ ⟨(blk_cell BK543.out 0).trans rfl, (blk_cell BK543.out 1).trans rfl, (blk_cell BK543.out 2).trans rfl⟩ (fun hHeld => ?_)
                                    clear hK K
                                    refine norm_ (a' := ?_) ?_ ?_
                                    rotate_left
                                    · show Act.put _ (some 15) _ = _
                                      simp only [Act.put, List.setIfInBounds_toArray, List.set_cons_zero, List.set_cons_succ, i64_w, i32_w]
                                      rfl
                                    exact norm_ (by simp only [putAll, Act.put, List.setIfInBounds_toArray, List.set_cons_zero, List.set_cons_succ]) (hCont (v548, v551, v554, gb557) _ ⟨hHeld, (by (with_reducible repeat (first | apply Kd.R_alloc | apply Kd.R_drewN | apply Kd.R_drew)); exact Kd.R_mono HO549.out (fun _ hk => ⟨hk.1.1.1.1, ⟨hk.1.1.1.2, ⟨hk.1.1.2, ⟨hk.1.2, hk.2⟩⟩⟩⟩)), (by (with_reducible repeat (first | apply Kd.R_alloc | apply Kd.R_drewN | apply Kd.R_drew)); exact Kd.R_mono HO552.out (fun _ hk => ⟨hk.1.1.1.1, ⟨hk.1.1.1.2, ⟨hk.1.1.2, ⟨hk.1.2, hk.2⟩⟩⟩⟩)), (by (with_reducible repeat (first | apply Kd.R_alloc | apply Kd.R_drewN | apply Kd.R_drew)); exact Kd.R_mono HO555.out (fun _ hk => ⟨hk.1.1.1.1, ⟨hk.1.1.1.2, ⟨hk.1.1.2, ⟨hk.1.2, hk.2⟩⟩⟩⟩)), (by (with_reducible repeat (first | apply Kd.R_alloc | apply Kd.R_drewN | apply Kd.R_drew)); exact Kd.R_mono HO_544000.out (fun _ hk => ⟨hk.1.1.2, ⟨hk.1.2, ⟨hk.2, ⟨hk.1.1.1.1, hk.1.1.1.2⟩⟩⟩⟩)), (by (with_reducible repeat (first | apply Kd.R_alloc | apply Kd.R_drewN | apply Kd.R_drew)); exact Kd.R_mono HO_544001.out (fun _ hk => ⟨hk.1.1.2, ⟨hk.1.2, ⟨hk.2, ⟨hk.1.1.1.1, hk.1.1.1.2⟩⟩⟩⟩)), (by (with_reducible repeat (first | apply Kd.R_alloc | apply Kd.R_drewN | apply Kd.R_drew)); exact Kd.R_mono HO_544002.out (fun _ hk => ⟨hk.1.1.2, ⟨hk.1.2, ⟨hk.2, ⟨hk.1.1.1.1, hk.1.1.1.2⟩⟩⟩⟩)), (by (with_reducible repeat (first | refine blk_drewN ?_ _ | refine blk_drew ?_ | refine blk_alloc ?_ _)); exact BK543.out), (by (with_reducible repeat (first | refine blk_drewN ?_ _ | refine blk_drew ?_ | refine blk_alloc ?_ _)); exact BK557.out), GW557.out, GE557.out, NB543_557.out, NB557_543.out, (by repeat (first | (with_reducible first | exact HB.out | apply below_alloc | apply pw_below_drewN | apply below_drew1 | refine below_set ?_ GE543.out | refine below_set ?_ GE557.out) | exact HB.out))⟩)
                                  · skip
                                    refine box_step ?hg (N := 15) ?hd (cs := #[.slice none 0 0, .slice none 0 0, .slice none 0 0]) (t := 39) ?hr ?_; (case hd => rfl); (case hg => rfl); (case hr => first | (go_simp; done) | (go_simp; rfl))
                                    intro gb557 hg w81 hbox hb
                                    have n0_ := Aside0.mk (Kd.R_below (by (with_reducible repeat (first | apply Kd.R_alloc | apply Kd.R_drewN | apply Kd.R_drew)); exact HO_544000.out) hb)
                                    have n1_ := Aside0.mk (Kd.R_below (by (with_reducible repeat (first | apply Kd.R_alloc | apply Kd.R_drewN | apply Kd.R_drew)); exact HO_544001.out) hb)
                                    have n2_ := Aside0.mk (Kd.R_below (by (with_reducible repeat (first | apply Kd.R_alloc | apply Kd.R_drewN | apply Kd.R_drew)); exact HO_544002.out) hb)
                                    have n3_ := Aside0.mk (blk_below (g := gb543) (o := .cells #[.slice Ao14 t534.length co14, .slice Ao16 t537.length co16, .slice Ao17 t540.length co17] 39 (0, 0)) (by (with_reducible repeat (first | refine blk_drewN ?_ _ | refine blk_drew ?_ | refine blk_alloc ?_ _)); exact BK543.out) hb)
                                    have n4_ := Aside0.mk (below_step (by repeat (first | (with_reducible first | exact HB.out | apply below_alloc | apply pw_below_drewN | apply below_drew1 | refine below_set ?_ GE543.out) | exact HB.out)) hb)
                                    have n5_ := Aside0.mk (hbox)
                                    have n6_ := Aside0.mk ((by rw [hg]; exact (below_size (by repeat (first | (with_reducible first | exact HB.out | apply below_alloc | apply pw_below_drewN | apply below_drew1 | refine below_set ?_ GE543.out) | exact HB.out))) : w.heap.size ≤ gb557))
                                    have n7_ := Aside0.mk ((by rw [hg]; exact (below_size (by repeat (first | (with_reducible first | exact HB.out | apply below_alloc | apply pw_below_drewN | apply below_drew1 | refine below_set ?_ GE543.out) | exact HB.out))) : w.heap.size ≤ gb557))
                                    have n8_ := Aside0.mk ((by rw [hg]; exact Nat.ne_of_lt (blk_lt (g := gb543) (o := .cells #[.slice Ao14 t534.length co14, .slice Ao16 t537.length co16, .slice Ao17 t540.length co17] 39 (0, 0)) (by (with_reducible repeat (first | refine blk_drewN ?_ _ | refine blk_drew ?_ | refine blk_alloc ?_ _)); exact BK543.out)) : gb543 ≠ gb557))
                                    have n9_ := Aside0.mk ((by rw [hg]; exact Nat.ne_of_gt (blk_lt (g := gb543) (o := .cells #[.slice Ao14 t534.length co14, .slice Ao16 t537.length co16, .slice Ao17 t540.length co17] 39 (0, 0)) (by (with_reducible repeat (first | refine blk_drewN ?_ _ | refine blk_drew ?_ | refine blk_alloc ?_ _)); exact BK543.out)) : gb557 ≠ gb543))
                                    clear HO_544000
                                    clear HO_544001
                                    clear HO_544002
                                    clear BK543
                                    clear HB
                                    have HO_544000 := n0_
                                    have HO_544001 := n1_
                                    have HO_544002 := n2_
                                    have BK543 := n3_
                                    have HB := n4_
                                    have BK557 := n5_
                                    have GW557 := n6_
                                    have GE557 := n7_
                                    have NB543_557 := n8_
                                    have NB557_543 := n9_
                                    clear n0_ n1_ n2_ n3_ n4_ n5_ n6_ n7_ n8_ n9_
                                    clear hb hbox hg
                                    refine hK.out _ _ ⟨(blk_cell BK543.out 0).trans rfl, (blk_cell BK543.out 1).trans rfl, (blk_cell BK543.out 2).trans rfl⟩ (fun hHeld => ?_)
                                    clear hK K
                                    refine norm_ (a' := ?_) ?_ ?_
                                    rotate_left
                                    · show Act.put _ (some 15) _ = _
                                      simp only [Act.put, List.setIfInBounds_toArray, List.set_cons_zero, List.set_cons_succ, i64_w, i32_w]
                                      rfl
                                    refine one_ (i := 5) (N := some 71) #[true, true, true, true, true, true, false, false, false, true, false, false] rfl rfl (one_of HT_.out (by kernel_rfl)) (by decide) (fun K hK => ?_)
                                    refine goes_ Try.func41 (by kernel_rfl) rfl #[.agg #[.slice Ao14 t534.length co14, .slice Ao16 t537.length co16, .slice Ao17 t540.length co17], .slice A80 (((rd_L2 l0 (ji21)).take ((wrap64 ((ji26) + (Int.tmod (wrap64 (a3)) (wrap64 ((wrap64 (((rd_L2 l0 (ji21)).length : Int) + 1)) - (ji26)))))) : Int).toNat).drop ((ji26) : Int).toNat).length (c545_0 - (ji26).toNat)] (by rfl) rfl rfl (by (try simp only [List.map_toArray, List.map_cons, List.map_nil]); first | done | (rw [show (((rd_L2 l0 (ji21)).take ((wrap64 ((ji26) + (Int.tmod (wrap64 (a3)) (wrap64 ((wrap64 (((rd_L2 l0 (ji21)).length : Int) + 1)) - (ji26)))))) : Int).toNat).drop ((ji26) : Int).toNat).length = ((wrap64 ((ji26) + (Int.tmod (wrap64 (a3)) (wrap64 ((wrap64 (((rd_L2 l0 (ji21)).length : Int) + 1)) - (ji26)))))).toNat - (ji26).toNat) from (by rw [List.length_drop, List.length_take]; have h_ : ((wrap64 ((ji26) + (Int.tmod (wrap64 (a3)) (wrap64 ((wrap64 (((rd_L2 l0 (ji21)).length : Int) + 1)) - (ji26)))))) : Int) ≤ ((rd_L2 l0 (ji21)).length : Int) := of_decide_eq_true (by first | (with_reducible assumption) | assumption); omega)] <;> rfl) | (simp only [hji21, hji26]; rfl) | rfl | (simp only [List.length_drop, List.length_take]; rfl)) ?_
                                    with_reducible refine (seqpool_Add.calls _ _ t534 _ _ t537 _ _ t540 _ _ (((rd_L2 l0 (ji21)).take ((wrap64 ((ji26) + (Int.tmod (wrap64 (a3)) (wrap64 ((wrap64 (((rd_L2 l0 (ji21)).length : Int) + 1)) - (ji26)))))) : Int).toNat).drop ((ji26) : Int).toNat) t547 t550 t553 t556 _ ?side1 ?side2 ?side3 ?side4 ?side5 ?side6 ?side7 ?side8 A30.out).mono ?_
                                    (case side1 => repeat (first | exact (Kd.R_reads' HO_544000.out).2.2 | (with_reducible refine Kd.C_alloc ?_ _) | (with_reducible refine Kd.C_drewN ?_ _) | (with_reducible refine Kd.C_drew ?_)))
                                    (case side2 => exact (Kd.R_reads' HO_544000.out).2.1)
                                    (case side3 => repeat (first | exact (Kd.R_reads' HO_544001.out).2.2 | (with_reducible refine Kd.C_alloc ?_ _) | (with_reducible refine Kd.C_drewN ?_ _) | (with_reducible refine Kd.C_drew ?_)))
                                    (case side4 => exact (Kd.R_reads' HO_544001.out).2.1)
                                    (case side5 => repeat (first | exact (Kd.R_reads' HO_544002.out).2.2 | (with_reducible refine Kd.C_alloc ?_ _) | (with_reducible refine Kd.C_drewN ?_ _) | (with_reducible refine Kd.C_drew ?_)))
                                    (case side6 => exact (Kd.R_reads' HO_544002.out).2.1)
                                    (case side7 => repeat (first | exact (Kd.C_below HR546.out HB.out) | (with_reducible refine Kd.C_alloc ?_ _) | (with_reducible refine Kd.C_drewN ?_ _) | (with_reducible refine Kd.C_drew ?_)))
                                    (case side8 => exact HC546.out)
                                    rintro e w82 ⟨v548, v551, v554, rfl, ho0, ho1, ho2, hb⟩
                                    refine ⟨_, rfl, ?_⟩
                                    have n0_ := Aside0.mk (Kd.R_mono (Kd.R_told (Kd.R_told (Kd.R_told (Kd.R_old (by (with_reducible repeat (first | apply Kd.R_alloc | apply Kd.R_drewN | apply Kd.R_drew)); exact HO_544000.out) hb) (Kd.R_base ho0)) (Kd.R_base ho1)) (Kd.R_base ho2)) (fun _ h_ => h_.1))
                                    have n1_ := Aside0.mk (Kd.R_mono (Kd.R_told (Kd.R_told (Kd.R_told (Kd.R_old (by (with_reducible repeat (first | apply Kd.R_alloc | apply Kd.R_drewN | apply Kd.R_drew)); exact HO_544001.out) hb) (Kd.R_base ho0)) (Kd.R_base ho1)) (Kd.R_base ho2)) (fun _ h_ => h_.1))
                                    have n2_ := Aside0.mk (Kd.R_mono (Kd.R_told (Kd.R_told (Kd.R_told (Kd.R_old (by (with_reducible repeat (first | apply Kd.R_alloc | apply Kd.R_drewN | apply Kd.R_drew)); exact HO_544002.out) hb) (Kd.R_base ho0)) (Kd.R_base ho1)) (Kd.R_base ho2)) (fun _ h_ => h_.1))
                                    have n3_ := Aside0.mk (Kd.R_lower (Kd.R_new' (Kd.R_new' (Kd.R_new' ho0 (Kd.R_lt (by (with_reducible repeat (first | apply Kd.R_alloc | apply Kd.R_drewN | apply Kd.R_drew)); exact HO_544000.out))) (Kd.R_lt (by (with_reducible repeat (first | apply Kd.R_alloc | apply Kd.R_drewN | apply Kd.R_drew)); exact HO_544001.out))) (Kd.R_lt (by (with_reducible repeat (first | apply Kd.R_alloc | apply Kd.R_drewN | apply Kd.R_drew)); exact HO_544002.out))) (below_size (by repeat (first | (with_reducible first | exact HB.out | apply below_alloc | apply pw_below_drewN | apply below_drew1 | refine below_set ?_ GE543.out | refine below_set ?_ GE557.out) | exact HB.out))))
                                    have n4_ := Aside0.mk (Kd.R_lower (Kd.R_new' (Kd.R_new' (Kd.R_new' ho1 (Kd.R_lt (by (with_reducible repeat (first | apply Kd.R_alloc | apply Kd.R_drewN | apply Kd.R_drew)); exact HO_544000.out))) (Kd.R_lt (by (with_reducible repeat (first | apply Kd.R_alloc | apply Kd.R_drewN | apply Kd.R_drew)); exact HO_544001.out))) (Kd.R_lt (by (with_reducible repeat (first | apply Kd.R_alloc | apply Kd.R_drewN | apply Kd.R_drew)); exact HO_544002.out))) (below_size (by repeat (first | (with_reducible first | exact HB.out | apply below_alloc | apply pw_below_drewN | apply below_drew1 | refine below_set ?_ GE543.out | refine below_set ?_ GE557.out) | exact HB.out))))
                                    have n5_ := Aside0.mk (Kd.R_lower (Kd.R_new' (Kd.R_new' (Kd.R_new' ho2 (Kd.R_lt (by (with_reducible repeat (first | apply Kd.R_alloc | apply Kd.R_drewN | apply Kd.R_drew)); exact HO_544000.out))) (Kd.R_lt (by (with_reducible repeat (first | apply Kd.R_alloc | apply Kd.R_drewN | apply Kd.R_drew)); exact HO_544001.out))) (Kd.R_lt (by (with_reducible repeat (first | apply Kd.R_alloc | apply Kd.R_drewN | apply Kd.R_drew)); exact HO_544002.out))) (below_size (by repeat (first | (with_reducible first | exact HB.out | apply below_alloc | apply pw_below_drewN | apply below_drew1 | refine below_set ?_ GE543.out | refine below_set ?_ GE557.out) | exact HB.out))))
                                    have n6_ := Aside0.mk (blk_below (g := gb543) (o := .cells #[.slice Ao14 t534.length co14, .slice Ao16 t537.length co16, .slice Ao17 t540.length co17] 39 (0, 0)) (by (with_reducible repeat (first | refine blk_drewN ?_ _ | refine blk_drew ?_ | refine blk_alloc ?_ _)); exact BK543.out) hb)
                                    have n7_ := Aside0.mk (blk_below (g := gb557) (o := .cells #[.slice none 0 0, .slice none 0 0, .slice none 0 0] 39 (0, 0)) (by (with_reducible repeat (first | refine blk_drewN ?_ _ | refine blk_drew ?_ | refine blk_alloc ?_ _)); exact BK557.out) hb)
                                    have n8_ := Aside0.mk (below_step (by repeat (first | (with_reducible first | exact HB.out | apply below_alloc | apply pw_below_drewN | apply below_drew1 | refine below_set ?_ GE543.out | refine below_set ?_ GE557.out) | exact HB.out)) hb)
                                    clear HO_544000
                                    clear HO_544001
                                    clear HO_544002
                                    clear BK543
                                    clear BK557
                                    clear HB
                                    have HO_544000 := n0_
                                    have HO_544001 := n1_
                                    have HO_544002 := n2_
                                    have HO549 := n3_
                                    have HO552 := n4_
                                    have HO555 := n5_
                                    have BK543 := n6_
                                    have BK557 := n7_
                                    have HB := n8_
                                    clear n0_ n1_ n2_ n3_ n4_ n5_ n6_ n7_ n8_
                                    (try clear hb)
                                    (try clear hb2)
                                    (try clear hk)
                                    (try clear hi)
                                    (try clear ho0)
                                    (try clear ho1)
                                    (try clear ho2)
                                    refine hK.out _ _ ⟨(blk_cell BK543.out 0).trans rfl, (blk_cell BK543.out 1).trans rfl, (blk_cell BK543.out 2).trans rfl⟩ (fun hHeld => ?_)
                                    clear hK K
                                    refine norm_ (a' := ?_) ?_ ?_
                                    rotate_left
                                    · show Act.put _ (some 71) _ = _
                                      simp only [Act.put, List.setIfInBounds_toArray, List.set_cons_zero, List.set_cons_succ, i64_w, i32_w]
                                      rfl
                                    refine pure_ (i := 6) (N := some 65) (v := ?_) (a' := ?_) #[true, true, true, true, true, true, true, false, false, true, false, false] rfl rfl (any_of HT_.out (by kernel_rfl)) (fun _ _ _ h => h) (Or.inl ⟨by rfl, ?_⟩) ?_ ?_
                                    rotate_left
                                    · intro w'
                                      go_simp
                                      with_reducible rfl
                                    rotate_left
                                    · simp only [Act.put, List.setIfInBounds_toArray, List.set_cons_zero, List.set_cons_succ, i64_w, i32_w]
                                      rfl
                                    refine pure_ (i := 7) (N := some 72) (v := ?_) (a' := ?_) #[true, true, true, true, true, true, true, true, false, true, false, false] rfl rfl (any_of HT_.out (by kernel_rfl)) (fun _ _ _ h => h) (Or.inl ⟨by rfl, ?_⟩) ?_ ?_
                                    rotate_left
                                    · intro w'
                                      go_simp
                                      with_reducible rfl
                                    rotate_left
                                    · simp only [Act.put, List.setIfInBounds_toArray, List.set_cons_zero, List.set_cons_succ, i64_w, i32_w]
                                      rfl
                                    refine pure_ (i := 8) (N := some 73) (v := ?_) (a' := ?_) #[true, true, true, true, true, true, true, true, true, true, false, false] rfl rfl (any_of HT_.out (by kernel_rfl)) (fun _ _ _ h => h) (Or.inl ⟨by rfl, ?_⟩) ?_ ?_
                                    rotate_left
                                    · intro w'
                                      go_simp
                                      with_reducible rfl
                                    rotate_left
                                    · simp only [Act.put, List.setIfInBounds_toArray, List.set_cons_zero, List.set_cons_succ, i64_w, i32_w]
                                      rfl
                                    exact norm_ (by simp only [putAll, Act.put, List.setIfInBounds_toArray, List.set_cons_zero, List.set_cons_succ]) (hCont (v548, v551, v554, gb557) _ ⟨hHeld, (by (with_reducible repeat (first | apply Kd.R_alloc | apply Kd.R_drewN | apply Kd.R_drew)); exact Kd.R_mono HO549.out (fun _ hk => ⟨hk.1.1.1.1, ⟨hk.1.1.1.2, ⟨hk.1.1.2, ⟨hk.1.2, hk.2⟩⟩⟩⟩)), (by (with_reducible repeat (first | apply Kd.R_alloc | apply Kd.R_drewN | apply Kd.R_drew)); exact Kd.R_mono HO552.out (fun _ hk => ⟨hk.1.1.1.1, ⟨hk.1.1.1.2, ⟨hk.1.1.2, ⟨hk.1.2, hk.2⟩⟩⟩⟩)), (by (with_reducible repeat (first | apply Kd.R_alloc | apply Kd.R_drewN | apply Kd.R_drew)); exact Kd.R_mono HO555.out (fun _ hk => ⟨hk.1.1.1.1, ⟨hk.1.1.1.2, ⟨hk.1.1.2, ⟨hk.1.2, hk.2⟩⟩⟩⟩)), (by (with_reducible repeat (first | apply Kd.R_alloc | apply Kd.R_drewN | apply Kd.R_drew)); exact Kd.R_mono HO_544000.out (fun _ hk => ⟨hk.1.1.2, ⟨hk.1.2, ⟨hk.2, ⟨hk.1.1.1.1, hk.1.1.1.2⟩⟩⟩⟩)), (by (with_reducible repeat (first | apply Kd.R_alloc | apply Kd.R_drewN | apply Kd.R_drew)); exact Kd.R_mono HO_544001.out (fun _ hk => ⟨hk.1.1.2, ⟨hk.1.2, ⟨hk.2, ⟨hk.1.1.1.1, hk.1.1.1.2⟩⟩⟩⟩)), (by (with_reducible repeat (first | apply Kd.R_alloc | apply Kd.R_drewN | apply Kd.R_drew)); exact Kd.R_mono HO_544002.out (fun _ hk => ⟨hk.1.1.2, ⟨hk.1.2, ⟨hk.2, ⟨hk.1.1.1.1, hk.1.1.1.2⟩⟩⟩⟩)), (by (with_reducible repeat (first | refine blk_drewN ?_ _ | refine blk_drew ?_ | refine blk_alloc ?_ _)); exact BK543.out), (by (with_reducible repeat (first | refine blk_drewN ?_ _ | refine blk_drew ?_ | refine blk_alloc ?_ _)); exact BK557.out), GW557.out, GE557.out, NB543_557.out, NB557_543.out, (by repeat (first | (with_reducible first | exact HB.out | apply below_alloc | apply pw_below_drewN | apply below_drew1 | refine below_set ?_ GE543.out | refine below_set ?_ GE557.out) | exact HB.out))⟩)
                                rintro ⟨v548, v551, v554, gb557⟩ w83 ⟨hS_, h0_, h1_, h2_, h3_, h4_, h5_, h6_, h7_, h8_, h9_, h10_, h11_, h12_⟩
                                have n0_ : Aside0 (Kd.R (Kd.int .i64) 3 w83 w.heap.size (fun k_ => some k_ ≠ (v551 : Value).ownBlock ∧ some k_ ≠ (v554 : Value).ownBlock ∧ some k_ ≠ (.slice Ao14 t534.length co14 : Value).ownBlock ∧ some k_ ≠ (.slice Ao16 t537.length co16 : Value).ownBlock ∧ some k_ ≠ (.slice Ao17 t540.length co17 : Value).ownBlock) v548 t547) := ⟨h0_⟩
                                have n1_ : Aside0 (Kd.R (Kd.int .i64) 3 w83 w.heap.size (fun k_ => some k_ ≠ (v548 : Value).ownBlock ∧ some k_ ≠ (v554 : Value).ownBlock ∧ some k_ ≠ (.slice Ao14 t534.length co14 : Value).ownBlock ∧ some k_ ≠ (.slice Ao16 t537.length co16 : Value).ownBlock ∧ some k_ ≠ (.slice Ao17 t540.length co17 : Value).ownBlock) v551 t550) := ⟨h1_⟩
                                have n2_ : Aside0 (Kd.R (Kd.int .i64) 3 w83 w.heap.size (fun k_ => some k_ ≠ (v548 : Value).ownBlock ∧ some k_ ≠ (v551 : Value).ownBlock ∧ some k_ ≠ (.slice Ao14 t534.length co14 : Value).ownBlock ∧ some k_ ≠ (.slice Ao16 t537.length co16 : Value).ownBlock ∧ some k_ ≠ (.slice Ao17 t540.length co17 : Value).ownBlock) v554 t553) := ⟨h2_⟩
                                have n3_ : Aside0 (Kd.R (Kd.int .i64) 3 w83 w.heap.size (fun k_ => some k_ ≠ (v548 : Value).ownBlock ∧ some k_ ≠ (v551 : Value).ownBlock ∧ some k_ ≠ (v554 : Value).ownBlock ∧ some k_ ≠ (.slice Ao16 t537.length co16 : Value).ownBlock ∧ some k_ ≠ (.slice Ao17 t540.length co17 : Value).ownBlock) (.slice Ao14 t534.length co14) t534) := ⟨h3_⟩
                                have n4_ : Aside0 (Kd.R (Kd.int .i64) 3 w83 w.heap.size (fun k_ => some k_ ≠ (v548 : Value).ownBlock ∧ some k_ ≠ (v551 : Value).ownBlock ∧ some k_ ≠ (v554 : Value).ownBlock ∧ some k_ ≠ (.slice Ao14 t534.length co14 : Value).ownBlock ∧ some k_ ≠ (.slice Ao17 t540.length co17 : Value).ownBlock) (.slice Ao16 t537.length co16) t537) := ⟨h4_⟩
                                have n5_ : Aside0 (Kd.R (Kd.int .i64) 3 w83 w.heap.size (fun k_ => some k_ ≠ (v548 : Value).ownBlock ∧ some k_ ≠ (v551 : Value).ownBlock ∧ some k_ ≠ (v554 : Value).ownBlock ∧ some k_ ≠ (.slice Ao14 t534.length co14 : Value).ownBlock ∧ some k_ ≠ (.slice Ao16 t537.length co16 : Value).ownBlock) (.slice Ao17 t540.length co17) t540) := ⟨h5_⟩
                                have n6_ : Aside0 (w83.heap[gb543]? = some (.cells #[.slice Ao14 t534.length co14, .slice Ao16 t537.length co16, .slice Ao17 t540.length co17] 39 (0, 0))) := ⟨h6_⟩
                                have n7_ : Aside0 (w83.heap[gb557]? = some (.cells #[.slice none 0 0, .slice none 0 0, .slice none 0 0] 39 (0, 0))) := ⟨h7_⟩
                                have n8_ : Aside0 (w.heap.size ≤ gb557) := ⟨h8_⟩
                                have n9_ : Aside0 (w.heap.size ≤ gb557) := ⟨h9_⟩
                                have n10_ : Aside0 (gb543 ≠ gb557) := ⟨h10_⟩
                                have n11_ : Aside0 (gb557 ≠ gb543) := ⟨h11_⟩
                                have n12_ : Aside0 (Below w.heap.size w w83) := ⟨h12_⟩
                                clear HO_544000
                                clear HO_544001
                                clear HO_544002
                                clear BK543
                                clear HB
                                clear h0_ h1_ h2_ h3_ h4_ h5_ h6_ h7_ h8_ h9_ h10_ h11_ h12_
                                have HO549 := n0_
                                have HO552 := n1_
                                have HO555 := n2_
                                have HO_544000 := n3_
                                have HO_544001 := n4_
                                have HO_544002 := n5_
                                have BK543 := n6_
                                have BK557 := n7_
                                have GW557 := n8_
                                have GE557 := n9_
                                have NB543_557 := n10_
                                have NB557_543 := n11_
                                have HB := n12_
                                clear n0_ n1_ n2_ n3_ n4_ n5_ n6_ n7_ n8_ n9_ n10_ n11_ n12_
                                have hHeld : w83.cell? ⟨gb543, 0, none⟩ = some (.slice Ao14 t534.length co14) ∧ w83.cell? ⟨gb543, 1, none⟩ = some (.slice Ao16 t537.length co16) ∧ w83.cell? ⟨gb543, 2, none⟩ = some (.slice Ao17 t540.length co17) := hS_
                                obtain ⟨Ao84, co84, eo84⟩ := Kd.R_slice HO549.out
                                (first | subst eo84 | (injection eo84 with f1_ f2_ f3_; have f4_ := f1_.symm; have f5_ := f3_.symm; clear f1_ f2_ f3_; subst f4_; subst f5_))
                                obtain ⟨Ao86, co86, eo86⟩ := Kd.R_slice HO552.out
                                (first | subst eo86 | (injection eo86 with f1_ f2_ f3_; have f4_ := f1_.symm; have f5_ := f3_.symm; clear f1_ f2_ f3_; subst f4_; subst f5_))
                                obtain ⟨Ao88, co88, eo88⟩ := Kd.R_slice HO555.out
                                (first | subst eo88 | (injection eo88 with f1_ f2_ f3_; have f4_ := f1_.symm; have f5_ := f3_.symm; clear f1_ f2_ f3_; subst f4_; subst f5_))
                                refine norm_ (a' := ?_) ?_ ?_
                                rotate_left
                                · simp only [putAll, Act.put, List.setIfInBounds_toArray, List.set_cons_zero, List.set_cons_succ]
                                  rfl
                                refine one_ (i := 10) (N := none) #[true, true, true, true, true, true, true, true, true, true, true, false] rfl rfl (one_of HT_.out (by kernel_rfl)) (by decide) (fun K hK => ?_)
                                have hs85 : w83.cell? ⟨gb557, 0, none⟩ = some (.slice none 0 0) := (blk_cell BK557.out 0).trans rfl
                                have hfs85 := blk_frozen BK557.out 0
                                have hns85_0 := NB543_557.out
                                have hms85_0 := NB557_543.out
                                have hs87 : w83.cell? ⟨gb557, 1, none⟩ = some (.slice none 0 0) := (blk_cell BK557.out 1).trans rfl
                                have hfs87 := blk_frozen BK557.out 1
                                have hns87_0 := NB543_557.out
                                have hms87_0 := NB557_543.out
                                have hs89 : w83.cell? ⟨gb557, 2, none⟩ = some (.slice none 0 0) := (blk_cell BK557.out 2).trans rfl
                                have hfs89 := blk_frozen BK557.out 2
                                have hns89_0 := NB543_557.out
                                have hms89_0 := NB557_543.out
                                refine skip_ (w1 := ?_) (by rfl) rfl ?_ ?_
                                rotate_left
                                · go_simp
                                  rfl
                                refine hK.out _ _ ⟨((cell_far (p := ⟨gb557, _, none⟩) NB543_557.out _).trans (((cell_far (p := ⟨gb557, _, none⟩) NB543_557.out _).trans (((cell_far (p := ⟨gb557, _, none⟩) NB543_557.out _).trans (hHeld.1)))))), ((cell_far (p := ⟨gb557, _, none⟩) NB543_557.out _).trans (((cell_far (p := ⟨gb557, _, none⟩) NB543_557.out _).trans (((cell_far (p := ⟨gb557, _, none⟩) NB543_557.out _).trans (hHeld.2.1)))))), ((cell_far (p := ⟨gb557, _, none⟩) NB543_557.out _).trans (((cell_far (p := ⟨gb557, _, none⟩) NB543_557.out _).trans (((cell_far (p := ⟨gb557, _, none⟩) NB543_557.out _).trans (hHeld.2.2))))))⟩ (fun hHeld => ?_)
                                clear hK K
                                refine pure_ (i := 11) (N := some 16) (v := ?_) (a' := ?_) #[true, true, true, true, true, true, true, true, true, true, true, true] rfl rfl (any_of HT_.out (by kernel_rfl)) (fun _ _ _ h => h) (Or.inl ⟨by rfl, ?_⟩) ?_ ?_
                                rotate_left
                                · intro w'
                                  go_simp
                                  with_reducible rfl
                                rotate_left
                                · simp only [Act.put, List.setIfInBounds_toArray, List.set_cons_zero, List.set_cons_succ, i64_w, i32_w]
                                  rfl
                                refine done_ (done_of HT_.out (by kernel_rfl)) ?_
                                have hnb90 := NB543_557.out
                                have hnc90 := NB557_543.out
                                have hcz91_0 : w83.cell? ⟨gb543, 0, none⟩ = some (.slice Ao14 t534.length co14) := (blk_cell BK543.out 0).trans rfl
                                have hcz91_1 : w83.cell? ⟨gb543, 1, none⟩ = some (.slice Ao16 t537.length co16) := (blk_cell BK543.out 1).trans rfl
                                have hcz91_2 : w83.cell? ⟨gb543, 2, none⟩ = some (.slice Ao17 t540.length co17) := (blk_cell BK543.out 2).trans rfl
                                have hfz91_0 := blk_frozen BK543.out 0
                                have hfz91_1 := blk_frozen BK543.out 1
                                have hfz91_2 := blk_frozen BK543.out 2
                                try go_wp2
                                go_ret
                                exact ⟨by first | rfl | (simp [errW_none, errW_some] <;> rfl) | (simp only [← hji21, ← hji26]; first | rfl | (simp [errW_none, errW_some] <;> rfl)) | (simp [*, errW_none, errW_some] <;> rfl), by repeat (first | (with_reducible first | exact HB.out | apply below_alloc | apply pw_below_drewN | apply below_drew1 | refine below_set ?_ GE543.out | refine below_set ?_ GE557.out) | exact HB.out)⟩
                            · rw [if_neg c29] at H
                              exact absurd H (by simp)
                          · rw [if_neg c28] at H
                            exact absurd H (by simp)
                        · rw [if_neg c27] at H
                          exact absurd H (by simp)
                  · rw [if_neg c23] at H
                    exact absurd H (by simp)
                · rw [if_neg c22] at H
                  exact absurd H (by simp)

end Go.Proofs.Ytdlijioedokgjaa.Q

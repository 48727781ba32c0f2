/- seqpool.Get and Find by hand. (Printed by genget.py.) -/
import Derived.Test.YtdlijioedokgjaaHPackB
namespace Go.Proofs.Ytdlijioedokgjaa.Q
open Go.RowKit Go.Proofs.YtdlijioedokgjaaW.PrintWords Go.Proofs.YtdlijioedokgjaaW.PrintLast Go.Proofs.YtdlijioedokgjaaW.PrintMore
set_option linter.unusedVariables false
set_option linter.unusedSimpArgs false

theorem below_drew_ {B : Nat} {w W : World} (h : Below B w W) : Below B w W.drew := ⟨h.os, h.tape, h.output, h.size, h.block⟩
def getP (l0 l1 l2 : List Int) (a1 : Int) : List Int × Bool := if validB l0 l1 l2 = true ∧ 0 ≤ a1 ∧ a1 < l1.length then (cut l0 (rd l1 a1) (rd l2 a1), true) else ([], false)
def Get57.T3 : Bool × List (List Nat × List Nat) := (true, [([], []), ([0], [0]), ([], []), ([2], [2]), ([], []), ([3, 4], [3, 4]), ([5], [5]), ([], []), ([7], [7]), ([], []), ([8, 9], [8, 9]), ([10], [10]), ([1, 6, 11], [1, 6, 11]), ([12, 12], [12]), ([13, 13, 0, 1, 2, 3, 4, 5, 6, 7, 8, 9, 10, 11, 12, 13], [13]), ([14, 0, 1, 2, 3, 4, 5, 6, 7, 8, 9, 10, 11, 12, 13, 14], [])])
def Get57.B3 : List Nat := [0, 1, 0, 4, 0, 28, 60, 0, 128, 0, 896, 1920, 4095, 8191, 16383, 32767]
theorem Get57.tab3 : rtab .any (opsOf Try.f57 3) = Get57.T3 := by kernel_rfl
theorem Get57.bits3 : waitsOk Get57.T3.2 Get57.B3 = true := by kernel_rfl
set_option maxHeartbeats 4000000 in
set_option maxRecDepth 100000 in
theorem Get_calls (A0 : Option Addr) (c0 : Nat) (l0 : List Int) (A1 : Option Addr) (c1 : Nat) (l1 : List Int) (A2 : Option Addr) (c2 : Nat) (l2 : List Int) (a1 : Int) (k : Nat) (w : World) (hr0 : Kd.C (Kd.int .i64) w A0 l0.length l0) (hc0 : l0.length ≤ c0) (hr1 : Kd.C (Kd.int .i64) w A1 l1.length l1) (hc1 : l1.length ≤ c1) (hr2 : Kd.C (Kd.int .i64) w A2 l2.length l2) (hc2 : l2.length ≤ c2) (hb0 : l0.length ≤ 1000000000) (hb1 : l1.length ≤ 1000000000) (hb2 : l2.length ≤ 1000000000) (h : seqpool_Valid.f k l0 l1 l2 = some (validB l0 l1 l2)) :
    Calls Try.prog 57 #[.agg #[.slice A0 l0.length c0, .slice A1 l1.length c1, .slice A2 l2.length c2], .int .i64 a1] w fun e w' => ∃ v : Value, e = .returned (.tuple #[v, .bool (getP l0 l1 l2 a1).2]) ∧ Kd.R (Kd.int .i64) 3 w' w.heap.size (fun _ => True) v (getP l0 l1 l2 a1).1 ∧ Below w.heap.size w w' := by
  have hu39 := Try.underlying39
  have HR0 := Aside0.mk hr0
  have HR1 := Aside0.mk hr1
  have HR2 := Aside0.mk hr2
  clear hr0 hr1 hr2
  have NO : ¬ (validB l0 l1 l2 = true ∧ 0 ≤ a1 ∧ a1 < l1.length) → getP l0 l1 l2 a1 = ([], false) := fun hn => by unfold getP; rw [if_neg hn]
  have YES : (validB l0 l1 l2 = true ∧ 0 ≤ a1 ∧ a1 < l1.length) → getP l0 l1 l2 a1 = (cut l0 (rd l1 a1) (rd l2 a1), true) := fun hn => by unfold getP; rw [if_pos hn]
  have VS := fun hv => validB_spec (l0 := l0) (l1 := l1) (l2 := l2) hv
  generalize hvb : validB l0 l1 l2 = b at *
  have HV := Aside0.mk (fun W a0 a1 a2 => seqpool_Valid.calls k A0 c0 l0 A1 c1 l1 A2 c2 l2 b W a0 hc0 a1 hc1 a2 hc2 h)
  clear h hvb
  cases b with
  | false =>
    rw [NO (by simp)]
    clear NO YES VS
    go_enter Try.func57, Try.ntmps57
    go_wp2_with (first | ((with_reducible refine gate_dst (N := 2) rfl ?_); refine box_event ?hg (N := 2) ?hd (cs := #[.slice A0 l0.length c0, .slice A1 l1.length c1, .slice A2 l2.length c2]) (t := 39) ?hr ?_; (case hd => rfl); (case hg => rfl); (case hr => first | (go_simp; done) | (go_simp; rfl)); intro g1 hg w1 hbox hb; have BK1 := Aside0.mk (Blk3.mk hbox); have HB := Aside0.mk hb; have z0 := BK1.out.c0; have z1 := BK1.out.c1; have z2 := BK1.out.c2; have fz0 := BK1.out.f 0; have fz1 := BK1.out.f 1; have fz2 := BK1.out.f 2; clear hg hbox hb) | (go_at_call 59; refine (HV.out _ (Kd.C_below HR0.out HB.out) (Kd.C_below HR1.out HB.out) (Kd.C_below HR2.out HB.out)).mono ?_; rintro e w3 ⟨rfl, hb⟩; have HB2 := Aside0.mk (below_step HB.out hb); have BK2 := Aside0.mk (BK1.out.below hb); clear HB BK1 hb; have HB := HB2; have BK1 := BK2; clear HB2 BK2; clear z0 z1 z2 fz0 fz1 fz2; have z0 := BK1.out.c0; have z1 := BK1.out.c1; have z2 := BK1.out.c2; have fz0 := BK1.out.f 0; have fz1 := BK1.out.f 1; have fz2 := BK1.out.f 2))
    go_ret2
    exact ⟨_, rfl, R_nil _ _ _, HB.out⟩
  | true =>
    by_cases h0 : 0 ≤ a1
    · have t0 : decide (a1 < 0) = false := decide_eq_false (by omega)
      by_cases h1 : a1 < l1.length
      · have t1 : decide (a1 ≥ (l1.length : Int)) = false := decide_eq_false (by omega)
        rw [YES ⟨rfl, h0, h1⟩]
        obtain ⟨hl12, hall⟩ := VS rfl
        obtain ⟨hs0, hm0, hsl, hsm⟩ := hall a1 h0 h1
        have h2 : a1 < l2.length := by omega
        clear NO YES VS hall
        have HH := Aside0.mk (And.intro h0 (And.intro h1 (And.intro h2 (And.intro hs0 (And.intro hm0 (And.intro hsl hsm))))))
        clear h0 h1 h2 hs0 hm0 hsl hsm hl12
        go_enter Try.func57, Try.ntmps57
        go_wp2_with (first | ((with_reducible refine gate_dst (N := 2) rfl ?_); refine box_event ?hg (N := 2) ?hd (cs := #[.slice A0 l0.length c0, .slice A1 l1.length c1, .slice A2 l2.length c2]) (t := 39) ?hr ?_; (case hd => rfl); (case hg => rfl); (case hr => first | (go_simp; done) | (go_simp; rfl)); intro g1 hg w1 hbox hb; have BK1 := Aside0.mk (Blk3.mk hbox); have HB := Aside0.mk hb; have z0 := BK1.out.c0; have z1 := BK1.out.c1; have z2 := BK1.out.c2; have fz0 := BK1.out.f 0; have fz1 := BK1.out.f 1; have fz2 := BK1.out.f 2; clear hg hbox hb) | (go_at_call 59; refine (HV.out _ (Kd.C_below HR0.out HB.out) (Kd.C_below HR1.out HB.out) (Kd.C_below HR2.out HB.out)).mono ?_; rintro e w3 ⟨rfl, hb⟩; have HB2 := Aside0.mk (below_step HB.out hb); have BK2 := Aside0.mk (BK1.out.below hb); clear HB BK1 hb; have HB := HB2; have BK1 := BK2; clear HB2 BK2; clear z0 z1 z2 fz0 fz1 fz2; have z0 := BK1.out.c0; have z1 := BK1.out.c1; have z2 := BK1.out.c2; have fz0 := BK1.out.f 0; have fz1 := BK1.out.f 1; have fz2 := BK1.out.f 2))
        rename_i K9 hK9
        obtain ⟨h0, h1, h2, hs0, hm0, hsl, hsm⟩ := HH.out
        clear HH
        clear z0 z1 z2 fz0 fz1 fz2
        obtain ⟨ad1, e1, hc1'⟩ := Kd.at_int (Kd.C_below HR1.out HB.out) a1 h0 h1
        obtain ⟨ad2, e2, hc2'⟩ := Kd.at_int (Kd.C_below HR2.out HB.out) a1 h0 h2
        subst e1 e2
        obtain ⟨s, es⟩ : ∃ s, s = rd l1 a1 := ⟨_, rfl⟩
        obtain ⟨m, em⟩ : ∃ m, m = rd l2 a1 := ⟨_, rfl⟩
        rw [← es] at hs0 hsl hsm hc1'
        rw [← em] at hm0 hsm hc2'
        have ES := Aside0.mk es
        have EM := Aside0.mk em
        clear es em
        have HC1 := Aside0.mk hc1'
        have HC2 := Aside0.mk hc2'
        clear hc1' hc2' t0 t1
        have HCL := Aside0.mk (cut_length (xs := l0) (s := s) (m := m) hs0 hm0 hsm)
        have q0 := eq_true h0; have q1 := eq_true h1; have q2 := eq_true h2
        refine start_ (n := 16) (S := fun w' => w'.cell? ⟨g1, 0, none⟩ = some (.slice A0 l0.length c0) ∧ w'.cell? ⟨g1, 1, none⟩ = some (.slice (some ad1) l1.length c1) ∧ w'.cell? ⟨g1, 2, none⟩ = some (.slice (some ad2) l2.length c2) ∧ w'.cell? (ad1.add a1.toNat) = some (.int .i64 s) ∧ w'.cell? (ad2.add a1.toNat) = some (.int .i64 m)) (ds := []) #[false, false, false, false, false, false, false, false, false, false, false, false, false, false, false, false] (by kernel_rfl) rfl rfl ⟨BK1.out.c0, BK1.out.c1, BK1.out.c2, HC1.out, HC2.out⟩ (fun hHeld => ?_)
        refine with_tabW Get57.tab3 Get57.bits3 (fun HT_ HW_ => ?_)
        have HBd := Aside0.mk (below_drew_ HB.out); have BKd := Aside0.mk BK1.out.drew; have HC1d : Aside0 (w3.drew.cell? (ad1.add a1.toNat) = some (.int .i64 s)) := ⟨HC1.out⟩; have HC2d : Aside0 (w3.drew.cell? (ad2.add a1.toNat) = some (.int .i64 m)) := ⟨HC2.out⟩
        clear HB BK1 HC1 HC2
        have HB := HBd; have BK1 := BKd; have HC1 := HC1d; have HC2 := HC2d
        clear HBd BKd HC1d HC2d
        generalize w3.drew = w4 at HB BK1 HC1 HC2 hHeld ⊢
        refine pure_ (i := 0) (N := some 20) (v := ?_) (a' := ?_) #[true, false, false, false, false, false, false, false, false, false, false, false, false, false, false, false] rfl rfl (any_of HT_.out (by kernel_rfl)) (fun _ _ _ h => h) (Or.inl ⟨by rfl, ?_⟩) ?_ ?_
        rotate_left
        · intro w'
          go_simp
          with_reducible rfl
        rotate_left
        · simp only [Act.put, List.setIfInBounds_toArray, List.set_cons_zero, List.set_cons_succ, i64_w, i32_w]
          rfl
        refine pure_ (i := 2) (N := some 22) (v := ?_) (a' := ?_) #[true, false, true, false, false, false, false, false, false, false, false, false, false, false, false, false] rfl rfl (any_of HT_.out (by kernel_rfl)) (fun _ _ _ h => h) (Or.inl ⟨by rfl, ?_⟩) ?_ ?_
        rotate_left
        · intro w'
          go_simp
          with_reducible rfl
        rotate_left
        · simp only [Act.put, List.setIfInBounds_toArray, List.set_cons_zero, List.set_cons_succ, i64_w, i32_w]
          rfl
        refine pure_ (i := 4) (N := some 24) (v := ?_) (a' := ?_) #[true, false, true, false, true, false, false, false, false, false, false, false, false, false, false, false] rfl rfl (any_of HT_.out (by kernel_rfl)) (fun _ _ _ h => h) (Or.inl ⟨by rfl, ?_⟩) ?_ ?_
        rotate_left
        · intro w'
          go_simp
          with_reducible rfl
        rotate_left
        · simp only [Act.put, List.setIfInBounds_toArray, List.set_cons_zero, List.set_cons_succ, i64_w, i32_w]
          rfl
        refine pure_ (i := 7) (N := some 27) (v := ?_) (a' := ?_) #[true, false, true, false, true, false, false, true, false, false, false, false, false, false, false, false] rfl rfl (any_of HT_.out (by kernel_rfl)) (fun _ _ _ h => h) (Or.inl ⟨by rfl, ?_⟩) ?_ ?_
        rotate_left
        · intro w'
          go_simp
          with_reducible rfl
        rotate_left
        · simp only [Act.put, List.setIfInBounds_toArray, List.set_cons_zero, List.set_cons_succ, i64_w, i32_w]
          rfl
        refine pure_ (i := 9) (N := some 29) (v := ?_) (a' := ?_) #[true, false, true, false, true, false, false, true, false, true, false, false, false, false, false, false] rfl rfl (any_of HT_.out (by kernel_rfl)) (fun _ _ _ h => h) (Or.inl ⟨by rfl, ?_⟩) ?_ ?_
        rotate_left
        · intro w'
          go_simp
          with_reducible rfl
        rotate_left
        · simp only [Act.put, List.setIfInBounds_toArray, List.set_cons_zero, List.set_cons_succ, i64_w, i32_w]
          rfl
        refine take_ (i := 1) (N := some 21) (v := ?_) (a' := ?_) #[true, true, true, false, true, false, false, true, false, true, false, false, false, false, false, false] rfl rfl (take_ofW HT_.out HW_.out (by kernel_rfl)) (fun _ _ _ h => h) (Or.inl ⟨by rfl, ?_⟩) hHeld ?_ ?_
        rotate_left
        · rintro w' ⟨s0, s1, s2, s3, s4⟩
          go_simp
          with_reducible rfl
        rotate_left
        · simp only [Act.put, List.setIfInBounds_toArray, List.set_cons_zero, List.set_cons_succ, i64_w, i32_w]
          rfl
        refine take_ (i := 3) (N := some 23) (v := ?_) (a' := ?_) #[true, true, true, true, true, false, false, true, false, true, false, false, false, false, false, false] rfl rfl (take_ofW HT_.out HW_.out (by kernel_rfl)) (fun _ _ _ h => h) (Or.inl ⟨by rfl, ?_⟩) hHeld ?_ ?_
        rotate_left
        · rintro w' ⟨s0, s1, s2, s3, s4⟩
          go_simp
          with_reducible rfl
        rotate_left
        · simp only [Act.put, List.setIfInBounds_toArray, List.set_cons_zero, List.set_cons_succ, i64_w, i32_w]
          rfl
        refine pure_ (i := 5) (N := some 25) (v := ?_) (a' := ?_) #[true, true, true, true, true, true, false, true, false, true, false, false, false, false, false, false] rfl rfl (any_of HT_.out (by kernel_rfl)) (fun _ _ _ h => h) (Or.inl ⟨by rfl, ?_⟩) ?_ ?_
        rotate_left
        · intro w'
          go_simp
          with_reducible rfl
        rotate_left
        · simp only [Act.put, List.setIfInBounds_toArray, List.set_cons_zero, List.set_cons_succ, i64_w, i32_w]
          rfl
        refine take_ (i := 6) (N := some 26) (v := ?_) (a' := ?_) #[true, true, true, true, true, true, true, true, false, true, false, false, false, false, false, false] rfl rfl (take_ofW HT_.out HW_.out (by kernel_rfl)) (fun _ _ _ h => h) (Or.inl ⟨by rfl, ?_⟩) hHeld ?_ ?_
        rotate_left
        · rintro w' ⟨s0, s1, s2, s3, s4⟩
          go_simp
          with_reducible rfl
        rotate_left
        · simp only [Act.put, List.setIfInBounds_toArray, List.set_cons_zero, List.set_cons_succ, i64_w, i32_w]
          rfl
        refine take_ (i := 8) (N := some 28) (v := ?_) (a' := ?_) #[true, true, true, true, true, true, true, true, true, true, false, false, false, false, false, false] rfl rfl (take_ofW HT_.out HW_.out (by kernel_rfl)) (fun _ _ _ h => h) (Or.inl ⟨by rfl, ?_⟩) hHeld ?_ ?_
        rotate_left
        · rintro w' ⟨s0, s1, s2, s3, s4⟩
          go_simp
          with_reducible rfl
        rotate_left
        · simp only [Act.put, List.setIfInBounds_toArray, List.set_cons_zero, List.set_cons_succ, i64_w, i32_w]
          rfl
        refine pure_ (i := 10) (N := some 30) (v := ?_) (a' := ?_) #[true, true, true, true, true, true, true, true, true, true, true, false, false, false, false, false] rfl rfl (any_of HT_.out (by kernel_rfl)) (fun _ _ _ h => h) (Or.inl ⟨by rfl, ?_⟩) ?_ ?_
        rotate_left
        · intro w'
          go_simp
          with_reducible rfl
        rotate_left
        · simp only [Act.put, List.setIfInBounds_toArray, List.set_cons_zero, List.set_cons_succ, i64_w, i32_w]
          rfl
        refine take_ (i := 11) (N := some 31) (v := ?_) (a' := ?_) #[true, true, true, true, true, true, true, true, true, true, true, true, false, false, false, false] rfl rfl (take_ofW HT_.out HW_.out (by kernel_rfl)) (fun _ _ _ h => h) (Or.inl ⟨by rfl, ?_⟩) hHeld ?_ ?_
        rotate_left
        · rintro w' ⟨s0, s1, s2, s3, s4⟩
          go_simp
          with_reducible rfl
        rotate_left
        · simp only [Act.put, List.setIfInBounds_toArray, List.set_cons_zero, List.set_cons_succ, i64_w, i32_w]
          rfl
        refine one_ (i := 12) (N := some 32) #[true, true, true, true, true, true, true, true, true, true, true, true, true, false, false, false] rfl rfl (one_of HT_.out (by kernel_rfl)) (by decide) (fun K hK => ?_)
        refine goes_ Try.func108 (by kernel_rfl) rfl #[.slice A0 l0.length c0, .int .i64 s, .int .i64 m] (by rfl) rfl rfl (by simp only [List.map_toArray, List.map_cons, List.map_nil]; rfl) ?_
        refine (part_calls A0 l0.length c0 l0 s m _ rfl (Kd.C_below HR0.out HB.out) hc0 hs0 hm0 hsm).mono ?_
        rintro e w5 ⟨A', rfl, hC', rfl⟩
        refine ⟨_, rfl, ?_⟩
        have HCP := Aside0.mk hC'
        clear hC'
        refine hK.out _ _ ⟨BK1.out.c0, BK1.out.c1, BK1.out.c2, HC1.out, HC2.out⟩ (fun hHeld => ?_)
        clear hK K
        refine norm_ (a' := ?_) ?_ ?_
        rotate_left
        · show Act.put _ (some 32) _ = _
          simp only [Act.put, List.setIfInBounds_toArray, List.set_cons_zero, List.set_cons_succ, i64_w, i32_w]
          rfl
        refine one_ (i := 13) (N := some 33) #[true, true, true, true, true, true, true, true, true, true, true, true, true, true, false, false] rfl rfl (one_of HT_.out (by kernel_rfl)) (by decide) (fun K hK => ?_)
        refine goes_ Try.func110 (by kernel_rfl) rfl #[.slice A' m.toNat m.toNat] (by rfl) rfl rfl (by simp only [List.map_toArray, List.map_cons, List.map_nil]; rfl) ?_
        refine (copied_calls A' m.toNat m.toNat (cut l0 s m) _ HCL.out.symm (by rw [HCL.out]; exact HCP.out) (by rw [HCL.out]; exact Nat.le_refl _) (by rw [HCL.out]; omega)).mono ?_
        rintro e w6 ⟨v, rfl, hv, hb⟩
        refine ⟨_, rfl, ?_⟩
        have HW := Aside0.mk (Kd.R_lower hv HB.out.size)
        have HB2 := Aside0.mk (below_step HB.out hb)
        have BK2 := Aside0.mk (BK1.out.below hb)
        have HC1b := Aside0.mk ((hb.cell (World.block_lt_of_cell? _ _ HC1.out)).trans HC1.out)
        have HC2b := Aside0.mk ((hb.cell (World.block_lt_of_cell? _ _ HC2.out)).trans HC2.out)
        clear HC1 HC2 HB BK1 hb hv
        have HC1 := HC1b; have HC2 := HC2b; have HB := HB2; have BK1 := BK2
        clear HC1b HC2b HB2 BK2
        refine hK.out _ _ ⟨BK1.out.c0, BK1.out.c1, BK1.out.c2, HC1.out, HC2.out⟩ (fun hHeld => ?_)
        clear hK K
        refine norm_ (a' := ?_) ?_ ?_
        rotate_left
        · show Act.put _ (some 33) _ = _
          simp only [Act.put, List.setIfInBounds_toArray, List.set_cons_zero, List.set_cons_succ, i64_w, i32_w]
          rfl
        refine pure_ (i := 14) (N := some 4) (v := ?_) (a' := ?_) #[true, true, true, true, true, true, true, true, true, true, true, true, true, true, true, false] rfl rfl (any_of HT_.out (by kernel_rfl)) (fun _ _ _ h => h) (Or.inl ⟨by rfl, ?_⟩) ?_ ?_
        rotate_left
        · intro w'
          go_simp
          with_reducible rfl
        rotate_left
        · simp only [Act.put, List.setIfInBounds_toArray, List.set_cons_zero, List.set_cons_succ, i64_w, i32_w]
          rfl
        refine pure_ (i := 15) (N := some 5) (v := ?_) (a' := ?_) #[true, true, true, true, true, true, true, true, true, true, true, true, true, true, true, true] rfl rfl (any_of HT_.out (by kernel_rfl)) (fun _ _ _ h => h) (Or.inl ⟨by rfl, ?_⟩) ?_ ?_
        rotate_left
        · intro w'
          go_simp
          with_reducible rfl
        rotate_left
        · simp only [Act.put, List.setIfInBounds_toArray, List.set_cons_zero, List.set_cons_succ, i64_w, i32_w]
          rfl
        refine done_ (done_of HT_.out (by kernel_rfl)) ?_
        refine hK9 _ _ (wp_ret ?_)
        go_ret2
        refine ⟨v, ?_, ?_, HB.out⟩
        · rfl
        · rw [← ES.out, ← EM.out]; exact HW.out
      · have t1 : decide (a1 ≥ (l1.length : Int)) = true := decide_eq_true (by omega)
        rw [NO (by omega)]
        clear NO YES VS
        go_enter Try.func57, Try.ntmps57
        go_wp2_with (first | ((with_reducible refine gate_dst (N := 2) rfl ?_); refine box_event ?hg (N := 2) ?hd (cs := #[.slice A0 l0.length c0, .slice A1 l1.length c1, .slice A2 l2.length c2]) (t := 39) ?hr ?_; (case hd => rfl); (case hg => rfl); (case hr => first | (go_simp; done) | (go_simp; rfl)); intro g1 hg w1 hbox hb; have BK1 := Aside0.mk (Blk3.mk hbox); have HB := Aside0.mk hb; have z0 := BK1.out.c0; have z1 := BK1.out.c1; have z2 := BK1.out.c2; have fz0 := BK1.out.f 0; have fz1 := BK1.out.f 1; have fz2 := BK1.out.f 2; clear hg hbox hb) | (go_at_call 59; refine (HV.out _ (Kd.C_below HR0.out HB.out) (Kd.C_below HR1.out HB.out) (Kd.C_below HR2.out HB.out)).mono ?_; rintro e w3 ⟨rfl, hb⟩; have HB2 := Aside0.mk (below_step HB.out hb); have BK2 := Aside0.mk (BK1.out.below hb); clear HB BK1 hb; have HB := HB2; have BK1 := BK2; clear HB2 BK2; clear z0 z1 z2 fz0 fz1 fz2; have z0 := BK1.out.c0; have z1 := BK1.out.c1; have z2 := BK1.out.c2; have fz0 := BK1.out.f 0; have fz1 := BK1.out.f 1; have fz2 := BK1.out.f 2))
        go_ret2
        exact ⟨_, rfl, R_nil _ _ _, HB.out⟩
    · have t0 : decide (a1 < 0) = true := decide_eq_true (by omega)
      rw [NO (by omega)]
      clear NO YES VS
      go_enter Try.func57, Try.ntmps57
      go_wp2_with (first | ((with_reducible refine gate_dst (N := 2) rfl ?_); refine box_event ?hg (N := 2) ?hd (cs := #[.slice A0 l0.length c0, .slice A1 l1.length c1, .slice A2 l2.length c2]) (t := 39) ?hr ?_; (case hd => rfl); (case hg => rfl); (case hr => first | (go_simp; done) | (go_simp; rfl)); intro g1 hg w1 hbox hb; have BK1 := Aside0.mk (Blk3.mk hbox); have HB := Aside0.mk hb; have z0 := BK1.out.c0; have z1 := BK1.out.c1; have z2 := BK1.out.c2; have fz0 := BK1.out.f 0; have fz1 := BK1.out.f 1; have fz2 := BK1.out.f 2; clear hg hbox hb) | (go_at_call 59; refine (HV.out _ (Kd.C_below HR0.out HB.out) (Kd.C_below HR1.out HB.out) (Kd.C_below HR2.out HB.out)).mono ?_; rintro e w3 ⟨rfl, hb⟩; have HB2 := Aside0.mk (below_step HB.out hb); have BK2 := Aside0.mk (BK1.out.below hb); clear HB BK1 hb; have HB := HB2; have BK1 := BK2; clear HB2 BK2; clear z0 z1 z2 fz0 fz1 fz2; have z0 := BK1.out.c0; have z1 := BK1.out.c1; have z2 := BK1.out.c2; have fz0 := BK1.out.f 0; have fz1 := BK1.out.f 1; have fz2 := BK1.out.f 2))
      go_ret2
      exact ⟨_, rfl, R_nil _ _ _, HB.out⟩
end Go.Proofs.Ytdlijioedokgjaa.Q

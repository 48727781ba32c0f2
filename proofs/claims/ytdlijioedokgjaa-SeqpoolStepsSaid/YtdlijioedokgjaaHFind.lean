/- seqpool.Find by hand. (Printed by genfind.py.) -/
import Derived.Test.YtdlijioedokgjaaHGet
namespace Go.Proofs.Ytdlijioedokgjaa.Q
open Go.RowKit Go.Proofs.YtdlijioedokgjaaW.PrintWords Go.Proofs.YtdlijioedokgjaaW.PrintLast Go.Proofs.YtdlijioedokgjaaW.PrintMore
set_option linter.unusedVariables false
set_option linter.unusedSimpArgs false

def findF (l0 l1 l2 seq : List Int) : Nat → Int → Int × Bool
  | 0, _ => (0, false)
  | d + 1, i => if cut l0 (rd l1 i) (rd l2 i) = seq then (i, true) else findF l0 l1 l2 seq d (i + 1)
def findP (l0 l1 l2 seq : List Int) : Int × Bool := if validB l0 l1 l2 = true then findF l0 l1 l2 seq l1.length 0 else (0, false)
def Find52.T5 : Bool × List (List Nat × List Nat) := (true, [([], []), ([0], [0]), ([], []), ([], []), ([3], [3]), ([], []), ([4, 5], [4, 5]), ([6], [6]), ([1, 2, 7], [1, 2, 7]), ([], []), ([8, 9, 8], [8, 9])])
def Find52.B5 : List Nat := [0, 1, 0, 0, 8, 0, 56, 120, 255, 0, 1023]
theorem Find52.tab5 : rtab .any (opsOf Try.f52 5) = Find52.T5 := by kernel_rfl
theorem Find52.bits5 : waitsOk Find52.T5.2 Find52.B5 = true := by kernel_rfl
set_option maxHeartbeats 4000000 in
set_option maxRecDepth 100000 in
theorem Find_calls (A0 : Option Addr) (c0 : Nat) (l0 : List Int) (A1 : Option Addr) (c1 : Nat) (l1 : List Int) (A2 : Option Addr) (c2 : Nat) (l2 : List Int) (A3 : Option Addr) (c3 : Nat) (seq : List Int) (k : Nat) (w : World) (hr0 : Kd.C (Kd.int .i64) w A0 l0.length l0) (hc0 : l0.length ≤ c0) (hr1 : Kd.C (Kd.int .i64) w A1 l1.length l1) (hc1 : l1.length ≤ c1) (hr2 : Kd.C (Kd.int .i64) w A2 l2.length l2) (hc2 : l2.length ≤ c2) (hr3 : Kd.C (Kd.int .i64) w A3 seq.length seq) (hc3 : seq.length ≤ c3) (h : seqpool_Valid.f k l0 l1 l2 = some (validB l0 l1 l2)) :
    Calls Try.prog 52 #[.agg #[.slice A0 l0.length c0, .slice A1 l1.length c1, .slice A2 l2.length c2], .slice A3 seq.length c3] w fun e w' => e = .returned (.tuple #[.int .i64 (findP l0 l1 l2 seq).1, .bool (findP l0 l1 l2 seq).2]) ∧ Below w.heap.size w w' := by
  have hu39 := Try.underlying39
  have HR0 := Aside0.mk hr0
  have HR1 := Aside0.mk hr1
  have HR2 := Aside0.mk hr2
  have HR3 := Aside0.mk hr3
  have hmx : (l1.length : Int) ≤ 9223372036854775807 := by have := Kd.C_max hr1; omega
  have HMX := Aside0.mk hmx
  clear hr0 hr1 hr2 hr3 hmx
  have NO : validB l0 l1 l2 = false → findP l0 l1 l2 seq = (0, false) := fun hn => by unfold findP; rw [hn]; rfl
  have YES : validB l0 l1 l2 = true → findP l0 l1 l2 seq = findF l0 l1 l2 seq l1.length 0 := fun hn => by unfold findP; rw [if_pos hn]
  have VS := fun hv => validB_spec (l0 := l0) (l1 := l1) (l2 := l2) hv
  generalize hvb : validB l0 l1 l2 = b at *
  have HV := Aside0.mk (fun W a0 a1 a2 => seqpool_Valid.calls k A0 c0 l0 A1 c1 l1 A2 c2 l2 b W a0 hc0 a1 hc1 a2 hc2 h)
  clear h hvb
  cases b with
  | false =>
    rw [NO rfl]
    clear NO YES VS
    go_enter Try.func52, Try.ntmps52
    go_wp2_with (first | ((with_reducible refine gate_dst (N := 2) rfl ?_); refine box_event ?hg (N := 2) ?hd (cs := #[.slice A0 l0.length c0, .slice A1 l1.length c1, .slice A2 l2.length c2]) (t := 39) ?hr ?_; (case hd => rfl); (case hg => rfl); (case hr => first | (go_simp; done) | (go_simp; rfl)); intro g1 hg w1 hbox hb; have BK1 := Aside0.mk (Blk3.mk hbox); have HB := Aside0.mk hb; have z0 := BK1.out.c0; have z1 := BK1.out.c1; have z2 := BK1.out.c2; have fz0 := BK1.out.f 0; have fz1 := BK1.out.f 1; have fz2 := BK1.out.f 2; clear hg hbox hb) | (go_at_call 59; refine (HV.out _ (Kd.C_below HR0.out HB.out) (Kd.C_below HR1.out HB.out) (Kd.C_below HR2.out HB.out)).mono ?_; rintro e w3 ⟨rfl, hb⟩; have HB2 := Aside0.mk (below_step HB.out hb); have BK2 := Aside0.mk (BK1.out.below hb); clear HB BK1 hb; have HB := HB2; have BK1 := BK2; clear HB2 BK2; clear z0 z1 z2 fz0 fz1 fz2; have z0 := BK1.out.c0; have z1 := BK1.out.c1; have z2 := BK1.out.c2; have fz0 := BK1.out.f 0; have fz1 := BK1.out.f 1; have fz2 := BK1.out.f 2))
    go_ret2
    exact ⟨rfl, HB.out⟩
  | true =>
    have HVS := Aside0.mk (VS rfl)
    have HY := Aside0.mk (YES rfl)
    clear NO YES VS
    go_enter Try.func52, Try.ntmps52
    go_wp2_with (first | ((with_reducible refine gate_dst (N := 2) rfl ?_); refine box_event ?hg (N := 2) ?hd (cs := #[.slice A0 l0.length c0, .slice A1 l1.length c1, .slice A2 l2.length c2]) (t := 39) ?hr ?_; (case hd => rfl); (case hg => rfl); (case hr => first | (go_simp; done) | (go_simp; rfl)); intro g1 hg w1 hbox hb; have BK1 := Aside0.mk (Blk3.mk hbox); have HB := Aside0.mk hb; have z0 := BK1.out.c0; have z1 := BK1.out.c1; have z2 := BK1.out.c2; have fz0 := BK1.out.f 0; have fz1 := BK1.out.f 1; have fz2 := BK1.out.f 2; clear hg hbox hb) | (go_at_call 59; refine (HV.out _ (Kd.C_below HR0.out HB.out) (Kd.C_below HR1.out HB.out) (Kd.C_below HR2.out HB.out)).mono ?_; rintro e w3 ⟨rfl, hb⟩; have HB2 := Aside0.mk (below_step HB.out hb); have BK2 := Aside0.mk (BK1.out.below hb); clear HB BK1 hb; have HB := HB2; have BK1 := BK2; clear HB2 BK2; clear z0 z1 z2 fz0 fz1 fz2; have z0 := BK1.out.c0; have z1 := BK1.out.c1; have z2 := BK1.out.c2; have fz0 := BK1.out.f 0; have fz1 := BK1.out.f 1; have fz2 := BK1.out.f 2))
    clear z0 z1 z2 fz0 fz1 fz2
    go_loopw [13] (fun v13 w' => ∃ x : Int, v13 = .int .i64 x ∧ 0 ≤ x ∧ x ≤ l1.length ∧ Aside0 (findF l0 l1 l2 seq (l1.length - x.toNat) x = findP l0 l1 l2 seq) ∧ Aside0 (Blk3 w' g1 (.slice A0 l0.length c0) (.slice A1 l1.length c1) (.slice A2 l2.length c2)) ∧ Aside0 (Below w.heap.size w w')) (fun v13 _ => ((l1.length : Int) - intOf v13).toNat)
    case atStart => exact ⟨0, rfl, by omega, by omega, ⟨HY.out.symm⟩, ⟨BK1.out⟩, ⟨HB.out⟩⟩
    case round =>
      obtain ⟨x, rfl, hx0, hx1, HF, HBK, HBB⟩ := hrel
      clear BK1 HB HV HY
      have BK1 := HBK
      have HB := HBB
      clear HBK HBB
      by_cases hx : x < l1.length
      · have t1 : decide (x < (l1.length : Int)) = true := decide_eq_true hx
        obtain ⟨hl12, hall⟩ := HVS.out
        obtain ⟨hs0, hm0, hsl, hsm⟩ := hall x hx0 hx
        have hx2 : x < l2.length := by omega
        clear hall HVS
        obtain ⟨ad1, e1, hc1'⟩ := Kd.at_int (Kd.C_below HR1.out HB.out) x hx0 hx
        obtain ⟨ad2, e2, hc2'⟩ := Kd.at_int (Kd.C_below HR2.out HB.out) x hx0 hx2
        subst e1 e2
        have hstep : findF l0 l1 l2 seq (l1.length - x.toNat) x = if cut l0 (rd l1 x) (rd l2 x) = seq then (x, true) else findF l0 l1 l2 seq (l1.length - (x + 1).toNat) (x + 1) := by
          rw [show l1.length - x.toNat = (l1.length - (x + 1).toNat) + 1 by omega, findF]
        rw [HF.out] at hstep
        obtain ⟨s, es⟩ : ∃ s, s = rd l1 x := ⟨_, rfl⟩
        obtain ⟨m, em⟩ : ∃ m, m = rd l2 x := ⟨_, rfl⟩
        rw [← es] at hs0 hsl hsm hc1' hstep
        rw [← em] at hm0 hsm hc2' hstep
        have HST := Aside0.mk hstep
        have HC1 := Aside0.mk hc1'
        have HC2 := Aside0.mk hc2'
        have HH := Aside0.mk (And.intro hs0 (And.intro hm0 hsm))
        have HCL := Aside0.mk (cut_length (xs := l0) (s := s) (m := m) hs0 hm0 hsm)
        have hmx := HMX.out
        clear hl12 hs0 hm0 hsl hsm es em hstep hc1' hc2' HF
        have q0 := eq_true hx0
        have q1 := eq_true hx
        have q2 := eq_true hx2
        have z0 := BK1.out.c0; have z1 := BK1.out.c1; have z2 := BK1.out.c2; have z3 := HC1.out; have z4 := HC2.out
        cases hd : decide (cut l0 s m = seq)
        all_goals
          have HD := Aside0.mk hd
          clear hd
          go_wp2
          rename_i K9 hK9
          clear z0 z1 z2 z3 z4 HC1
          have HBd := Aside0.mk (below_drew_ HB.out)
          have BKd := Aside0.mk BK1.out.drew
          have HC2d : Aside0 (wr.drew.cell? (ad2.add x.toNat) = some (.int .i64 m)) := ⟨HC2.out⟩
          clear HB BK1 HC2
          have HB := HBd; have BK1 := BKd; have HC2 := HC2d
          clear HBd BKd HC2d
          refine start_ (n := 11) (S := fun w' => w'.cell? ⟨g1, 0, none⟩ = some (.slice A0 l0.length c0) ∧ w'.cell? ⟨g1, 2, none⟩ = some (.slice (some ad2) l2.length c2) ∧ w'.cell? (ad2.add x.toNat) = some (.int .i64 m)) (ds := []) #[false, false, false, false, false, false, false, false, false, false, false] (by kernel_rfl) rfl rfl ⟨BK1.out.c0, BK1.out.c2, HC2.out⟩ (fun hHeld => ?_)
          refine with_tabW Find52.tab5 Find52.bits5 (fun HT_ HW_ => ?_)
          generalize wr.drew = w4 at HB BK1 HC2 hHeld ⊢
          refine pure_ (i := 0) (N := some 18) (v := ?_) (a' := ?_) #[true, false, false, false, false, false, false, false, false, false, false] rfl rfl (any_of HT_.out (by kernel_rfl)) (fun _ _ _ h => h) (Or.inl ⟨by rfl, ?_⟩) ?_ ?_
          rotate_left
          · intro w'
            go_simp
            with_reducible rfl
          rotate_left
          · simp only [Act.put, List.setIfInBounds_toArray, List.set_cons_zero, List.set_cons_succ, i64_w, i32_w]
            rfl
          refine pure_ (i := 2) (N := some 20) (v := ?_) (a' := ?_) #[true, false, true, false, false, false, false, false, false, false, false] rfl rfl (any_of HT_.out (by kernel_rfl)) (fun _ _ _ h => h) (Or.inl ⟨by rfl, ?_⟩) ?_ ?_
          rotate_left
          · intro w'
            go_simp
            with_reducible rfl
          rotate_left
          · simp only [Act.put, List.setIfInBounds_toArray, List.set_cons_zero, List.set_cons_succ, i64_w, i32_w]
            rfl
          refine pure_ (i := 3) (N := some 21) (v := ?_) (a' := ?_) #[true, false, true, true, false, false, false, false, false, false, false] rfl rfl (any_of HT_.out (by kernel_rfl)) (fun _ _ _ h => h) (Or.inl ⟨by rfl, ?_⟩) ?_ ?_
          rotate_left
          · intro w'
            go_simp
            with_reducible rfl
          rotate_left
          · simp only [Act.put, List.setIfInBounds_toArray, List.set_cons_zero, List.set_cons_succ, i64_w, i32_w]
            rfl
          refine pure_ (i := 5) (N := some 23) (v := ?_) (a' := ?_) #[true, false, true, true, false, true, false, false, false, false, false] rfl rfl (any_of HT_.out (by kernel_rfl)) (fun _ _ _ h => h) (Or.inl ⟨by rfl, ?_⟩) ?_ ?_
          rotate_left
          · intro w'
            go_simp
            with_reducible rfl
          rotate_left
          · simp only [Act.put, List.setIfInBounds_toArray, List.set_cons_zero, List.set_cons_succ, i64_w, i32_w]
            rfl
          refine pure_ (i := 9) (N := some 27) (v := ?_) (a' := ?_) #[true, false, true, true, false, true, false, false, false, true, false] rfl rfl (any_of HT_.out (by kernel_rfl)) (fun _ _ _ h => h) (Or.inl ⟨by rfl, ?_⟩) ?_ ?_
          rotate_left
          · intro w'
            go_simp
            with_reducible rfl
          rotate_left
          · simp only [Act.put, List.setIfInBounds_toArray, List.set_cons_zero, List.set_cons_succ, i64_w, i32_w]
            rfl
          refine take_ (i := 1) (N := some 19) (v := ?_) (a' := ?_) #[true, true, true, true, false, true, false, false, false, true, false] rfl rfl (take_ofW HT_.out HW_.out (by kernel_rfl)) (fun _ _ _ h => h) (Or.inl ⟨by rfl, ?_⟩) hHeld ?_ ?_
          rotate_left
          · rintro w' ⟨s0, s1, s2⟩
            go_simp
            with_reducible rfl
          rotate_left
          · simp only [Act.put, List.setIfInBounds_toArray, List.set_cons_zero, List.set_cons_succ, i64_w, i32_w]
            rfl
          refine take_ (i := 4) (N := some 22) (v := ?_) (a' := ?_) #[true, true, true, true, true, true, false, false, false, true, false] rfl rfl (take_ofW HT_.out HW_.out (by kernel_rfl)) (fun _ _ _ h => h) (Or.inl ⟨by rfl, ?_⟩) hHeld ?_ ?_
          rotate_left
          · rintro w' ⟨s0, s1, s2⟩
            go_simp
            with_reducible rfl
          rotate_left
          · simp only [Act.put, List.setIfInBounds_toArray, List.set_cons_zero, List.set_cons_succ, i64_w, i32_w]
            rfl
          refine pure_ (i := 6) (N := some 24) (v := ?_) (a' := ?_) #[true, true, true, true, true, true, true, false, false, true, false] rfl rfl (any_of HT_.out (by kernel_rfl)) (fun _ _ _ h => h) (Or.inl ⟨by rfl, ?_⟩) ?_ ?_
          rotate_left
          · intro w'
            go_simp
            with_reducible rfl
          rotate_left
          · simp only [Act.put, List.setIfInBounds_toArray, List.set_cons_zero, List.set_cons_succ, i64_w, i32_w]
            rfl
          refine take_ (i := 7) (N := some 25) (v := ?_) (a' := ?_) #[true, true, true, true, true, true, true, true, false, true, false] rfl rfl (take_ofW HT_.out HW_.out (by kernel_rfl)) (fun _ _ _ h => h) (Or.inl ⟨by rfl, ?_⟩) hHeld ?_ ?_
          rotate_left
          · rintro w' ⟨s0, s1, s2⟩
            go_simp
            with_reducible rfl
          rotate_left
          · simp only [Act.put, List.setIfInBounds_toArray, List.set_cons_zero, List.set_cons_succ, i64_w, i32_w]
            rfl
          refine one_ (i := 8) (N := some 26) #[true, true, true, true, true, true, true, true, true, true, false] rfl rfl (one_of HT_.out (by kernel_rfl)) (by decide) (fun K hK => ?_)
          refine goes_ Try.func108 (by kernel_rfl) rfl #[.slice A0 l0.length c0, .int .i64 s, .int .i64 m] (by rfl) rfl rfl (by simp only [List.map_toArray, List.map_cons, List.map_nil]; rfl) ?_
          refine (part_calls A0 l0.length c0 l0 s m _ rfl (Kd.C_below HR0.out HB.out) hc0 HH.out.1 HH.out.2.1 HH.out.2.2).mono ?_
          rintro e w5 ⟨A', rfl, hC', rfl⟩
          refine ⟨_, rfl, ?_⟩
          have HCP := Aside0.mk hC'
          clear hC'
          refine hK.out _ _ ⟨BK1.out.c0, BK1.out.c2, HC2.out⟩ (fun hHeld => ?_)
          clear hK K
          refine norm_ (a' := ?_) ?_ ?_
          rotate_left
          · show Act.put _ (some 26) _ = _
            simp only [Act.put, List.setIfInBounds_toArray, List.set_cons_zero, List.set_cons_succ, i64_w, i32_w]
            rfl
          refine one_ (i := 10) (N := some 28) #[true, true, true, true, true, true, true, true, true, true, true] rfl rfl (one_of HT_.out (by kernel_rfl)) (by decide) (fun K hK => ?_)
          refine goes_ Try.func107 (by kernel_rfl) rfl #[.slice A' m.toNat m.toNat, .slice A3 seq.length c3] (by rfl) rfl rfl (by simp only [List.map_toArray, List.map_cons, List.map_nil]; rfl) ?_
          refine (equal_calls A' m.toNat m.toNat (cut l0 s m) A3 seq.length c3 seq _ _ HCL.out.symm rfl (by rw [HCL.out]; exact HCP.out) (by rw [HCL.out]; exact Nat.le_refl _) (Kd.C_below HR3.out HB.out) hc3 HD.out).mono ?_
          rintro e w6 ⟨rfl, ⟨nd, rfl⟩⟩
          refine ⟨_, rfl, ?_⟩
          have HBd := Aside0.mk (pw_below_drewN HB.out nd)
          have BKd := Aside0.mk (BK1.out.drewN nd)
          have HC2d : Aside0 ((w4.drewN nd).cell? (ad2.add x.toNat) = some (.int .i64 m)) := ⟨HC2.out⟩
          clear HB BK1 HC2 HCP
          have HB := HBd; have BK1 := BKd; have HC2 := HC2d
          clear HBd BKd HC2d
          refine hK.out _ _ ⟨BK1.out.c0, BK1.out.c2, HC2.out⟩ (fun hHeld => ?_)
          clear hK K
          refine norm_ (a' := ?_) ?_ ?_
          rotate_left
          · show Act.put _ (some 28) _ = _
            simp only [Act.put, List.setIfInBounds_toArray, List.set_cons_zero, List.set_cons_succ, i64_w, i32_w]
            rfl
          refine done_ (done_of HT_.out (by kernel_rfl)) ?_
          refine hK9 _ _ ?_
          have HDD := HD.out
          have HS2 := HST.out
          first | (rw [if_pos (of_decide_eq_true HDD)] at HS2; have HFN := Aside0.mk HS2; clear HS2 HDD HST; go_wp2; go_ret2; rw [HFN.out]; exact ⟨rfl, HB.out⟩) | (rw [if_neg (of_decide_eq_false HDD)] at HS2; have HFN := Aside0.mk HS2; clear HS2 HDD HST; go_wp2; go_roundw; (case rel => exact ⟨x + 1, rfl, by omega, by omega, ⟨HFN.out.symm⟩, BK1, HB⟩); (case measure => simp [intOf]; omega))
      · have t1 : decide (x < (l1.length : Int)) = false := decide_eq_false hx
        have h := HF.out
        rw [show l1.length - x.toNat = 0 by omega, findF] at h
        have HFN := Aside0.mk h
        clear h HF
        go_wp2
        go_ret2
        rw [← HFN.out]
        exact ⟨rfl, HB.out⟩
end Go.Proofs.Ytdlijioedokgjaa.Q

/- seqpool.Add by hand. (Printed by genadd41.py.) -/
import Derived.Test.YtdlijioedokgjaaHAdd
import Derived.Test.YtdlijioedokgjaaMPool
namespace Go.Proofs.Ytdlijioedokgjaa.Q
open Go.RowKit Go.Proofs.YtdlijioedokgjaaW.PrintWords Go.Proofs.YtdlijioedokgjaaW.PrintLast Go.Proofs.YtdlijioedokgjaaW.PrintMore
set_option linter.unusedVariables false
set_option linter.unusedSimpArgs false

theorem Blk3.far {w : World} {g g' : Nat} {a b c : Value} (h : Blk3 w g a b c) (hne : g ≠ g') (x y z : Value) : Blk3 (((w.setCell ⟨g', 0, none⟩ x).setCell ⟨g', 1, none⟩ y).setCell ⟨g', 2, none⟩ z) g a b c := ⟨(put3_kp w g' x y z g hne).trans h.blk⟩
def AddPure (b : Bool) (l0 l1 l2 seq : List Int) : List Int × List Int × List Int := ((placeP (if b then l0 else []) seq).1, (if b then l1 else []) ++ [(placeP (if b then l0 else []) seq).2], (if b then l2 else []) ++ [(seq.length : Int)])
def Add41.T2 : Bool × List (List Nat × List Nat) := (true, [([], []), ([], []), ([1], [1]), ([2], [2]), ([3], [3]), ([0, 0], [0]), ([4, 5, 0, 1, 2, 3, 4, 5], [4])])
def Add41.B2 : List Nat := [0, 0, 2, 6, 14, 1, 63]
theorem Add41.tab2 : rtab .any (opsOf Try.f41 2) = Add41.T2 := by kernel_rfl
theorem Add41.bits2 : waitsOk Add41.T2.2 Add41.B2 = true := by kernel_rfl
set_option maxHeartbeats 4000000 in
set_option maxRecDepth 100000 in
theorem Add_calls (A0 : Option Addr) (c0 : Nat) (l0 : List Int) (A1 : Option Addr) (c1 : Nat) (l1 : List Int) (A2 : Option Addr) (c2 : Nat) (l2 : List Int) (A3 : Option Addr) (c3 : Nat) (seq : List Int) (k : Nat) (b : Bool) (w : World) (hr0 : Kd.C (Kd.int .i64) w A0 l0.length l0) (hc0 : l0.length ≤ c0) (hr1 : Kd.C (Kd.int .i64) w A1 l1.length l1) (hc1 : l1.length ≤ c1) (hr2 : Kd.C (Kd.int .i64) w A2 l2.length l2) (hc2 : l2.length ≤ c2) (hr3 : Kd.C (Kd.int .i64) w A3 seq.length seq) (hc3 : seq.length ≤ c3) (hb0 : l0.length ≤ 1000000000) (hb1 : l1.length ≤ 1000000000) (hb2 : l2.length ≤ 1000000000) (hb3 : seq.length ≤ 1000000000) (h : seqpool_Valid.f k l0 l1 l2 = some b) :
    Calls Try.prog 41 #[.agg #[.slice A0 l0.length c0, .slice A1 l1.length c1, .slice A2 l2.length c2], .slice A3 seq.length c3] w fun e w' => ∃ v0 v1 v2 : Value, e = .returned (.tuple #[.agg #[v0, v1, v2], .int .i64 ((AddPure b l0 l1 l2 seq).2.1.length - 1)]) ∧ RowsAt w' w.heap.size [(v0, (AddPure b l0 l1 l2 seq).1), (v1, (AddPure b l0 l1 l2 seq).2.1), (v2, (AddPure b l0 l1 l2 seq).2.2)] ∧ Below w.heap.size w w' := by
  have hu39 := Try.underlying39
  have HB := Aside0.mk (Below.refl w.heap.size w)
  have HS := Aside0.mk (Nat.le_refl w.heap.size)
  obtain ⟨m0, hm0⟩ : ∃ m, m = (if b then l0 else []) := ⟨_, rfl⟩
  obtain ⟨m1, hm1⟩ : ∃ m, m = (if b then l1 else []) := ⟨_, rfl⟩
  obtain ⟨m2, hm2⟩ : ∃ m, m = (if b then l2 else []) := ⟨_, rfl⟩
  obtain ⟨P, hP⟩ : ∃ P, P = placeP m0 seq := ⟨_, rfl⟩
  have fin : AddPure b l0 l1 l2 seq = (P.1, m1 ++ [P.2], m2 ++ [(seq.length : Int)]) := by rw [hP, hm0, hm1, hm2]; rfl
  have hl0 : m0.length ≤ 1000000000 := by rw [hm0]; cases b <;> first | exact hb0 | exact Nat.zero_le _
  have hl1 : m1.length ≤ 1000000000 := by rw [hm1]; cases b <;> first | exact hb1 | exact Nat.zero_le _
  have hl2 : m2.length ≤ 1000000000 := by rw [hm2]; cases b <;> first | exact hb2 | exact Nat.zero_le _
  rw [fin]
  clear fin
  have HM0 := Aside0.mk hm0
  have HM1 := Aside0.mk hm1
  have HM2 := Aside0.mk hm2
  have HP := Aside0.mk hP
  clear hm0 hm1 hm2 hP
  have HOW := Aside0.mk (fun W a0 a1 a2 => own_calls k A0 c0 l0 A1 c1 l1 A2 c2 l2 b W a0 hc0 a1 hc1 a2 hc2 hb0 hb1 hb2 h)
  have HAD := Aside0.mk (fun W B A0 c0 A1 c1 A2 c2 hrs hr hB => add_calls B A0 c0 m0 A1 c1 m1 A2 c2 m2 A3 c3 seq W hrs hr hc3 hl0 hl1 hl2 hb3 hB)
  have HR0 := Aside0.mk hr0
  have HR1 := Aside0.mk hr1
  have HR2 := Aside0.mk hr2
  have HR3 := Aside0.mk hr3
  clear hr0 hr1 hr2 hr3 h
  go_enter Try.func41, Try.ntmps41
  go_wp2_with (first | ((with_reducible refine gate_dst (N := 2) rfl ?_); refine box_event ?hg (N := 2) ?hd (cs := #[.slice A0 l0.length c0, .slice A1 l1.length c1, .slice A2 l2.length c2]) (t := 39) ?hr ?_; (case hd => rfl); (case hg => rfl); (case hr => first | (go_simp; done) | (go_simp; rfl)); intro g1 hg w1 hbox hb; have BK1 := Aside0.mk (Blk3.mk hbox); have EG1 := Aside0.mk (show w.heap.size ≤ g1 by omega); have N_ := Aside0.mk (Kd.C_below HR0.out hb); clear HR0; have HR0 := N_; clear N_; have N_ := Aside0.mk (Kd.C_below HR1.out hb); clear HR1; have HR1 := N_; clear N_; have N_ := Aside0.mk (Kd.C_below HR2.out hb); clear HR2; have HR2 := N_; clear N_; have N_ := Aside0.mk (Kd.C_below HR3.out hb); clear HR3; have HR3 := N_; clear N_; have HS1 := Aside0.mk (show w.heap.size ≤ w1.heap.size by have := hb.size; have := HS.out; omega); have N_ := Aside0.mk (below_go HB.out HS.out hb); clear HB; have HB := N_; clear N_; clear HS; have HS := HS1; clear HS1; clear hg hbox hb) | ((with_reducible refine gate_dst (N := 4) rfl ?_); refine box_event ?hg (N := 4) ?hd (cs := #[.slice none 0 0, .slice none 0 0, .slice none 0 0]) (t := 39) ?hr ?_; (case hd => rfl); (case hg => rfl); (case hr => first | (go_simp; done) | (go_simp; rfl)); intro g2 hg w2 hbox hb; have BK2 := Aside0.mk (Blk3.mk hbox); have EG2 := Aside0.mk (show w.heap.size ≤ g2 by have := HS.out; omega); have N_ := Aside0.mk (BK1.out.below hb); clear BK1; have BK1 := N_; clear N_; have N_ := Aside0.mk (Kd.C_below HR0.out hb); clear HR0; have HR0 := N_; clear N_; have N_ := Aside0.mk (Kd.C_below HR1.out hb); clear HR1; have HR1 := N_; clear N_; have N_ := Aside0.mk (Kd.C_below HR2.out hb); clear HR2; have HR2 := N_; clear N_; have N_ := Aside0.mk (Kd.C_below HR3.out hb); clear HR3; have HR3 := N_; clear N_; have HS1 := Aside0.mk (show w.heap.size ≤ w2.heap.size by have := hb.size; have := HS.out; omega); have N_ := Aside0.mk (below_go HB.out HS.out hb); clear HB; have HB := N_; clear N_; clear HS; have HS := HS1; clear HS1; have z0 := BK1.out.c0; have z1 := BK1.out.c1; have z2 := BK1.out.c2; have fz0 := BK1.out.f 0; have fz1 := BK1.out.f 1; have fz2 := BK1.out.f 2; clear hg hbox hb) | (go_at_call 94; refine (HOW.out _ HR0.out HR1.out HR2.out).mono ?_; rintro e w3 ⟨v0, v1, v2, rfl, hR, hb⟩; obtain ⟨A4, q4, rfl⟩ := Kd.R_slice hR.1; obtain ⟨A5, q5, rfl⟩ := Kd.R_slice hR.2.1; obtain ⟨A6, q6, rfl⟩ := Kd.R_slice hR.2.2; have RS := Aside0.mk (RowsAt.of3 hR); have LT2 := Aside0.mk (blk_lt BK2.out.blk); have HS3 := Aside0.mk hb.size; have HS2 := HS; (rw [← HM0.out, ← HM1.out, ← HM2.out] at RS ⊢); have N_ := Aside0.mk (BK1.out.below hb); clear BK1; have BK1 := N_; clear N_; have N_ := Aside0.mk (BK2.out.below hb); clear BK2; have BK2 := N_; clear N_; have N_ := Aside0.mk (Kd.C_below HR0.out hb); clear HR0; have HR0 := N_; clear N_; have N_ := Aside0.mk (Kd.C_below HR1.out hb); clear HR1; have HR1 := N_; clear N_; have N_ := Aside0.mk (Kd.C_below HR2.out hb); clear HR2; have HR2 := N_; clear N_; have N_ := Aside0.mk (Kd.C_below HR3.out hb); clear HR3; have HR3 := N_; clear N_; have HS1 := Aside0.mk (show w.heap.size ≤ w3.heap.size by have := hb.size; have := HS.out; omega); have N_ := Aside0.mk (below_go HB.out HS.out hb); clear HB; have HB := N_; clear N_; clear HS; have HS := HS1; clear HS1; clear hb hR HOW; clear z0 z1 z2 fz0 fz1 fz2) | (go_at_call 93; refine (HAD.out _ _ _ _ _ _ _ _ RS.out HR3.out HS3.out).mono ?_; rintro e w4 ⟨u0, u1, u2, rfl, hrs, hb0⟩; (rw [← HP.out] at hrs); obtain ⟨A7, q7, e7⟩ := Kd.R_slice (hrs.row 0 _ _ rfl); obtain ⟨A8, q8, e8⟩ := Kd.R_slice (hrs.row 1 _ _ rfl); obtain ⟨A9, q9, e9⟩ := Kd.R_slice (hrs.row 2 _ _ rfl); subst e7 e8 e9; have BK2b := Aside0.mk (Blk3.mk ((hb0.block g2 LT2.out).trans BK2.out.blk)); clear BK2; have BK2 := BK2b; clear BK2b; clear RS; have RS := Aside0.mk (RowsAt.lower hrs HS2.out); have HS1 := Aside0.mk (show w.heap.size ≤ w4.heap.size by have := hb0.size; have := HS.out; omega); have N_ := Aside0.mk (HB.out.trans (hb0.mono HS2.out)); clear HB; have HB := N_; clear N_; clear BK1 hb0 hrs HAD HR0 HR1 HR2 HR3; clear HS; have HS := HS1; clear HS1) | ((with_reducible refine gate_dst (N := 6) rfl ?_); refine box_event ?hg (N := 6) ?hd (cs := #[.slice none 0 0, .slice none 0 0, .slice none 0 0]) (t := 39) ?hr ?_; (case hd => rfl); (case hg => rfl); (case hr => first | (go_simp; done) | (go_simp; rfl)); intro g3 hg w5 hbox hb; have BK3 := Aside0.mk (Blk3.mk hbox); have G23 := Aside0.mk (show g3 ≠ g2 by have := blk_lt BK2.out.blk; omega); have N_ := Aside0.mk (BK2.out.below hb); clear BK2; have BK2 := N_; clear N_; have EG3 := Aside0.mk (show w.heap.size ≤ g3 by have := HS.out; omega); have N_ := Aside0.mk (RS.out.below hb); clear RS; have RS := N_; clear N_; have HS1 := Aside0.mk (show w.heap.size ≤ w5.heap.size by have := hb.size; have := HS.out; omega); have N_ := Aside0.mk (below_go HB.out HS.out hb); clear HB; have HB := N_; clear N_; clear HS; have HS := HS1; clear HS1; have z0 := BK3.out.c0; have z1 := BK3.out.c1; have z2 := BK3.out.c2; have fz0 := BK3.out.f 0; have fz1 := BK3.out.f 1; have fz2 := BK3.out.f 2; clear hg hbox hb))
  rename_i K9 hK9
  clear z0 z1 z2 fz0 fz1 fz2
  have N1 := Aside0.mk (BK3.out.put (.slice A7 P.1.length q7) (.slice A8 (m1.length + 1) q8) (.slice A9 (m2.length + 1) q9)).drew
  have N2 := Aside0.mk (BK2.out.far (fun h => G23.out h.symm) (.slice A7 P.1.length q7) (.slice A8 (m1.length + 1) q8) (.slice A9 (m2.length + 1) q9)).drew
  have N3 := Aside0.mk (RS.out.put3 BK3.out (.slice A7 P.1.length q7) (.slice A8 (m1.length + 1) q8) (.slice A9 (m2.length + 1) q9)).drew
  have N4 := Aside0.mk (below_drewB (below_put3 HB.out EG3.out (.slice A7 P.1.length q7) (.slice A8 (m1.length + 1) q8) (.slice A9 (m2.length + 1) q9)))
  clear BK3 BK2 RS HB HS
  have BK3 := N1; have BK2 := N2; have RS := N3; have HB := N4
  clear N1 N2 N3 N4
  refine start_ (n := 7) (S := fun w' => w'.cell? ⟨g3, 0, none⟩ = some (.slice A7 P.1.length q7) ∧ w'.cell? ⟨g3, 1, none⟩ = some (.slice A8 (m1.length + 1) q8) ∧ w'.cell? ⟨g3, 2, none⟩ = some (.slice A9 (m2.length + 1) q9)) (ds := []) #[false, false, false, false, false, false, false] (by kernel_rfl) rfl rfl ⟨BK3.out.c0, BK3.out.c1, BK3.out.c2⟩ (fun hHeld => ?_)
  refine with_tabW Add41.tab2 Add41.bits2 (fun HT_ HW_ => ?_)
  generalize (((w5.setCell ⟨g3, 0, none⟩ (.slice A7 P.1.length q7)).setCell ⟨g3, 1, none⟩ (.slice A8 (m1.length + 1) q8)).setCell ⟨g3, 2, none⟩ (.slice A9 (m2.length + 1) q9)).drew = w6 at RS BK3 BK2 HB hHeld ⊢
  have z3 := BK2.out.c0
  have z4 := BK2.out.c1
  have z5 := BK2.out.c2
  have fz3 := BK2.out.f 0
  have fz4 := BK2.out.f 1
  have fz5 := BK2.out.f 2
  refine pure_ (i := 1) (N := some 12) (v := ?_) (a' := ?_) #[false, true, false, false, false, false, false] rfl rfl (any_of HT_.out (by kernel_rfl)) (fun _ _ _ h => h) (Or.inl ⟨by rfl, ?_⟩) ?_ ?_
  rotate_left
  · intro w'
    go_simp
    with_reducible rfl
  rotate_left
  · simp only [Act.put, List.setIfInBounds_toArray, List.set_cons_zero, List.set_cons_succ, i64_w, i32_w]
    rfl
  refine take_ (i := 0) (N := some 11) (v := ?_) (a' := ?_) #[true, true, false, false, false, false, false] rfl rfl (take_ofW HT_.out HW_.out (by kernel_rfl)) (fun _ _ _ h => h) (Or.inl ⟨by rfl, ?_⟩) hHeld ?_ ?_
  rotate_left
  · rintro w' ⟨s0, s1, s2⟩
    go_simp
    with_reducible rfl
  rotate_left
  · simp only [Act.put, List.setIfInBounds_toArray, List.set_cons_zero, List.set_cons_succ, i64_w, i32_w]
    rfl
  refine take_ (i := 2) (N := some 13) (v := ?_) (a' := ?_) #[true, true, true, false, false, false, false] rfl rfl (take_ofW HT_.out HW_.out (by kernel_rfl)) (fun _ _ _ h => h) (Or.inl ⟨by rfl, ?_⟩) hHeld ?_ ?_
  rotate_left
  · rintro w' ⟨s0, s1, s2⟩
    go_simp
    with_reducible rfl
  rotate_left
  · simp only [Act.put, List.setIfInBounds_toArray, List.set_cons_zero, List.set_cons_succ, i64_w, i32_w]
    rfl
  refine pure_ (i := 3) (N := some 14) (v := ?_) (a' := ?_) #[true, true, true, true, false, false, false] rfl rfl (any_of HT_.out (by kernel_rfl)) (fun _ _ _ h => h) (Or.inl ⟨by rfl, ?_⟩) ?_ ?_
  rotate_left
  · intro w'
    go_simp
    with_reducible rfl
  rotate_left
  · simp only [Act.put, List.setIfInBounds_toArray, List.set_cons_zero, List.set_cons_succ, i64_w, i32_w]
    rfl
  refine pure_ (i := 4) (N := some 15) (v := ?_) (a' := ?_) #[true, true, true, true, true, false, false] rfl rfl (any_of HT_.out (by kernel_rfl)) (fun _ _ _ h => h) (Or.inl ⟨by rfl, ?_⟩) ?_ ?_
  rotate_left
  · intro w'
    go_simp
    with_reducible rfl
  rotate_left
  · simp only [Act.put, List.setIfInBounds_toArray, List.set_cons_zero, List.set_cons_succ, i64_w, i32_w]
    rfl
  refine one_ (i := 5) (N := none) #[true, true, true, true, true, true, false] rfl rfl (one_of HT_.out (by kernel_rfl)) (by decide) (fun K hK => ?_)
  refine skip_ (w1 := ?_) (by rfl) rfl ?_ ?_
  rotate_left
  · go_simp
    rfl
  have N1 := Aside0.mk (BK2.out.put (.slice A7 P.1.length q7) (.slice A8 (m1.length + 1) q8) (.slice A9 (m2.length + 1) q9))
  have N2 := Aside0.mk (BK3.out.far G23.out (.slice A7 P.1.length q7) (.slice A8 (m1.length + 1) q8) (.slice A9 (m2.length + 1) q9))
  have N3 := Aside0.mk (RS.out.put3 BK2.out (.slice A7 P.1.length q7) (.slice A8 (m1.length + 1) q8) (.slice A9 (m2.length + 1) q9))
  have N4 := Aside0.mk (below_put3 HB.out EG2.out (.slice A7 P.1.length q7) (.slice A8 (m1.length + 1) q8) (.slice A9 (m2.length + 1) q9))
  clear BK3 BK2 RS HB z3 z4 z5 fz3 fz4 fz5
  have BK2 := N1; have BK3 := N2; have RS := N3; have HB := N4
  clear N1 N2 N3 N4
  refine hK.out _ _ ⟨BK3.out.c0, BK3.out.c1, BK3.out.c2⟩ (fun hHeld => ?_)
  clear hK K
  refine pure_ (i := 6) (N := some 5) (v := ?_) (a' := ?_) #[true, true, true, true, true, true, true] rfl rfl (any_of HT_.out (by kernel_rfl)) (fun _ _ _ h => h) (Or.inl ⟨by rfl, ?_⟩) ?_ ?_
  rotate_left
  · intro w'
    go_simp
    with_reducible rfl
  rotate_left
  · simp only [Act.put, List.setIfInBounds_toArray, List.set_cons_zero, List.set_cons_succ, i64_w, i32_w]
    rfl
  refine done_ (done_of HT_.out (by kernel_rfl)) ?_
  refine hK9 _ _ (wp_ret ?_)
  have z0 := BK2.out.c0; have z1 := BK2.out.c1; have z2 := BK2.out.c2
  refine bodyPost_ret (by simp [results, Try.results41, go_sem, z0, z1, z2]; rfl) rfl ?_
  have RS4 := RS.out
  simp only [List.length_append, List.length_cons, List.length_nil, Nat.zero_add] at RS4 ⊢
  refine ⟨_, _, _, ?_, RS4, HB.out⟩
  rw [w64 (x := (m1.length : Int)) (by omega) (by omega), show (((m1.length + 1 : Nat) : Int) - 1) = (m1.length : Int) by omega]
end Go.Proofs.Ytdlijioedokgjaa.Q

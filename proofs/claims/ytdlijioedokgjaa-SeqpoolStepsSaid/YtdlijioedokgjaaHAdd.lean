/- seqpool.add and Add by hand. (Written by a small program of this session.) -/
import Derived.Test.YtdlijioedokgjaaHOwn
namespace Go.Proofs.Ytdlijioedokgjaa.Q
open Go.RowKit Go.Proofs.YtdlijioedokgjaaW.PrintWords Go.Proofs.YtdlijioedokgjaaW.PrintLast Go.Proofs.YtdlijioedokgjaaW.PrintMore
set_option linter.unusedVariables false
set_option linter.unusedSimpArgs false

theorem place_rows {B : Nat} {rs : List (Value × List Int)} (A0 : Option Addr) (n0 c0 : Nat) (l : List Int) (A1 : Option Addr) (n1 c1 : Nat) (seq : List Int) (w : World) (hrs : RowsAt w B rs) (h0 : rs[0]? = some (.slice A0 n0 c0, l)) (hn1 : n1 = seq.length) (hr1 : Kd.C (Kd.int .i64) w A1 seq.length seq) (hc1 : seq.length ≤ c1) (hl : l.length ≤ 1000000000) (hs : seq.length ≤ 1000000000) (hB : B ≤ w.heap.size) :
    Calls Try.prog 128 #[.slice A0 n0 c0, .slice A1 n1 c1] w (fun e w' => ∃ A c, e = .returned (.tuple #[.slice A (placeP l seq).1.length c, .int .i64 (placeP l seq).2]) ∧ RowsAt w' B (rs.set 0 (.slice A (placeP l seq).1.length c, (placeP l seq).1)) ∧ Below w.heap.size w w') := by
  obtain ⟨hn0, hC, hc⟩ := (hrs.row 0 _ _ h0).read
  refine (place_calls A0 n0 c0 l A1 n1 c1 seq w hn0 hn1 hC hc hr1 hc1 hl hs).mono ?_
  rintro e w' (⟨h, rfl, hb⟩ | ⟨h, v, rfl, hv, hb⟩)
  · have e1 : placeP l seq = (l, occI l seq) := by unfold placeP; rw [if_pos h]
    rw [e1]
    refine ⟨A0, c0, rfl, ?_, hb⟩
    have e2 : rs.set 0 (.slice A0 l.length c0, l) = rs := by
      rw [hn0] at h0
      cases rs with
      | nil => cases h0
      | cons p ps => simp at h0; simp [h0]
    show RowsAt w' B (rs.set 0 (.slice A0 l.length c0, l))
    rw [e2]
    exact hrs.below hb
  · have e1 : placeP l seq = (l ++ seq.drop (ov l seq), (l.length : Int) - ov l seq) := by unfold placeP; rw [if_neg h]
    rw [e1]
    obtain ⟨A, c, rfl⟩ := Kd.R_slice hv
    exact ⟨A, c, rfl, hrs.fresh 0 hb hv hB, hb⟩
theorem RowsAt.two {W : World} {B : Nat} {a b c : Value × List Int} (h : RowsAt W B [a, b, c]) : RowsAt W B [a, b, c, (.slice none 0 0, []), (.slice none 0 0, [])] := by
  have ap : ∀ p : Value, Apart p (.slice none 0 0) := fun p k _ h2 => by simp [Value.ownBlock] at h2
  constructor
  · intro i v xs hi
    rcases i with _ | _ | _ | _ | _ | i
    · exact h.row 0 v xs hi
    · exact h.row 1 v xs hi
    · exact h.row 2 v xs hi
    · injection hi with e; injection e with e1 e2; subst e1 e2; exact Row.nil _ _
    · injection hi with e; injection e with e1 e2; subst e1 e2; exact Row.nil _ _
    · cases hi
  · intro i j p q hne hi hj
    rcases Nat.lt_or_ge i 3 with h1 | h1
    · rcases Nat.lt_or_ge j 3 with h2 | h2
      · refine h.apart i j p q hne ?_ ?_
        · rcases i with _ | _ | _ | i <;> first | exact hi | omega
        · rcases j with _ | _ | _ | j <;> first | exact hj | omega
      · have : q = (.slice none 0 0, []) := by
          rcases j with _ | _ | _ | _ | _ | j <;> first | omega | (injection hj with e; exact e.symm) | cases hj
        rw [this]; exact ap _
    · have : p = (.slice none 0 0, []) := by
        rcases i with _ | _ | _ | _ | _ | i <;> first | omega | (injection hi with e; exact e.symm) | cases hi
      rw [this]; exact (ap _).symm
theorem RowsAt.hd3 {W : World} {B : Nat} {a b c : Value × List Int} {rest : List (Value × List Int)} (h : RowsAt W B (a :: b :: c :: rest)) : RowsAt W B [a, b, c] := by
  refine h.sub id (fun _ _ h => h) (fun i p hi => ?_)
  rcases i with _ | _ | _ | i <;> first | exact hi | cases hi
theorem RowsAt.alloc {W : World} {B : Nat} {rs : List (Value × List Int)} (h : RowsAt W B rs) (o : Obj) : RowsAt (W.alloc o) B rs := h.below (below_alloc (Below.refl _ _) o)
theorem Blk3.alloc {w : World} {g : Nat} {a b c : Value} (h : Blk3 w g a b c) (o : Obj) : Blk3 (w.alloc o) g a b c := ⟨blk_alloc h.blk o⟩
theorem size_alloc {W : World} {B : Nat} (h : B ≤ W.heap.size) (o : Obj) : B ≤ (W.alloc o).heap.size := Nat.le_trans h (below_alloc (Below.refl W.heap.size W) o).size
theorem size_drew {W : World} {B : Nat} (h : B ≤ W.heap.size) : B ≤ W.drew.heap.size := h
theorem blk_at (W : World) (o : Obj) (k : Nat) (hk : k = W.heap.size) : (W.alloc o).heap[k]? = some o := by rw [hk]; exact alloc_at W o
theorem below_allocB {B : Nat} {w W : World} (h : Below B w W) (hB : B ≤ W.heap.size) (o : Obj) : Below B w (W.alloc o) := h.alloc hB o
theorem C_cell1 {W : World} {k : Nat} {x : Int} (h : W.heap[k]? = some (.cells #[.int .i64 x] 3 (0, 0))) : Kd.C (Kd.int .i64) W (some ⟨k, 0, none⟩) 1 [x] := by
  refine ⟨rfl, by simp, fun _ => ⟨_, rfl, fun j y hj => ?_⟩⟩
  rcases j with _ | j
  · injection hj with e
    subst e
    refine ⟨[.int .i64 x], rfl, rfl, fun i u hi => ?_⟩
    rcases i with _ | i
    · injection hi with e; subst e; exact (blk_cell h 0).trans rfl
    · cases hi
  · cases hj
theorem below_drewB {B : Nat} {w W : World} (h : Below B w W) : Below B w W.drew := ⟨h.os, h.tape, h.output, h.size, h.block⟩
def AddPost (B : Nat) (l0 l1 l2 seq : List Int) (w : World) (e : Ending) (w' : World) : Prop :=
  ∃ u0 u1 u2, e = .returned (.agg #[u0, u1, u2]) ∧ RowsAt w' B [(u0, (placeP l0 seq).1), (u1, l1 ++ [(placeP l0 seq).2]), (u2, l2 ++ [(seq.length : Int)])] ∧ Below B w w'
theorem below_put3B {B : Nat} {w W : World} {g : Nat} (h : Below B w W) (hg : B ≤ g) (x y z : Value) : Below B w (((W.setCell ⟨g, 0, none⟩ x).setCell ⟨g, 1, none⟩ y).setCell ⟨g, 2, none⟩ z) :=
  ((h.setCell hg _).setCell hg _).setCell hg _
theorem below_go {B : Nat} {w W W2 : World} (h : Below B w W) (hB : B ≤ W.heap.size) (k : Below W.heap.size W W2) : Below B w W2 := h.trans (k.mono hB)

def add93.T2 : Bool × List (List Nat × List Nat) := (true, [([], []), ([], []), ([1], [1]), ([], []), ([3], [3]), ([2, 4], [2, 4]), ([], []), ([6], [6]), ([], []), ([8], [8]), ([9], [9]), ([7, 10, 5], [7, 10]), ([0, 5, 11], [0, 5, 11]), ([12, 11, 0, 1, 2, 3, 4, 5, 6, 7, 8, 9, 10, 11, 12], [12])])
def add93.B2 : List Nat := [0, 0, 2, 0, 8, 30, 0, 64, 0, 256, 768, 2046, 4095, 8191]
theorem add93.tab2 : rtab .any (opsOf Try.f93 2) = add93.T2 := by kernel_rfl
theorem add93.bits2 : waitsOk add93.T2.2 add93.B2 = true := by kernel_rfl
set_option maxHeartbeats 4000000 in
set_option maxRecDepth 100000 in
theorem add_calls (B : Nat) (A0 : Option Addr) (c0 : Nat) (l0 : List Int) (A1 : Option Addr) (c1 : Nat) (l1 : List Int) (A2 : Option Addr) (c2 : Nat) (l2 : List Int) (A3 : Option Addr) (c3 : Nat) (seq : List Int) (w : World) (hrs : RowsAt w B [(.slice A0 l0.length c0, l0), (.slice A1 l1.length c1, l1), (.slice A2 l2.length c2, l2)]) (hr3 : Kd.C (Kd.int .i64) w A3 seq.length seq) (hc3 : seq.length ≤ c3) (hb0 : l0.length ≤ 1000000000) (hb1 : l1.length ≤ 1000000000) (hb2 : l2.length ≤ 1000000000) (hb3 : seq.length ≤ 1000000000) (hB : B ≤ w.heap.size) :
    Calls Try.prog 93 #[.agg #[.slice A0 l0.length c0, .slice A1 l1.length c1, .slice A2 l2.length c2], .slice A3 seq.length c3] w (AddPost B l0 l1 l2 seq w) := by
  have hu39 := Try.underlying39
  have RS := Aside0.mk hrs.two
  have HR3 := Aside0.mk hr3
  have HB := Aside0.mk (Below.refl B w)
  clear hrs hr3
  obtain ⟨P, hP⟩ : ∃ P, P = placeP l0 seq := ⟨_, rfl⟩
  have HP := Aside0.mk hP
  have HPL := Aside0.mk (fun W rs (hrs : RowsAt W B rs) h0 hr1 hB => place_rows A0 l0.length c0 l0 A3 seq.length c3 seq W hrs h0 rfl hr1 hc3 hb0 hb3 hB)
  clear hP
  go_enter Try.func93, Try.ntmps93
  go_wp2_with (first | ((with_reducible refine gate_dst (N := 2) rfl ?_); refine box_event ?hg (N := 2) ?hd (cs := #[.slice A0 l0.length c0, .slice A1 l1.length c1, .slice A2 l2.length c2]) (t := 39) ?hr ?_; (case hd => rfl); (case hg => rfl); (case hr => first | (go_simp; done) | (go_simp; rfl)); intro g1 hg w1 hbox hb; have BK1 := Aside0.mk (Blk3.mk hbox); have EG1 := Aside0.mk (show B ≤ g1 by omega); have HS := Aside0.mk hB; have N_ := Aside0.mk (RS.out.below hb); clear RS; have RS := N_; clear N_; have N_ := Aside0.mk (Kd.C_below HR3.out hb); clear HR3; have HR3 := N_; clear N_; have HS1 := Aside0.mk (show B ≤ w1.heap.size by have := hb.size; omega); have N_ := Aside0.mk (below_go HB.out HS.out hb); clear HB; have HB := N_; clear N_; clear HS; have HS := HS1; clear HS1; clear hg hbox hb) | ((with_reducible refine gate_dst (N := 4) rfl ?_); refine box_event ?hg (N := 4) ?hd (cs := #[.slice none 0 0, .slice none 0 0, .slice none 0 0]) (t := 39) ?hr ?_; (case hd => rfl); (case hg => rfl); (case hr => first | (go_simp; done) | (go_simp; rfl)); intro g2 hg w2 hbox hb; have BK2 := Aside0.mk (Blk3.mk hbox); have EG2 := Aside0.mk (show B ≤ g2 by have := HS.out; omega); have N_ := Aside0.mk (BK1.out.below hb); clear BK1; have BK1 := N_; clear N_; have N_ := Aside0.mk (RS.out.below hb); clear RS; have RS := N_; clear N_; have N_ := Aside0.mk (Kd.C_below HR3.out hb); clear HR3; have HR3 := N_; clear N_; have HS1 := Aside0.mk (show B ≤ w2.heap.size by have := hb.size; have := HS.out; omega); have N_ := Aside0.mk (below_go HB.out HS.out hb); clear HB; have HB := N_; clear N_; clear HS; have HS := HS1; clear HS1; have z0 := BK1.out.c0; have z1 := BK1.out.c1; have z2 := BK1.out.c2; have fz0 := BK1.out.f 0; have fz1 := BK1.out.f 1; have fz2 := BK1.out.f 2; clear hg hbox hb) | (go_at_call 128; refine (HPL.out _ _ RS.out rfl HR3.out HS.out).mono ?_; rintro e w3 ⟨A', c', rfl, hrs, hb⟩; (rw [← HP.out] at hrs ⊢); have N_ := Aside0.mk (BK1.out.below hb); clear BK1; have BK1 := N_; clear N_; have N_ := Aside0.mk (BK2.out.below hb); clear BK2; have BK2 := N_; clear N_; have N_ := Aside0.mk (hrs); clear RS; have RS := N_; clear N_; have HS1 := Aside0.mk (show B ≤ w3.heap.size by have := hb.size; have := HS.out; omega); have N_ := Aside0.mk (below_go HB.out HS.out hb); clear HB; have HB := N_; clear N_; clear HS; have HS := HS1; clear HS1; clear hb hrs HPL HR3; clear z0 z1 z2 fz0 fz1 fz2; have z0 := BK1.out.c0; have z1 := BK1.out.c1; have z2 := BK1.out.c2; have fz0 := BK1.out.f 0; have fz1 := BK1.out.f 1; have fz2 := BK1.out.f 2; have z3 := BK2.out.c0; have z4 := BK2.out.c1; have z5 := BK2.out.c2; have fz3 := BK2.out.f 0; have fz4 := BK2.out.f 1; have fz5 := BK2.out.f 2))
  rename_i K9 hK9
  have RS := Aside0.mk RS.out.drew
  have BK1 := Aside0.mk BK1.out.drew
  have BK2 := Aside0.mk BK2.out.drew
  have HB := Aside0.mk (below_drewB HB.out)
  have HS := Aside0.mk (size_drew HS.out)
  clear z0 z1 z2 z3 z4 z5 fz0 fz1 fz2 fz3 fz4 fz5
  refine start_ (n := 14) (S := fun w' => w'.cell? ⟨g1, 1, none⟩ = some (.slice A1 l1.length c1) ∧ w'.cell? ⟨g1, 2, none⟩ = some (.slice A2 l2.length c2)) (ds := [13]) #[false, false, false, false, false, false, false, false, false, false, false, false, false, false] (by kernel_rfl) rfl rfl ⟨BK1.out.c1, BK1.out.c2⟩ (fun hHeld => ?_)
  refine with_tabW add93.tab2 add93.bits2 (fun HT_ HW_ => ?_)
  generalize w3.drew = w4 at RS BK1 BK2 HB HS hHeld ⊢
  have z3 := BK2.out.c0
  have z4 := BK2.out.c1
  have z5 := BK2.out.c2
  have fz3 := BK2.out.f 0
  have fz4 := BK2.out.f 1
  have fz5 := BK2.out.f 2
  refine pure_ (i := 0) (N := some 14) (v := ?_) (a' := ?_) #[true, false, false, false, false, false, false, false, false, false, false, false, false, false] rfl rfl (any_of HT_.out (by kernel_rfl)) (fun _ _ _ h => h) (Or.inl ⟨by rfl, ?_⟩) ?_ ?_
  rotate_left
  · intro w'
    go_simp
    with_reducible rfl
  rotate_left
  · simp only [Act.put, List.setIfInBounds_toArray, List.set_cons_zero, List.set_cons_succ, i64_w, i32_w]
    rfl
  refine pure_ (i := 1) (N := some 15) (v := ?_) (a' := ?_) #[true, true, false, false, false, false, false, false, false, false, false, false, false, false] rfl rfl (any_of HT_.out (by kernel_rfl)) (fun _ _ _ h => h) (Or.inl ⟨by rfl, ?_⟩) ?_ ?_
  rotate_left
  · intro w'
    go_simp
    with_reducible rfl
  rotate_left
  · simp only [Act.put, List.setIfInBounds_toArray, List.set_cons_zero, List.set_cons_succ, i64_w, i32_w]
    rfl
  refine pure_ (i := 3) (N := some 17) (v := ?_) (a' := ?_) #[true, true, false, true, false, false, false, false, false, false, false, false, false, false] rfl rfl (any_of HT_.out (by kernel_rfl)) (fun _ _ _ h => h) (Or.inl ⟨by rfl, ?_⟩) ?_ ?_
  rotate_left
  · intro w'
    go_simp
    with_reducible rfl
  rotate_left
  · simp only [Act.put, List.setIfInBounds_toArray, List.set_cons_zero, List.set_cons_succ, i64_w, i32_w]
    rfl
  refine pure_ (i := 6) (N := some 20) (v := ?_) (a' := ?_) #[true, true, false, true, false, false, true, false, false, false, false, false, false, false] rfl rfl (any_of HT_.out (by kernel_rfl)) (fun _ _ _ h => h) (Or.inl ⟨by rfl, ?_⟩) ?_ ?_
  rotate_left
  · intro w'
    go_simp
    with_reducible rfl
  rotate_left
  · simp only [Act.put, List.setIfInBounds_toArray, List.set_cons_zero, List.set_cons_succ, i64_w, i32_w]
    rfl
  refine pure_ (i := 8) (N := some 22) (v := ?_) (a' := ?_) #[true, true, false, true, false, false, true, false, true, false, false, false, false, false] rfl rfl (any_of HT_.out (by kernel_rfl)) (fun _ _ _ h => h) (Or.inl ⟨by rfl, ?_⟩) ?_ ?_
  rotate_left
  · intro w'
    go_simp
    with_reducible rfl
  rotate_left
  · simp only [Act.put, List.setIfInBounds_toArray, List.set_cons_zero, List.set_cons_succ, i64_w, i32_w]
    rfl
  refine pure_ (i := 9) (N := some 23) (v := ?_) (a' := ?_) #[true, true, false, true, false, false, true, false, true, true, false, false, false, false] rfl rfl (any_of HT_.out (by kernel_rfl)) (fun _ _ _ h => h) (Or.inl ⟨by rfl, ?_⟩) ?_ ?_
  rotate_left
  · intro w'
    go_simp
    with_reducible rfl
  rotate_left
  · simp only [Act.put, List.setIfInBounds_toArray, List.set_cons_zero, List.set_cons_succ, i64_w, i32_w]
    rfl
  refine take_ (i := 2) (N := some 16) (v := ?_) (a' := ?_) #[true, true, true, true, false, false, true, false, true, true, false, false, false, false] rfl rfl (take_ofW HT_.out HW_.out (by kernel_rfl)) (fun _ _ _ h => h) (Or.inl ⟨by rfl, ?_⟩) hHeld ?_ ?_
  rotate_left
  · rintro w' ⟨s0, s1⟩
    go_simp
    with_reducible rfl
  rotate_left
  · simp only [Act.put, List.setIfInBounds_toArray, List.set_cons_zero, List.set_cons_succ, i64_w, i32_w]
    rfl
  refine take_ (i := 7) (N := some 21) (v := ?_) (a' := ?_) #[true, true, true, true, false, false, true, true, true, true, false, false, false, false] rfl rfl (take_ofW HT_.out HW_.out (by kernel_rfl)) (fun _ _ _ h => h) (Or.inl ⟨by rfl, ?_⟩) hHeld ?_ ?_
  rotate_left
  · rintro w' ⟨s0, s1⟩
    go_simp
    with_reducible rfl
  rotate_left
  · simp only [Act.put, List.setIfInBounds_toArray, List.set_cons_zero, List.set_cons_succ, i64_w, i32_w]
    rfl
  refine two_ (i := 4) (j := 10) (Ni := some 18) (Nj := some 24) #[true, true, true, true, true, false, true, true, true, true, false, false, false, false] #[true, true, true, true, false, false, true, true, true, true, true, false, false, false] rfl rfl rfl rfl (two_of HT_.out (by kernel_rfl)) (by decide) (by decide) (fun K hK => ?_) (fun K hK => ?_)
  · skip
    refine Kd.R_lit_step (Kd.int .i64) _ 3 ?hg (N := 18) ?hd (xs := [P.2]) (inner := [.int .i64 P.2]) (ok := fun _ => True) (okp := fun _ => True) ?hr ?hp (fun _ hk => hk) trivial (Below.refl _ _) (Nat.le_refl _) (by simp) ?_
    (case hd => rfl)
    (case hg => rfl)
    (case hr => first | (go_simp; done) | (go_simp; rfl))
    (case hp => exact (Reps.one (show Kd.M (Kd.int .i64) _ _ _ P.2 [.int .i64 P.2] from rfl) (Reps.none _ _)))
    intro v wn ho hb hg hat
    obtain ⟨At, ct, rfl⟩ := Kd.R_slice ho
    have NR := Aside0.mk (RowsAt.fresh RS.out 3 hb ho HS.out)
    have N1 := Aside0.mk (BK1.out.below hb)
    have N2 := Aside0.mk (BK2.out.below hb)
    have N3 := Aside0.mk (below_go HB.out HS.out hb)
    have N4 := Aside0.mk (show B ≤ wn.heap.size from Nat.le_trans HS.out hb.size)
    clear hb ho hg hat
    clear RS BK1 BK2 HB HS
    have RS := NR; have BK1 := N1; have BK2 := N2; have HB := N3; have HS := N4
    clear NR N1 N2 N3 N4 z3 z4 z5 fz3 fz4 fz5
    have z3 := BK2.out.c0
    have z4 := BK2.out.c1
    have z5 := BK2.out.c2
    have fz3 := BK2.out.f 0
    have fz4 := BK2.out.f 1
    have fz5 := BK2.out.f 2
    refine hK.out _ _ ⟨BK1.out.c1, BK1.out.c2⟩ (fun hHeld => ?_)
    clear hK K
    refine norm_ (a' := ?_) ?_ ?_
    rotate_left
    · show Act.put _ (some 18) _ = _
      simp only [Act.put, List.setIfInBounds_toArray, List.set_cons_zero, List.set_cons_succ, i64_w, i32_w]
      rfl
    refine two_ (i := 5) (j := 10) (Ni := some 19) (Nj := some 24) #[true, true, true, true, true, true, true, true, true, true, false, false, false, false] #[true, true, true, true, true, false, true, true, true, true, true, false, false, false] rfl rfl rfl rfl (two_of HT_.out (by kernel_rfl)) (by decide) (by decide) (fun K hK => ?_) (fun K hK => ?_)
    · skip
      refine Kd.R_append_rows_step (Kd.int .i64) (w0 := w) B (by rfl) (.tmp 16) (.tmp 18) 26 3 (.int .i64 0) 8 rfl Try.underlying26 info3 rfl (by decide) (by omega) (.slice A1 l1.length c1) l1 [P.2] _ _ _ (fun _ => True) (fun _ => False) rfl rfl (RS.out.row 1 _ _ rfl) (RS.out.row 3 _ _ rfl).read.2.1 (fun _ _ h => h) (fun _ h => h.elim) (fun _ _ => trivial) HB.out HS.out ?aL ?_
      (case aL => first | omega | (simp; omega))
      intro vn wn ho hb hg hat
      obtain ⟨Ant, cnt, rfl⟩ := Kd.R_slice ho
      have NR := Aside0.mk (RowsAt.grow RS.out 1 rfl hg ho hat)
      have N1 := Aside0.mk (BK1.out.grown hg ((RS.out.row 1 _ _ rfl).ne BK1.out.blk (by decide)))
      have N2 := Aside0.mk (BK2.out.grown hg ((RS.out.row 1 _ _ rfl).ne BK2.out.blk (by decide)))
      have N3 := Aside0.mk hb
      have N4 := Aside0.mk (show B ≤ wn.heap.size from Nat.le_trans HS.out hg.size)
      clear hb ho hg hat
      clear RS BK1 BK2 HB HS
      have RS := NR; have BK1 := N1; have BK2 := N2; have HB := N3; have HS := N4
      clear NR N1 N2 N3 N4 z3 z4 z5 fz3 fz4 fz5
      have z3 := BK2.out.c0
      have z4 := BK2.out.c1
      have z5 := BK2.out.c2
      have fz3 := BK2.out.f 0
      have fz4 := BK2.out.f 1
      have fz5 := BK2.out.f 2
      refine hK.out _ _ ⟨BK1.out.c1, BK1.out.c2⟩ (fun hHeld => ?_)
      clear hK K
      refine norm_ (a' := ?_) ?_ ?_
      rotate_left
      · show Act.put _ (some 19) _ = _
        simp only [Act.put, List.setIfInBounds_toArray, List.set_cons_zero, List.set_cons_succ, i64_w, i32_w]
        rfl
      refine one_ (i := 10) (N := some 24) #[true, true, true, true, true, true, true, true, true, true, true, false, false, false] rfl rfl (one_of HT_.out (by kernel_rfl)) (by decide) (fun K hK => ?_)
      refine Kd.R_lit_step (Kd.int .i64) _ 3 ?hg (N := 24) ?hd (xs := [(seq.length : Int)]) (inner := [.int .i64 (seq.length : Int)]) (ok := fun _ => True) (okp := fun _ => True) ?hr ?hp (fun _ hk => hk) trivial (Below.refl _ _) (Nat.le_refl _) (by simp) ?_
      (case hd => rfl)
      (case hg => rfl)
      (case hr => first | (go_simp; done) | (go_simp; rfl))
      (case hp => exact (Reps.one (show Kd.M (Kd.int .i64) _ _ _ (seq.length : Int) [.int .i64 (seq.length : Int)] from rfl) (Reps.none _ _)))
      intro v wn ho hb hg hat
      obtain ⟨As, cs, rfl⟩ := Kd.R_slice ho
      have NR := Aside0.mk (RowsAt.fresh RS.out 4 hb ho HS.out)
      have N1 := Aside0.mk (BK1.out.below hb)
      have N2 := Aside0.mk (BK2.out.below hb)
      have N3 := Aside0.mk (below_go HB.out HS.out hb)
      have N4 := Aside0.mk (show B ≤ wn.heap.size from Nat.le_trans HS.out hb.size)
      clear hb ho hg hat
      clear RS BK1 BK2 HB HS
      have RS := NR; have BK1 := N1; have BK2 := N2; have HB := N3; have HS := N4
      clear NR N1 N2 N3 N4 z3 z4 z5 fz3 fz4 fz5
      have z3 := BK2.out.c0
      have z4 := BK2.out.c1
      have z5 := BK2.out.c2
      have fz3 := BK2.out.f 0
      have fz4 := BK2.out.f 1
      have fz5 := BK2.out.f 2
      refine hK.out _ _ ⟨BK1.out.c1, BK1.out.c2⟩ (fun hHeld => ?_)
      clear hK K
      refine norm_ (a' := ?_) ?_ ?_
      rotate_left
      · show Act.put _ (some 24) _ = _
        simp only [Act.put, List.setIfInBounds_toArray, List.set_cons_zero, List.set_cons_succ, i64_w, i32_w]
        rfl
      refine one_ (i := 11) (N := some 25) #[true, true, true, true, true, true, true, true, true, true, true, true, false, false] rfl rfl (one_of HT_.out (by kernel_rfl)) (by decide) (fun K hK => ?_)
      refine Kd.R_append_rows_step (Kd.int .i64) (w0 := w) B (by rfl) (.tmp 21) (.tmp 24) 26 3 (.int .i64 0) 8 rfl Try.underlying26 info3 rfl (by decide) (by omega) (.slice A2 l2.length c2) l2 [(seq.length : Int)] _ _ _ (fun _ => True) (fun _ => False) rfl rfl (RS.out.row 2 _ _ rfl) (RS.out.row 4 _ _ rfl).read.2.1 (fun _ _ h => h) (fun _ h => h.elim) (fun _ _ => trivial) HB.out HS.out ?aL ?_
      (case aL => first | omega | (simp; omega))
      intro vn wn ho hb hg hat
      obtain ⟨Ans, cns, rfl⟩ := Kd.R_slice ho
      have NR := Aside0.mk (RowsAt.grow RS.out 2 rfl hg ho hat)
      have N1 := Aside0.mk (BK1.out.grown hg ((RS.out.row 2 _ _ rfl).ne BK1.out.blk (by decide)))
      have N2 := Aside0.mk (BK2.out.grown hg ((RS.out.row 2 _ _ rfl).ne BK2.out.blk (by decide)))
      have N3 := Aside0.mk hb
      have N4 := Aside0.mk (show B ≤ wn.heap.size from Nat.le_trans HS.out hg.size)
      clear hb ho hg hat
      clear RS BK1 BK2 HB HS
      have RS := NR; have BK1 := N1; have BK2 := N2; have HB := N3; have HS := N4
      clear NR N1 N2 N3 N4 z3 z4 z5 fz3 fz4 fz5
      have z3 := BK2.out.c0
      have z4 := BK2.out.c1
      have z5 := BK2.out.c2
      have fz3 := BK2.out.f 0
      have fz4 := BK2.out.f 1
      have fz5 := BK2.out.f 2
      refine hK.out _ _ ⟨BK1.out.c1, BK1.out.c2⟩ (fun hHeld => ?_)
      clear hK K
      refine norm_ (a' := ?_) ?_ ?_
      rotate_left
      · show Act.put _ (some 25) _ = _
        simp only [Act.put, List.setIfInBounds_toArray, List.set_cons_zero, List.set_cons_succ, i64_w, i32_w]
        rfl
      refine pure_ (i := 12) (N := some 26) (v := ?_) (a' := ?_) #[true, true, true, true, true, true, true, true, true, true, true, true, true, false] rfl rfl (any_of HT_.out (by kernel_rfl)) (fun _ _ _ h => h) (Or.inl ⟨by rfl, ?_⟩) ?_ ?_
      rotate_left
      · intro w'
        go_simp
        with_reducible rfl
      rotate_left
      · simp only [Act.put, List.setIfInBounds_toArray, List.set_cons_zero, List.set_cons_succ, i64_w, i32_w]
        rfl
      refine last_ (i := 13) (N := none) #[true, true, true, true, true, true, true, true, true, true, true, true, true, true] rfl rfl (one_of HT_.out (by kernel_rfl)) (by decide) (fun K hK => ?_)
      refine skip_ (w1 := ?_) (by rfl) rfl ?_ ?_
      rotate_left
      · go_simp
        rfl
      refine hK.out _ _ ?_
      clear hK K
      refine done_ (done_of HT_.out (by kernel_rfl)) ?_
      have HV1 : ∀ x y : Value, True := fun _ _ => trivial
      refine hK9 _ _ (wp_ret ?_)
      have BK3 := BK2.out.put (.slice A' P.1.length c') (.slice Ant (l1 ++ [P.2]).length cnt) (.slice Ans (l2 ++ [(seq.length : Int)]).length cns)
      have HB4 := below_put3B HB.out EG2.out (.slice A' P.1.length c') (.slice Ant (l1 ++ [P.2]).length cnt) (.slice Ans (l2 ++ [(seq.length : Int)]).length cns)
      have RS4 := (RS.out.put3 BK2.out (.slice A' P.1.length c') (.slice Ant (l1 ++ [P.2]).length cnt) (.slice Ans (l2 ++ [(seq.length : Int)]).length cns)).hd3
      simp only [List.length_append, List.length_cons, List.length_nil, Nat.zero_add] at BK3 HB4 RS4 ⊢
      clear z3 z4 z5 fz3 fz4 fz5
      have z0 := BK3.c0; have z1 := BK3.c1; have z2 := BK3.c2
      refine bodyPost_ret (by simp [results, Try.results93, go_sem, z0, z1, z2]; rfl) rfl ?_
      have HP2 := HP.out
      subst HP2
      exact ⟨_, _, _, rfl, RS4, HB4⟩
    · skip
      refine Kd.R_lit_step (Kd.int .i64) _ 3 ?hg (N := 24) ?hd (xs := [(seq.length : Int)]) (inner := [.int .i64 (seq.length : Int)]) (ok := fun _ => True) (okp := fun _ => True) ?hr ?hp (fun _ hk => hk) trivial (Below.refl _ _) (Nat.le_refl _) (by simp) ?_
      (case hd => rfl)
      (case hg => rfl)
      (case hr => first | (go_simp; done) | (go_simp; rfl))
      (case hp => exact (Reps.one (show Kd.M (Kd.int .i64) _ _ _ (seq.length : Int) [.int .i64 (seq.length : Int)] from rfl) (Reps.none _ _)))
      intro v wn ho hb hg hat
      obtain ⟨As, cs, rfl⟩ := Kd.R_slice ho
      have NR := Aside0.mk (RowsAt.fresh RS.out 4 hb ho HS.out)
      have N1 := Aside0.mk (BK1.out.below hb)
      have N2 := Aside0.mk (BK2.out.below hb)
      have N3 := Aside0.mk (below_go HB.out HS.out hb)
      have N4 := Aside0.mk (show B ≤ wn.heap.size from Nat.le_trans HS.out hb.size)
      clear hb ho hg hat
      clear RS BK1 BK2 HB HS
      have RS := NR; have BK1 := N1; have BK2 := N2; have HB := N3; have HS := N4
      clear NR N1 N2 N3 N4 z3 z4 z5 fz3 fz4 fz5
      have z3 := BK2.out.c0
      have z4 := BK2.out.c1
      have z5 := BK2.out.c2
      have fz3 := BK2.out.f 0
      have fz4 := BK2.out.f 1
      have fz5 := BK2.out.f 2
      refine hK.out _ _ ⟨BK1.out.c1, BK1.out.c2⟩ (fun hHeld => ?_)
      clear hK K
      refine norm_ (a' := ?_) ?_ ?_
      rotate_left
      · show Act.put _ (some 24) _ = _
        simp only [Act.put, List.setIfInBounds_toArray, List.set_cons_zero, List.set_cons_succ, i64_w, i32_w]
        rfl
      refine one_ (i := 5) (N := some 19) #[true, true, true, true, true, true, true, true, true, true, true, false, false, false] rfl rfl (one_of HT_.out (by kernel_rfl)) (by decide) (fun K hK => ?_)
      refine Kd.R_append_rows_step (Kd.int .i64) (w0 := w) B (by rfl) (.tmp 16) (.tmp 18) 26 3 (.int .i64 0) 8 rfl Try.underlying26 info3 rfl (by decide) (by omega) (.slice A1 l1.length c1) l1 [P.2] _ _ _ (fun _ => True) (fun _ => False) rfl rfl (RS.out.row 1 _ _ rfl) (RS.out.row 3 _ _ rfl).read.2.1 (fun _ _ h => h) (fun _ h => h.elim) (fun _ _ => trivial) HB.out HS.out ?aL ?_
      (case aL => first | omega | (simp; omega))
      intro vn wn ho hb hg hat
      obtain ⟨Ant, cnt, rfl⟩ := Kd.R_slice ho
      have NR := Aside0.mk (RowsAt.grow RS.out 1 rfl hg ho hat)
      have N1 := Aside0.mk (BK1.out.grown hg ((RS.out.row 1 _ _ rfl).ne BK1.out.blk (by decide)))
      have N2 := Aside0.mk (BK2.out.grown hg ((RS.out.row 1 _ _ rfl).ne BK2.out.blk (by decide)))
      have N3 := Aside0.mk hb
      have N4 := Aside0.mk (show B ≤ wn.heap.size from Nat.le_trans HS.out hg.size)
      clear hb ho hg hat
      clear RS BK1 BK2 HB HS
      have RS := NR; have BK1 := N1; have BK2 := N2; have HB := N3; have HS := N4
      clear NR N1 N2 N3 N4 z3 z4 z5 fz3 fz4 fz5
      have z3 := BK2.out.c0
      have z4 := BK2.out.c1
      have z5 := BK2.out.c2
      have fz3 := BK2.out.f 0
      have fz4 := BK2.out.f 1
      have fz5 := BK2.out.f 2
      refine hK.out _ _ ⟨BK1.out.c1, BK1.out.c2⟩ (fun hHeld => ?_)
      clear hK K
      refine norm_ (a' := ?_) ?_ ?_
      rotate_left
      · show Act.put _ (some 19) _ = _
        simp only [Act.put, List.setIfInBounds_toArray, List.set_cons_zero, List.set_cons_succ, i64_w, i32_w]
        rfl
      refine one_ (i := 11) (N := some 25) #[true, true, true, true, true, true, true, true, true, true, true, true, false, false] rfl rfl (one_of HT_.out (by kernel_rfl)) (by decide) (fun K hK => ?_)
      refine Kd.R_append_rows_step (Kd.int .i64) (w0 := w) B (by rfl) (.tmp 21) (.tmp 24) 26 3 (.int .i64 0) 8 rfl Try.underlying26 info3 rfl (by decide) (by omega) (.slice A2 l2.length c2) l2 [(seq.length : Int)] _ _ _ (fun _ => True) (fun _ => False) rfl rfl (RS.out.row 2 _ _ rfl) (RS.out.row 4 _ _ rfl).read.2.1 (fun _ _ h => h) (fun _ h => h.elim) (fun _ _ => trivial) HB.out HS.out ?aL ?_
      (case aL => first | omega | (simp; omega))
      intro vn wn ho hb hg hat
      obtain ⟨Ans, cns, rfl⟩ := Kd.R_slice ho
      have NR := Aside0.mk (RowsAt.grow RS.out 2 rfl hg ho hat)
      have N1 := Aside0.mk (BK1.out.grown hg ((RS.out.row 2 _ _ rfl).ne BK1.out.blk (by decide)))
      have N2 := Aside0.mk (BK2.out.grown hg ((RS.out.row 2 _ _ rfl).ne BK2.out.blk (by decide)))
      have N3 := Aside0.mk hb
      have N4 := Aside0.mk (show B ≤ wn.heap.size from Nat.le_trans HS.out hg.size)
      clear hb ho hg hat
      clear RS BK1 BK2 HB HS
      have RS := NR; have BK1 := N1; have BK2 := N2; have HB := N3; have HS := N4
      clear NR N1 N2 N3 N4 z3 z4 z5 fz3 fz4 fz5
      have z3 := BK2.out.c0
      have z4 := BK2.out.c1
      have z5 := BK2.out.c2
      have fz3 := BK2.out.f 0
      have fz4 := BK2.out.f 1
      have fz5 := BK2.out.f 2
      refine hK.out _ _ ⟨BK1.out.c1, BK1.out.c2⟩ (fun hHeld => ?_)
      clear hK K
      refine norm_ (a' := ?_) ?_ ?_
      rotate_left
      · show Act.put _ (some 25) _ = _
        simp only [Act.put, List.setIfInBounds_toArray, List.set_cons_zero, List.set_cons_succ, i64_w, i32_w]
        rfl
      refine pure_ (i := 12) (N := some 26) (v := ?_) (a' := ?_) #[true, true, true, true, true, true, true, true, true, true, true, true, true, false] rfl rfl (any_of HT_.out (by kernel_rfl)) (fun _ _ _ h => h) (Or.inl ⟨by rfl, ?_⟩) ?_ ?_
      rotate_left
      · intro w'
        go_simp
        with_reducible rfl
      rotate_left
      · simp only [Act.put, List.setIfInBounds_toArray, List.set_cons_zero, List.set_cons_succ, i64_w, i32_w]
        rfl
      refine last_ (i := 13) (N := none) #[true, true, true, true, true, true, true, true, true, true, true, true, true, true] rfl rfl (one_of HT_.out (by kernel_rfl)) (by decide) (fun K hK => ?_)
      refine skip_ (w1 := ?_) (by rfl) rfl ?_ ?_
      rotate_left
      · go_simp
        rfl
      refine hK.out _ _ ?_
      clear hK K
      refine done_ (done_of HT_.out (by kernel_rfl)) ?_
      have HV1 : ∀ x y : Value, True := fun _ _ => trivial
      refine hK9 _ _ (wp_ret ?_)
      have BK3 := BK2.out.put (.slice A' P.1.length c') (.slice Ant (l1 ++ [P.2]).length cnt) (.slice Ans (l2 ++ [(seq.length : Int)]).length cns)
      have HB4 := below_put3B HB.out EG2.out (.slice A' P.1.length c') (.slice Ant (l1 ++ [P.2]).length cnt) (.slice Ans (l2 ++ [(seq.length : Int)]).length cns)
      have RS4 := (RS.out.put3 BK2.out (.slice A' P.1.length c') (.slice Ant (l1 ++ [P.2]).length cnt) (.slice Ans (l2 ++ [(seq.length : Int)]).length cns)).hd3
      simp only [List.length_append, List.length_cons, List.length_nil, Nat.zero_add] at BK3 HB4 RS4 ⊢
      clear z3 z4 z5 fz3 fz4 fz5
      have z0 := BK3.c0; have z1 := BK3.c1; have z2 := BK3.c2
      refine bodyPost_ret (by simp [results, Try.results93, go_sem, z0, z1, z2]; rfl) rfl ?_
      have HP2 := HP.out
      subst HP2
      exact ⟨_, _, _, rfl, RS4, HB4⟩
  · skip
    refine Kd.R_lit_step (Kd.int .i64) _ 3 ?hg (N := 24) ?hd (xs := [(seq.length : Int)]) (inner := [.int .i64 (seq.length : Int)]) (ok := fun _ => True) (okp := fun _ => True) ?hr ?hp (fun _ hk => hk) trivial (Below.refl _ _) (Nat.le_refl _) (by simp) ?_
    (case hd => rfl)
    (case hg => rfl)
    (case hr => first | (go_simp; done) | (go_simp; rfl))
    (case hp => exact (Reps.one (show Kd.M (Kd.int .i64) _ _ _ (seq.length : Int) [.int .i64 (seq.length : Int)] from rfl) (Reps.none _ _)))
    intro v wn ho hb hg hat
    obtain ⟨As, cs, rfl⟩ := Kd.R_slice ho
    have NR := Aside0.mk (RowsAt.fresh RS.out 4 hb ho HS.out)
    have N1 := Aside0.mk (BK1.out.below hb)
    have N2 := Aside0.mk (BK2.out.below hb)
    have N3 := Aside0.mk (below_go HB.out HS.out hb)
    have N4 := Aside0.mk (show B ≤ wn.heap.size from Nat.le_trans HS.out hb.size)
    clear hb ho hg hat
    clear RS BK1 BK2 HB HS
    have RS := NR; have BK1 := N1; have BK2 := N2; have HB := N3; have HS := N4
    clear NR N1 N2 N3 N4 z3 z4 z5 fz3 fz4 fz5
    have z3 := BK2.out.c0
    have z4 := BK2.out.c1
    have z5 := BK2.out.c2
    have fz3 := BK2.out.f 0
    have fz4 := BK2.out.f 1
    have fz5 := BK2.out.f 2
    refine hK.out _ _ ⟨BK1.out.c1, BK1.out.c2⟩ (fun hHeld => ?_)
    clear hK K
    refine norm_ (a' := ?_) ?_ ?_
    rotate_left
    · show Act.put _ (some 24) _ = _
      simp only [Act.put, List.setIfInBounds_toArray, List.set_cons_zero, List.set_cons_succ, i64_w, i32_w]
      rfl
    refine one_ (i := 4) (N := some 18) #[true, true, true, true, true, false, true, true, true, true, true, false, false, false] rfl rfl (one_of HT_.out (by kernel_rfl)) (by decide) (fun K hK => ?_)
    refine Kd.R_lit_step (Kd.int .i64) _ 3 ?hg (N := 18) ?hd (xs := [P.2]) (inner := [.int .i64 P.2]) (ok := fun _ => True) (okp := fun _ => True) ?hr ?hp (fun _ hk => hk) trivial (Below.refl _ _) (Nat.le_refl _) (by simp) ?_
    (case hd => rfl)
    (case hg => rfl)
    (case hr => first | (go_simp; done) | (go_simp; rfl))
    (case hp => exact (Reps.one (show Kd.M (Kd.int .i64) _ _ _ P.2 [.int .i64 P.2] from rfl) (Reps.none _ _)))
    intro v wn ho hb hg hat
    obtain ⟨At, ct, rfl⟩ := Kd.R_slice ho
    have NR := Aside0.mk (RowsAt.fresh RS.out 3 hb ho HS.out)
    have N1 := Aside0.mk (BK1.out.below hb)
    have N2 := Aside0.mk (BK2.out.below hb)
    have N3 := Aside0.mk (below_go HB.out HS.out hb)
    have N4 := Aside0.mk (show B ≤ wn.heap.size from Nat.le_trans HS.out hb.size)
    clear hb ho hg hat
    clear RS BK1 BK2 HB HS
    have RS := NR; have BK1 := N1; have BK2 := N2; have HB := N3; have HS := N4
    clear NR N1 N2 N3 N4 z3 z4 z5 fz3 fz4 fz5
    have z3 := BK2.out.c0
    have z4 := BK2.out.c1
    have z5 := BK2.out.c2
    have fz3 := BK2.out.f 0
    have fz4 := BK2.out.f 1
    have fz5 := BK2.out.f 2
    refine hK.out _ _ ⟨BK1.out.c1, BK1.out.c2⟩ (fun hHeld => ?_)
    clear hK K
    refine norm_ (a' := ?_) ?_ ?_
    rotate_left
    · show Act.put _ (some 18) _ = _
      simp only [Act.put, List.setIfInBounds_toArray, List.set_cons_zero, List.set_cons_succ, i64_w, i32_w]
      rfl
    refine one_ (i := 5) (N := some 19) #[true, true, true, true, true, true, true, true, true, true, true, false, false, false] rfl rfl (one_of HT_.out (by kernel_rfl)) (by decide) (fun K hK => ?_)
    refine Kd.R_append_rows_step (Kd.int .i64) (w0 := w) B (by rfl) (.tmp 16) (.tmp 18) 26 3 (.int .i64 0) 8 rfl Try.underlying26 info3 rfl (by decide) (by omega) (.slice A1 l1.length c1) l1 [P.2] _ _ _ (fun _ => True) (fun _ => False) rfl rfl (RS.out.row 1 _ _ rfl) (RS.out.row 3 _ _ rfl).read.2.1 (fun _ _ h => h) (fun _ h => h.elim) (fun _ _ => trivial) HB.out HS.out ?aL ?_
    (case aL => first | omega | (simp; omega))
    intro vn wn ho hb hg hat
    obtain ⟨Ant, cnt, rfl⟩ := Kd.R_slice ho
    have NR := Aside0.mk (RowsAt.grow RS.out 1 rfl hg ho hat)
    have N1 := Aside0.mk (BK1.out.grown hg ((RS.out.row 1 _ _ rfl).ne BK1.out.blk (by decide)))
    have N2 := Aside0.mk (BK2.out.grown hg ((RS.out.row 1 _ _ rfl).ne BK2.out.blk (by decide)))
    have N3 := Aside0.mk hb
    have N4 := Aside0.mk (show B ≤ wn.heap.size from Nat.le_trans HS.out hg.size)
    clear hb ho hg hat
    clear RS BK1 BK2 HB HS
    have RS := NR; have BK1 := N1; have BK2 := N2; have HB := N3; have HS := N4
    clear NR N1 N2 N3 N4 z3 z4 z5 fz3 fz4 fz5
    have z3 := BK2.out.c0
    have z4 := BK2.out.c1
    have z5 := BK2.out.c2
    have fz3 := BK2.out.f 0
    have fz4 := BK2.out.f 1
    have fz5 := BK2.out.f 2
    refine hK.out _ _ ⟨BK1.out.c1, BK1.out.c2⟩ (fun hHeld => ?_)
    clear hK K
    refine norm_ (a' := ?_) ?_ ?_
    rotate_left
    · show Act.put _ (some 19) _ = _
      simp only [Act.put, List.setIfInBounds_toArray, List.set_cons_zero, List.set_cons_succ, i64_w, i32_w]
      rfl
    refine one_ (i := 11) (N := some 25) #[true, true, true, true, true, true, true, true, true, true, true, true, false, false] rfl rfl (one_of HT_.out (by kernel_rfl)) (by decide) (fun K hK => ?_)
    refine Kd.R_append_rows_step (Kd.int .i64) (w0 := w) B (by rfl) (.tmp 21) (.tmp 24) 26 3 (.int .i64 0) 8 rfl Try.underlying26 info3 rfl (by decide) (by omega) (.slice A2 l2.length c2) l2 [(seq.length : Int)] _ _ _ (fun _ => True) (fun _ => False) rfl rfl (RS.out.row 2 _ _ rfl) (RS.out.row 4 _ _ rfl).read.2.1 (fun _ _ h => h) (fun _ h => h.elim) (fun _ _ => trivial) HB.out HS.out ?aL ?_
    (case aL => first | omega | (simp; omega))
    intro vn wn ho hb hg hat
    obtain ⟨Ans, cns, rfl⟩ := Kd.R_slice ho
    have NR := Aside0.mk (RowsAt.grow RS.out 2 rfl hg ho hat)
    have N1 := Aside0.mk (BK1.out.grown hg ((RS.out.row 2 _ _ rfl).ne BK1.out.blk (by decide)))
    have N2 := Aside0.mk (BK2.out.grown hg ((RS.out.row 2 _ _ rfl).ne BK2.out.blk (by decide)))
    have N3 := Aside0.mk hb
    have N4 := Aside0.mk (show B ≤ wn.heap.size from Nat.le_trans HS.out hg.size)
    clear hb ho hg hat
    clear RS BK1 BK2 HB HS
    have RS := NR; have BK1 := N1; have BK2 := N2; have HB := N3; have HS := N4
    clear NR N1 N2 N3 N4 z3 z4 z5 fz3 fz4 fz5
    have z3 := BK2.out.c0
    have z4 := BK2.out.c1
    have z5 := BK2.out.c2
    have fz3 := BK2.out.f 0
    have fz4 := BK2.out.f 1
    have fz5 := BK2.out.f 2
    refine hK.out _ _ ⟨BK1.out.c1, BK1.out.c2⟩ (fun hHeld => ?_)
    clear hK K
    refine norm_ (a' := ?_) ?_ ?_
    rotate_left
    · show Act.put _ (some 25) _ = _
      simp only [Act.put, List.setIfInBounds_toArray, List.set_cons_zero, List.set_cons_succ, i64_w, i32_w]
      rfl
    refine pure_ (i := 12) (N := some 26) (v := ?_) (a' := ?_) #[true, true, true, true, true, true, true, true, true, true, true, true, true, false] rfl rfl (any_of HT_.out (by kernel_rfl)) (fun _ _ _ h => h) (Or.inl ⟨by rfl, ?_⟩) ?_ ?_
    rotate_left
    · intro w'
      go_simp
      with_reducible rfl
    rotate_left
    · simp only [Act.put, List.setIfInBounds_toArray, List.set_cons_zero, List.set_cons_succ, i64_w, i32_w]
      rfl
    refine last_ (i := 13) (N := none) #[true, true, true, true, true, true, true, true, true, true, true, true, true, true] rfl rfl (one_of HT_.out (by kernel_rfl)) (by decide) (fun K hK => ?_)
    refine skip_ (w1 := ?_) (by rfl) rfl ?_ ?_
    rotate_left
    · go_simp
      rfl
    refine hK.out _ _ ?_
    clear hK K
    refine done_ (done_of HT_.out (by kernel_rfl)) ?_
    have HV1 : ∀ x y : Value, True := fun _ _ => trivial
    refine hK9 _ _ (wp_ret ?_)
    have BK3 := BK2.out.put (.slice A' P.1.length c') (.slice Ant (l1 ++ [P.2]).length cnt) (.slice Ans (l2 ++ [(seq.length : Int)]).length cns)
    have HB4 := below_put3B HB.out EG2.out (.slice A' P.1.length c') (.slice Ant (l1 ++ [P.2]).length cnt) (.slice Ans (l2 ++ [(seq.length : Int)]).length cns)
    have RS4 := (RS.out.put3 BK2.out (.slice A' P.1.length c') (.slice Ant (l1 ++ [P.2]).length cnt) (.slice Ans (l2 ++ [(seq.length : Int)]).length cns)).hd3
    simp only [List.length_append, List.length_cons, List.length_nil, Nat.zero_add] at BK3 HB4 RS4 ⊢
    clear z3 z4 z5 fz3 fz4 fz5
    have z0 := BK3.c0; have z1 := BK3.c1; have z2 := BK3.c2
    refine bodyPost_ret (by simp [results, Try.results93, go_sem, z0, z1, z2]; rfl) rfl ?_
    have HP2 := HP.out
    subst HP2
    exact ⟨_, _, _, rfl, RS4, HB4⟩
end Go.Proofs.Ytdlijioedokgjaa.Q

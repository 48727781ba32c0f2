/- ref15.ReadPool by hand. (Printed by genrefpool.py.) -/
import Derived.Test.YtdlijioedokgjaaHReadPool
import Derived.Test.YtdlijioedokgjaaMRRead
import Derived.Test.YtdlijioedokgjaaMRef14
namespace Go.Proofs.Ytdlijioedokgjaa.Q
open Go.RowKit Go.Proofs.YtdlijioedokgjaaW.PrintWords Go.Proofs.YtdlijioedokgjaaW.PrintLast Go.Proofs.YtdlijioedokgjaaW.PrintMore
set_option linter.unusedVariables false
set_option linter.unusedSimpArgs false

theorem rdList_pos {s : ByteArray} {x : Int} (h0 : 0 ≤ x) (h1 : x ≤ s.size) {p : List Int × Int} (h : rdList s x = .ok p) : x ≤ p.2 ∧ p.2 ≤ s.size := by
  rw [rdList_L s x h0 h1] at h
  cases hr : rdListL ((bytesOf s).drop x.toNat) with
  | error c => rw [hr] at h; cases h
  | ok q =>
    rw [hr] at h
    injection h with h
    subst h
    have hc := rdListL_canon (fun b hb => bytesOf_range s b (List.mem_of_mem_drop hb)) hr
    have := congrArg List.length hc.2
    rw [List.length_append, List.length_drop, bytesOf_length] at this
    exact ⟨by simp only; omega, by simp only; omega⟩
/-- What ref15.ReadInts answers for the rest of a string. -/
def riOut (x : Int) : Except Int (List Int × Int) → List Int × Int × Int
  | .error c => ([], 0, c)
  | .ok p => (p.1, p.2 - x, 0)
theorem refInts_at (s : ByteArray) (hs : s.size ≤ 1099511627776) (x : Int) (h0 : 0 ≤ x) (h1 : x ≤ s.size) : EvR (fun K => unicodetextref15_ReadInts.f K (s.extract x.toNat s.size)) (riOut x (rdList s x)) := by
  have hb : bytesOf (s.extract x.toNat s.size) = (bytesOf s).drop x.toNat := by
    rw [bytesOf_extract, List.take_of_length_le (by rw [bytesOf_length]; omega)]
  have hz : (s.extract x.toNat s.size).size = s.size - x.toNat := by simp
  have h := RefReadInts_ev (s.extract x.toNat s.size) (by omega)
  rw [hb, hz] at h
  refine h.cast ?_
  rw [rdList_L s x h0 h1]
  cases rdListL ((bytesOf s).drop x.toNat) with
  | error c => rfl
  | ok q => simp only [rlOut, riOut, toPos]; congr 2; omega
theorem rdMany3 (s : ByteArray) (x : Int) : rdMany s (fun _ => 3) x = rdRest s 3 x [] := by
  rw [rdMany, rdRest]
  cases rdList s x <;> rfl
def rpOut (bd : ByteArray) : Except Int (List (List Int) × Int) → List Int × List Int × List Int × Int
  | .error c => ([], [], [], c)
  | .ok p => if p.2 < bd.size then ([], [], [], 2) else poolOf (p.1.getD 0 []) (p.1.getD 1 []) (p.1.getD 2 [])
theorem readPoolP_eq {a0 bd : ByteArray} {ec : Int} (h : openS a0 = (bd, ec)) : readPoolP a0 = if ec = 0 then rpOut bd (rdRest bd 3 0 []) else ([], [], [], ec) := by
  rw [readPoolP, unsealP, h]
  simp only
  by_cases he : ec = 0
  · rw [if_pos he, if_pos he, rdAll, rdMany3]
    cases rdRest bd 3 0 [] with
    | error c => rfl
    | ok p =>
      simp only [rpOut]
      by_cases hp : p.2 < (bd.size : Int)
      · rw [if_pos hp, if_pos hp]
      · rw [if_neg hp, if_neg hp]
  · rw [if_neg he, if_neg he]
def rr66.T16 : Bool × List (List Nat × List Nat) := (true, [([], []), ([0], [0]), ([1], [1]), ([], []), ([3], [3]), ([4], [4]), ([], []), ([6], [6]), ([7], [7]), ([2, 5, 8], [2, 5, 8]), ([], []), ([10, 9, 0, 1, 2, 3, 4, 5, 6, 7, 8, 9, 10], [9, 10])])
def rr66.B16 : List Nat := [0, 1, 3, 0, 8, 24, 0, 64, 192, 511, 0, 2047]
theorem rr66.tab16 : rtab .any (opsOf Try.f66 16) = rr66.T16 := by kernel_rfl
theorem rr66.bits16 : waitsOk rr66.T16.2 rr66.B16 = true := by kernel_rfl
set_option maxHeartbeats 4000000 in
set_option maxRecDepth 100000 in
theorem refReadPool_calls (a0 : ByteArray) (w : World) (hs : a0.size ≤ 1099511627776) : Calls Try.prog 66 #[.string a0] w (RPPost w (readPoolP a0)) := by
  have hu39 := Try.underlying39
  have HB := Aside0.mk (Below.refl w.heap.size w)
  obtain ⟨k, hk⟩ := (ref_Open_ev a0 (by omega)).exists_
  obtain ⟨bd, ec, hO⟩ : ∃ bd ec, openS a0 = (bd, ec) := ⟨_, _, rfl⟩
  have hbs : bd.size ≤ 1099511627776 := by
    have h1 : (openS a0).1.size ≤ a0.size := by
      unfold openS
      split
      · exact Nat.zero_le _
      · split
        · simp
        · exact Nat.zero_le _
    rw [hO] at h1; exact Nat.le_trans h1 hs
  rw [hO] at hk
  have HO := Aside0.mk hk
  obtain ⟨T, hT⟩ : ∃ T, T = readPoolP a0 := ⟨_, rfl⟩
  rw [← hT]
  rw [readPoolP_eq hO] at hT
  by_cases he : ec = 0
  · subst he
    rw [if_pos rfl] at hT
    obtain ⟨R, hR⟩ : ∃ R, rdRest bd 3 0 [] = R := ⟨_, rfl⟩
    rw [hR] at hT
    have HT := Aside0.mk hT
    have HR := Aside0.mk hR
    have HBS := Aside0.mk hbs
    clear hk hO hT hR hs hbs
    go_enter Try.func66, Try.ntmps66
    go_wp2_with (first | ((with_reducible refine gate_dst (N := 2) rfl ?_); refine box_event ?hg (N := 2) ?hd (cs := #[.slice none 0 0, .slice none 0 0, .slice none 0 0]) (t := 39) ?hr ?_; (case hd => rfl); (case hg => rfl); (case hr => first | (go_simp; done) | (go_simp; rfl)); intro g2 hg w1 hbox hb; have BK2 := Aside0.mk (Blk3.mk hbox); have EG2 := Aside0.mk (show w.heap.size ≤ g2 by omega); have N_ := Aside0.mk (below_step HB.out hb); clear HB; have HB := N_; clear N_; clear hg hbox hb) | (go_at_call 63; refine (unicodetextref15_Open.calls k a0 bd _ _ HO.out).mono ?_; rintro e w2 ⟨rfl, hb⟩; have N_ := Aside0.mk (BK2.out.below hb); clear BK2; have BK2 := N_; clear N_; have N_ := Aside0.mk (below_step HB.out hb); clear HB; have HB := N_; clear N_; clear hb; have z0 := BK2.out.c0; have z1 := BK2.out.c1; have z2 := BK2.out.c2; have fz0 := BK2.out.f 0; have fz1 := BK2.out.f 1; have fz2 := BK2.out.f 2))
    clear z0 z1 z2 fz0 fz1 fz2
    go_loopw [6, 7, 8] (fun v6 v7 v8 wr => ∃ (i x : Int) (ls : List (List Int)), v8 = .int .i64 i ∧ v7 = .int .i64 x ∧ Aside0 (0 ≤ i ∧ i ≤ 3) ∧ Aside0 (0 ≤ x ∧ x ≤ bd.size) ∧ Aside0 ((ls.length : Int) = i) ∧ Aside0 (LS wr w.heap.size v6 ls) ∧ Aside0 (Blk3 wr g2 (.slice none 0 0) (.slice none 0 0) (.slice none 0 0)) ∧ Aside0 (Below w.heap.size w wr) ∧ Aside0 (rdRest bd (3 - i).toNat x ls = R)) (fun _ _ v8 _ => (3 - intOf v8).toNat)
    case atStart => exact ⟨0, 0, [], rfl, rfl, ⟨by omega, by omega⟩, ⟨by omega, by omega⟩, ⟨rfl⟩, ⟨Kd.S_nil _ _ _ _ _⟩, ⟨BK2.out⟩, ⟨HB.out⟩, ⟨HR.out⟩⟩
    case round =>
      clear BK2 HB HR
      obtain ⟨i, x, ls, rfl, rfl, HI, HX, HLI, HLS, BK2, HB, HR⟩ := hrel
      by_cases hi : i < 3
      · have t1 : decide (i < 3) = true := decide_eq_true hi
        have hx := HX.out
        have b0 : decide (0 ≤ x) = true := decide_eq_true hx.1
        have b1 : decide (x ≤ (bd.size : Int)) = true := decide_eq_true hx.2
        have b2 := eq_true hx.1
        have b3 := eq_true hx.2
        obtain ⟨k2, hk2⟩ := (refInts_at bd HBS.out x hx.1 hx.2).exists_
        have hpos := fun p => rdList_pos (s := bd) (p := p) hx.1 hx.2
        obtain ⟨m, hm⟩ : ∃ m, (3 - i).toNat = m + 1 := ⟨(3 - i).toNat - 1, by have := HI.out; omega⟩
        have hrr := HR.out
        rw [hm, rdRest] at hrr
        cases hr : rdList bd x with
        | error c =>
          rw [hr] at hk2 hrr
          have hc0 := rdList_err bd x c hr
          have t2 : (c != 0) = true := by simp [hc0]
          have HC := Aside0.mk (fun W => unicodetextref15_ReadInts.calls k2 (bd.extract x.toNat bd.size) [] 0 c W hk2)
          have HE := Aside0.mk (show T = ([], [], [], c) by rw [HT.out, ← hrr]; rfl)
          clear hx hpos hm hrr hr hc0 hk2 hi
          go_wp2_with (first | (go_at_call 113; refine (HC.out _).mono ?_; rintro e w3 ⟨v9, rfl, hR9, hb⟩; obtain ⟨A9, c9, rfl⟩ := Kd.R_slice hR9; have N_ := Aside0.mk (BK2.out.below hb); clear BK2; have BK2 := N_; clear N_; have N_ := Aside0.mk (below_step HB.out hb); clear HB; have HB := N_; clear N_; clear hb hR9; (try clear z0 z1 z2 fz0 fz1 fz2); have z0 := BK2.out.c0; have z1 := BK2.out.c1; have z2 := BK2.out.c2; have fz0 := BK2.out.f 0; have fz1 := BK2.out.f 1; have fz2 := BK2.out.f 2))
          have N1 := BK2.out.put (.slice none 0 0) (.slice none 0 0) (.slice none 0 0)
          have N2 := below_put3 HB.out EG2.out (.slice none 0 0) (.slice none 0 0) (.slice none 0 0)
          clear z0 z1 z2 fz0 fz1 fz2
          have z0 := N1.c0
          have z1 := N1.c1
          have z2 := N1.c2
          refine bodyPost_ret (by simp [results, Try.results66, go_sem, z0, z1, z2]; rfl) rfl ?_
          rw [HE.out]
          exact ⟨_, _, _, rfl, R3.nil _ _, N2⟩
        | ok p =>
          obtain ⟨l, x2⟩ := p
          rw [hr] at hk2 hrr
          obtain ⟨p1, p2⟩ := hpos _ hr
          have e1 : wrap64 (x + (x2 - x)) = x2 := by unfold wrap64; have := HBS.out; simp only at p1 p2; omega
          have e2 : wrap64 (i + 1) = i + 1 := by unfold wrap64; have := HI.out; omega
          have HC := Aside0.mk (fun W => unicodetextref15_ReadInts.calls k2 (bd.extract x.toNat bd.size) l (x2 - x) 0 W hk2)
          have HRR := Aside0.mk (show rdRest bd (3 - (i + 1)).toNat x2 (ls ++ [l]) = R by rw [show (3 - (i + 1)).toNat = m by omega]; exact hrr)
          have HP2 := Aside0.mk (show 0 ≤ x2 ∧ x2 ≤ bd.size from ⟨Int.le_trans hx.1 p1, p2⟩)
          have HII := Aside0.mk (show 0 ≤ i + 1 ∧ i + 1 ≤ 3 by have := HI.out; omega)
          clear hx hpos hm hrr hr hk2 hi p1 p2
          go_wp2_with (first | (go_at_call 113; refine (HC.out _).mono ?_; rintro e w3 ⟨v9, rfl, hR9, hb⟩; obtain ⟨A9, c9, rfl⟩ := Kd.R_slice hR9; have HR9 := Aside0.mk hR9; have HSW := Aside0.mk (show w.heap.size ≤ wr.heap.size from HB.out.size); have HLT := Aside0.mk (Kd.S_lt HLS.out); have HO2 := Aside0.mk (Kd.S_below (Kd.S_mono (Kd.S_bound HLS.out) (fun k hk => (show True ∧ ¬ wr.heap.size ≤ k from ⟨trivial, by have := hk.2.2.1; omega⟩))) hb); have N_ := Aside0.mk (BK2.out.below hb); clear BK2; have BK2 := N_; clear N_; have N_ := Aside0.mk (below_step HB.out hb); clear HB; have HB := N_; clear N_; clear hb hR9) | ((with_reducible refine gate_builtin (b := .append) (xs := #[.tmp 38, .tmp 40]) rfl ?_); at_builtin; refine Kd.S_append (Kd.slice 3 (Kd.int .i64)) (w0 := w) w.heap.size rfl (.tmp 38) (.tmp 40) 35 26 (.slice none 0 0) 24 rfl Try.underlying35 info26 rfl (by decide) (by omega) u6 ls l [.slice A9 l.length c9] (fun _ => True) (fun k => wr.heap.size ≤ k) rfl rfl ?aP ?aK ?aF ?aO ?aB ?aS ?aL ?_; (case aP => exact ⟨_, rfl, Kd.R_lower (Kd.R_mono (Kd.R_bound HR9.out) (fun k hk => hk.2.1)) HSW.out⟩); (case aK => exact fun k hk => ⟨trivial, fun e => by have := HLT.out k e.symm; omega⟩); (case aF => exact fun _ _ => trivial); (case aO => exact HO2.out); (case aB => exact HB.out); (case aS => exact HB.out.size); (case aL => have h1 := HLI.out; have h2 := HI.out; omega); intro v2 w4 hS2 hb2 hg2 hat2; have N1 := Aside0.mk hS2; have N2 := Aside0.mk (BK2.out.grown hg2 (Kd.S_ne HO2.out BK2.out.blk (by decide))); have N3 := Aside0.mk hb2; clear BK2 HB hS2 hb2 hg2 hat2 HO2 HR9 HLT; have BK2 := N2; have HB := N3; have HLS2 := N1; clear N1 N2 N3))
          go_roundw
          case rel => exact ⟨i + 1, x2, ls ++ [l], (by rw [e2]), (by rw [e1]), HII, HP2, ⟨by rw [List.length_append, List.length_singleton]; have := HLI.out; omega⟩, HLS2, BK2, HB, HRR⟩
          case measure => simp [intOf]; have := HII.out; omega
      · have t1 : decide (i < 3) = false := decide_eq_false hi
        have hi3 : i = 3 := by have := HI.out; omega
        subst hi3
        have hl3 := HLI.out
        have hrr := HR.out
        obtain ⟨l0, l1, l2, rfl⟩ : ∃ l0 l1 l2, ls = [l0, l1, l2] := by
          rcases ls with _ | ⟨a, _ | ⟨b, _ | ⟨c, _ | ⟨d, t⟩⟩⟩⟩ <;> simp at hl3
          · exact ⟨a, b, c, rfl⟩
          · omega
        rw [show (3 - 3 : Int).toNat = 0 from rfl, rdRest] at hrr
        have z0 := BK2.out.c0
        have z1 := BK2.out.c1
        have z2 := BK2.out.c2
        have fz0 := BK2.out.f 0
        have fz1 := BK2.out.f 1
        have fz2 := BK2.out.f 2
        by_cases hx : x < (bd.size : Int)
        · have t2 : decide (x < (bd.size : Int)) = true := decide_eq_true hx
          have HE := Aside0.mk (show T = ([], [], [], 2) by rw [HT.out, ← hrr]; simp only [rpOut]; rw [if_pos hx])
          clear hi hl3 hrr hx
          go_wp2
          have N1 := BK2.out.put (.slice none 0 0) (.slice none 0 0) (.slice none 0 0)
          have N2 := below_put3 HB.out EG2.out (.slice none 0 0) (.slice none 0 0) (.slice none 0 0)
          clear z0 z1 z2 fz0 fz1 fz2
          have z0 := N1.c0
          have z1 := N1.c1
          have z2 := N1.c2
          refine bodyPost_ret (by simp [results, Try.results66, go_sem, z0, z1, z2]; rfl) rfl ?_
          rw [HE.out]
          exact ⟨_, _, _, rfl, R3.nil _ _, N2⟩
        · have t2 : decide (x < (bd.size : Int)) = false := decide_eq_false hx
          have HE := Aside0.mk (show T = poolOf l0 l1 l2 by rw [HT.out, ← hrr]; simp only [rpOut]; rw [if_neg hx]; rfl)
          clear hi hl3 hrr hx z0 z1 z2 fz0 fz1 fz2
          obtain ⟨b, hb⟩ : ∃ b, validB l0 l1 l2 = b := ⟨_, rfl⟩
          have HVB := Aside0.mk hb
          have HT2 := Aside0.mk (show T = if b = true then (l0, l1, l2, 0) else ([], [], [], 11) by rw [HE.out, poolOf, hb])
          clear hb
          obtain ⟨A, c, e3⟩ := LS.form HLS.out
          obtain rfl : u6 = .slice A 3 c := e3
          obtain ⟨gv, A0, q0, A1, q1, A2, q2, rfl, e4, hz0, hz1, hz2, hR⟩ := LS.three HLS.out
          have HL := Aside0.mk hR
          have HZ := Aside0.mk (And.intro hz0 (And.intro hz1 hz2))
          clear hz0 hz1 hz2 hR HLS
          (try clear e4)
          go_wp2
          rename_i K9 hK9
          have HL := Aside0.mk (R3.below HL.out (below_drew1 (Below.refl _ _)))
          have BK2 := Aside0.mk BK2.out.drew
          have HB := Aside0.mk (below_drew1 HB.out)
          have HZ := Aside0.mk (show wr.drew.cell? ⟨gv, 0, none⟩ = some (.slice A0 l0.length q0) ∧ wr.drew.cell? ⟨gv, 1, none⟩ = some (.slice A1 l1.length q1) ∧ wr.drew.cell? ⟨gv, 2, none⟩ = some (.slice A2 l2.length q2) from HZ.out)
          refine start_ (n := 12) (S := fun w' => w'.cell? ⟨gv, 0, none⟩ = some (.slice A0 l0.length q0) ∧ w'.cell? ⟨gv, 1, none⟩ = some (.slice A1 l1.length q1) ∧ w'.cell? ⟨gv, 2, none⟩ = some (.slice A2 l2.length q2)) (ds := [11]) #[false, false, false, false, false, false, false, false, false, false, false, false] (by kernel_rfl) rfl rfl ⟨HZ.out.1, HZ.out.2.1, HZ.out.2.2⟩ (fun hHeld => ?_)
          refine with_tabW rr66.tab16 rr66.bits16 (fun HT_ HW_ => ?_)
          generalize wr.drew = w4 at HL BK2 HB HZ hHeld ⊢
          refine pure_ (i := 0) (N := some 50) (v := ?_) (a' := ?_) #[true, false, false, false, false, false, false, false, false, false, false, false] rfl rfl (any_of HT_.out (by kernel_rfl)) (fun _ _ _ h => h) (Or.inl ⟨by rfl, ?_⟩) ?_ ?_
          rotate_left
          · intro w'
            go_simp
            with_reducible rfl
          rotate_left
          · simp only [Act.put, List.setIfInBounds_toArray, List.set_cons_zero, List.set_cons_succ, i64_w, i32_w]
            rfl
          refine pure_ (i := 1) (N := some 51) (v := ?_) (a' := ?_) #[true, true, false, false, false, false, false, false, false, false, false, false] rfl rfl (any_of HT_.out (by kernel_rfl)) (fun _ _ _ h => h) (Or.inl ⟨by rfl, ?_⟩) ?_ ?_
          rotate_left
          · intro w'
            go_simp
            with_reducible rfl
          rotate_left
          · simp only [Act.put, List.setIfInBounds_toArray, List.set_cons_zero, List.set_cons_succ, i64_w, i32_w]
            rfl
          refine pure_ (i := 3) (N := some 53) (v := ?_) (a' := ?_) #[true, true, false, true, false, false, false, false, false, false, false, false] rfl rfl (any_of HT_.out (by kernel_rfl)) (fun _ _ _ h => h) (Or.inl ⟨by rfl, ?_⟩) ?_ ?_
          rotate_left
          · intro w'
            go_simp
            with_reducible rfl
          rotate_left
          · simp only [Act.put, List.setIfInBounds_toArray, List.set_cons_zero, List.set_cons_succ, i64_w, i32_w]
            rfl
          refine pure_ (i := 4) (N := some 54) (v := ?_) (a' := ?_) #[true, true, false, true, true, false, false, false, false, false, false, false] rfl rfl (any_of HT_.out (by kernel_rfl)) (fun _ _ _ h => h) (Or.inl ⟨by rfl, ?_⟩) ?_ ?_
          rotate_left
          · intro w'
            go_simp
            with_reducible rfl
          rotate_left
          · simp only [Act.put, List.setIfInBounds_toArray, List.set_cons_zero, List.set_cons_succ, i64_w, i32_w]
            rfl
          refine pure_ (i := 6) (N := some 56) (v := ?_) (a' := ?_) #[true, true, false, true, true, false, true, false, false, false, false, false] rfl rfl (any_of HT_.out (by kernel_rfl)) (fun _ _ _ h => h) (Or.inl ⟨by rfl, ?_⟩) ?_ ?_
          rotate_left
          · intro w'
            go_simp
            with_reducible rfl
          rotate_left
          · simp only [Act.put, List.setIfInBounds_toArray, List.set_cons_zero, List.set_cons_succ, i64_w, i32_w]
            rfl
          refine pure_ (i := 7) (N := some 57) (v := ?_) (a' := ?_) #[true, true, false, true, true, false, true, true, false, false, false, false] rfl rfl (any_of HT_.out (by kernel_rfl)) (fun _ _ _ h => h) (Or.inl ⟨by rfl, ?_⟩) ?_ ?_
          rotate_left
          · intro w'
            go_simp
            with_reducible rfl
          rotate_left
          · simp only [Act.put, List.setIfInBounds_toArray, List.set_cons_zero, List.set_cons_succ, i64_w, i32_w]
            rfl
          refine take_ (i := 2) (N := some 52) (v := ?_) (a' := ?_) #[true, true, true, true, true, false, true, true, false, false, false, false] rfl rfl (take_ofW HT_.out HW_.out (by kernel_rfl)) (fun _ _ _ h => h) (Or.inl ⟨by rfl, ?_⟩) hHeld ?_ ?_
          rotate_left
          · rintro w' ⟨s0, s1, s2⟩
            go_simp
            with_reducible rfl
          rotate_left
          · simp only [Act.put, List.setIfInBounds_toArray, List.set_cons_zero, List.set_cons_succ, i64_w, i32_w]
            rfl
          refine take_ (i := 5) (N := some 55) (v := ?_) (a' := ?_) #[true, true, true, true, true, true, true, true, false, false, false, false] rfl rfl (take_ofW HT_.out HW_.out (by kernel_rfl)) (fun _ _ _ h => h) (Or.inl ⟨by rfl, ?_⟩) hHeld ?_ ?_
          rotate_left
          · rintro w' ⟨s0, s1, s2⟩
            go_simp
            with_reducible rfl
          rotate_left
          · simp only [Act.put, List.setIfInBounds_toArray, List.set_cons_zero, List.set_cons_succ, i64_w, i32_w]
            rfl
          refine take_ (i := 8) (N := some 58) (v := ?_) (a' := ?_) #[true, true, true, true, true, true, true, true, true, false, false, false] rfl rfl (take_ofW HT_.out HW_.out (by kernel_rfl)) (fun _ _ _ h => h) (Or.inl ⟨by rfl, ?_⟩) hHeld ?_ ?_
          rotate_left
          · rintro w' ⟨s0, s1, s2⟩
            go_simp
            with_reducible rfl
          rotate_left
          · simp only [Act.put, List.setIfInBounds_toArray, List.set_cons_zero, List.set_cons_succ, i64_w, i32_w]
            rfl
          refine pure_ (i := 9) (N := some 59) (v := ?_) (a' := ?_) #[true, true, true, true, true, true, true, true, true, true, false, false] rfl rfl (any_of HT_.out (by kernel_rfl)) (fun _ _ _ h => h) (Or.inl ⟨by rfl, ?_⟩) ?_ ?_
          rotate_left
          · intro w'
            go_simp
            with_reducible rfl
          rotate_left
          · simp only [Act.put, List.setIfInBounds_toArray, List.set_cons_zero, List.set_cons_succ, i64_w, i32_w]
            rfl
          refine one_ (i := 10) (N := some 12) #[true, true, true, true, true, true, true, true, true, true, true, false] rfl rfl (one_of HT_.out (by kernel_rfl)) (by decide) (fun K hK => ?_)
          refine event_step (v := .pointer (some ⟨w4.heap.size, 0, none⟩)) (w1 := w4.alloc (.cells #[.slice none 0 0, .slice none 0 0, .slice none 0 0] 39)) (by rfl) ?hr ?_
          (case hr => first | (go_simp; done) | (go_simp; rfl))
          have hb := below_alloc (Below.refl w4.heap.size w4) (.cells #[.slice none 0 0, .slice none 0 0, .slice none 0 0] 39)
          have N1 := Aside0.mk (R3.below HL.out hb)
          have N2 := Aside0.mk (BK2.out.below hb)
          have N4 := Aside0.mk (Blk3.mk (alloc_at w4 (.cells #[.slice none 0 0, .slice none 0 0, .slice none 0 0] 39)))
          have NE := Aside0.mk (show g2 ≠ w4.heap.size by have := blk_lt BK2.out.blk; omega)
          have EG6 := Aside0.mk (show w.heap.size ≤ w4.heap.size from HB.out.size)
          have N5 := HZ.out
          have N6 := World.block_lt_of_cell? w4 _ N5.1
          have N7 := World.block_lt_of_cell? w4 _ N5.2.1
          have N8 := World.block_lt_of_cell? w4 _ N5.2.2
          have HZ := Aside0.mk (And.intro ((World.cell?_of_block (hb.block _ N6)).trans N5.1) (And.intro ((World.cell?_of_block (hb.block _ N7)).trans N5.2.1) ((World.cell?_of_block (hb.block _ N8)).trans N5.2.2)))
          have N3 := Aside0.mk (below_step HB.out hb)
          clear HL BK2 HB N5 N6 N7 N8 hb
          have HL := N1; have BK2 := N2; have HB := N3; have BK6 := N4
          clear N1 N2 N3 N4
          generalize w4.heap.size = g6 at BK6 NE EG6 ⊢
          generalize w4.alloc (.cells #[.slice none 0 0, .slice none 0 0, .slice none 0 0] 39) = w5 at HL BK2 HB HZ BK6 ⊢
          have z0 := BK6.out.c0
          have z1 := BK6.out.c1
          have z2 := BK6.out.c2
          have fz0 := BK6.out.f 0
          have fz1 := BK6.out.f 1
          have fz2 := BK6.out.f 2
          refine hK.out _ _ ⟨HZ.out.1, HZ.out.2.1, HZ.out.2.2⟩ (fun hHeld => ?_)
          clear hK K
          refine norm_ (a' := ?_) ?_ ?_
          rotate_left
          · show Act.put _ (some 12) _ = _
            simp only [Act.put, List.setIfInBounds_toArray, List.set_cons_zero, List.set_cons_succ, i64_w, i32_w]
            rfl
          refine last_ (i := 11) (N := none) #[true, true, true, true, true, true, true, true, true, true, true, true] rfl rfl (one_of HT_.out (by kernel_rfl)) (by decide) (fun K hK => ?_)
          refine skip_ (w1 := ?_) (by rfl) rfl ?_ ?_
          rotate_left
          · go_simp
            rfl
          refine hK.out _ _ ?_
          clear hK K
          refine done_ (done_of HT_.out (by kernel_rfl)) ?_
          refine hK9 _ _ ?_
          have N1 := Aside0.mk (R3.put3 HL.out BK6.out (.slice A0 l0.length q0) (.slice A1 l1.length q1) (.slice A2 l2.length q2))
          have N2 := Aside0.mk (BK2.out.far3 NE.out (.slice A0 l0.length q0) (.slice A1 l1.length q1) (.slice A2 l2.length q2))
          have N3 := Aside0.mk (below_put3 HB.out EG6.out (.slice A0 l0.length q0) (.slice A1 l1.length q1) (.slice A2 l2.length q2))
          have N4 := Aside0.mk (BK6.out.put (.slice A0 l0.length q0) (.slice A1 l1.length q1) (.slice A2 l2.length q2))
          clear HL BK2 HB BK6 HZ z0 z1 z2 fz0 fz1 fz2
          have HL := N1; have BK2 := N2; have HB := N3; have BK6 := N4
          clear N1 N2 N3 N4
          generalize ((w5.setCell ⟨g6, 0, none⟩ (.slice A0 l0.length q0)).setCell ⟨g6, 1, none⟩ (.slice A1 l1.length q1)).setCell ⟨g6, 2, none⟩ (.slice A2 l2.length q2) = w6 at HL BK2 HB BK6 ⊢
          have z0 := BK6.out.c0
          have z1 := BK6.out.c1
          have z2 := BK6.out.c2
          have fz0 := BK6.out.f 0
          have fz1 := BK6.out.f 1
          have fz2 := BK6.out.f 2
          have ng := eq_false NE.out
          have ng2 := eq_false (Ne.symm NE.out)
          have h64a := Kd.C_max (Row.read (Row.of HL.out.1)).2.1
          have h64b := Kd.C_max (Row.read (Row.of HL.out.2.1)).2.1
          obtain ⟨k, hk⟩ := (RefValid_ev l0 l1 l2 (by omega) (by omega)).exists_
          rw [HVB.out] at hk
          have HV := Aside0.mk (fun W A0 q0 A1 q1 A2 q2 h0 k0 h1 k1 h2 k2 => unicodetextref14_Valid.calls k A0 q0 l0 A1 q1 l1 A2 q2 l2 b W h0 k0 h1 k1 h2 k2 hk)
          clear hk h64a h64b
          cases b with
          | false =>
            go_wp2_with (first | (go_at_call 60; refine (HV.out _ _ _ _ _ _ _ (Row.read (Row.of HL.out.1)).2.1 (Row.read (Row.of HL.out.1)).2.2 (Row.read (Row.of HL.out.2.1)).2.1 (Row.read (Row.of HL.out.2.1)).2.2 (Row.read (Row.of HL.out.2.2)).2.1 (Row.read (Row.of HL.out.2.2)).2.2).mono ?_; rintro e w7 ⟨rfl, hb⟩; have N1 := Aside0.mk (R3.below HL.out hb); have N2 := Aside0.mk (BK2.out.below hb); have N4 := Aside0.mk (BK6.out.below hb); have N3 := Aside0.mk (below_step HB.out hb); clear HL BK2 HB BK6 hb z0 z1 z2 fz0 fz1 fz2; have HL := N1; have BK2 := N2; have HB := N3; have BK6 := N4; clear N1 N2 N3 N4; have z0 := BK6.out.c0; have z1 := BK6.out.c1; have z2 := BK6.out.c2; have fz0 := BK6.out.f 0; have fz1 := BK6.out.f 1; have fz2 := BK6.out.f 2; have z3 := BK2.out.c0; have z4 := BK2.out.c1; have z5 := BK2.out.c2; have fz3 := BK2.out.f 0; have fz4 := BK2.out.f 1; have fz5 := BK2.out.f 2))
            have N1 := BK2.out.put (.slice none 0 0) (.slice none 0 0) (.slice none 0 0)
            have N2 := below_put3 HB.out EG2.out (.slice none 0 0) (.slice none 0 0) (.slice none 0 0)
            clear z0 z1 z2 z3 z4 z5 fz0 fz1 fz2 fz3 fz4 fz5
            have z0 := N1.c0
            have z1 := N1.c1
            have z2 := N1.c2
            refine bodyPost_ret (by simp [results, Try.results66, go_sem, z0, z1, z2]; rfl) rfl ?_
            rw [HT2.out]
            exact ⟨_, _, _, rfl, R3.nil _ _, N2⟩
          | true =>
            go_wp2_with (first | (go_at_call 60; refine (HV.out _ _ _ _ _ _ _ (Row.read (Row.of HL.out.1)).2.1 (Row.read (Row.of HL.out.1)).2.2 (Row.read (Row.of HL.out.2.1)).2.1 (Row.read (Row.of HL.out.2.1)).2.2 (Row.read (Row.of HL.out.2.2)).2.1 (Row.read (Row.of HL.out.2.2)).2.2).mono ?_; rintro e w7 ⟨rfl, hb⟩; have N1 := Aside0.mk (R3.below HL.out hb); have N2 := Aside0.mk (BK2.out.below hb); have N4 := Aside0.mk (BK6.out.below hb); have N3 := Aside0.mk (below_step HB.out hb); clear HL BK2 HB BK6 hb z0 z1 z2 fz0 fz1 fz2; have HL := N1; have BK2 := N2; have HB := N3; have BK6 := N4; clear N1 N2 N3 N4; have z0 := BK6.out.c0; have z1 := BK6.out.c1; have z2 := BK6.out.c2; have fz0 := BK6.out.f 0; have fz1 := BK6.out.f 1; have fz2 := BK6.out.f 2; have z3 := BK2.out.c0; have z4 := BK2.out.c1; have z5 := BK2.out.c2; have fz3 := BK2.out.f 0; have fz4 := BK2.out.f 1; have fz5 := BK2.out.f 2))
            have N1 := BK2.out.put (.slice A0 l0.length q0) (.slice A1 l1.length q1) (.slice A2 l2.length q2)
            have N2 := below_put3 HB.out EG2.out (.slice A0 l0.length q0) (.slice A1 l1.length q1) (.slice A2 l2.length q2)
            have N3 := R3.put3 HL.out BK2.out (.slice A0 l0.length q0) (.slice A1 l1.length q1) (.slice A2 l2.length q2)
            clear z0 z1 z2 z3 z4 z5 fz0 fz1 fz2 fz3 fz4 fz5
            have z0 := N1.c0
            have z1 := N1.c1
            have z2 := N1.c2
            refine bodyPost_ret (by simp [results, Try.results66, go_sem, z0, z1, z2]; rfl) rfl ?_
            rw [HT2.out]
            exact ⟨_, _, _, rfl, N3, N2⟩
  · rw [if_neg he] at hT
    have HE := Aside0.mk hT
    have t1 : (ec != 0) = true := by simp [he]
    clear hk hO hT hs hbs he
    go_enter Try.func66, Try.ntmps66
    go_wp2_with (first | ((with_reducible refine gate_dst (N := 2) rfl ?_); refine box_event ?hg (N := 2) ?hd (cs := #[.slice none 0 0, .slice none 0 0, .slice none 0 0]) (t := 39) ?hr ?_; (case hd => rfl); (case hg => rfl); (case hr => first | (go_simp; done) | (go_simp; rfl)); intro g2 hg w1 hbox hb; have BK2 := Aside0.mk (Blk3.mk hbox); have EG2 := Aside0.mk (show w.heap.size ≤ g2 by omega); have N_ := Aside0.mk (below_step HB.out hb); clear HB; have HB := N_; clear N_; clear hg hbox hb) | (go_at_call 63; refine (unicodetextref15_Open.calls k a0 bd _ _ HO.out).mono ?_; rintro e w2 ⟨rfl, hb⟩; have N_ := Aside0.mk (BK2.out.below hb); clear BK2; have BK2 := N_; clear N_; have N_ := Aside0.mk (below_step HB.out hb); clear HB; have HB := N_; clear N_; clear hb; have z0 := BK2.out.c0; have z1 := BK2.out.c1; have z2 := BK2.out.c2; have fz0 := BK2.out.f 0; have fz1 := BK2.out.f 1; have fz2 := BK2.out.f 2))
    have N1 := BK2.out.put (.slice none 0 0) (.slice none 0 0) (.slice none 0 0)
    have N2 := below_put3 HB.out EG2.out (.slice none 0 0) (.slice none 0 0) (.slice none 0 0)
    clear z0 z1 z2 fz0 fz1 fz2
    have z0 := N1.c0
    have z1 := N1.c1
    have z2 := N1.c2
    refine bodyPost_ret (by simp [results, Try.results66, go_sem, z0, z1, z2]; rfl) rfl ?_
    rw [HE.out]
    exact ⟨_, _, _, rfl, R3.nil _ _, N2⟩
def ref15_ReadPool.f (a0 : ByteArray) : Option (List Int × List Int × List Int × Int) := if a0.size ≤ 1099511627776 then some (readPoolP a0) else none
theorem ref15_ReadPool.calls (a0 : ByteArray) (r1 : List Int) (r2 : List Int) (r3 : List Int) (r4 : Int) (w : World) (h : ref15_ReadPool.f a0 = some (r1, r2, r3, r4)) :
    Calls Try.prog 66 #[.string a0] w fun e w' => ∃ v0_ v1_ v2_ : Value, e = .returned (.tuple #[.agg #[v0_, v1_, v2_], .int .i64 r4]) ∧ Kd.R (Kd.int .i64) 3 w' w.heap.size (fun k_ => some k_ ≠ (v1_ : Value).ownBlock ∧ some k_ ≠ (v2_ : Value).ownBlock) v0_ r1 ∧ Kd.R (Kd.int .i64) 3 w' w.heap.size (fun k_ => some k_ ≠ (v0_ : Value).ownBlock ∧ some k_ ≠ (v2_ : Value).ownBlock) v1_ r2 ∧ Kd.R (Kd.int .i64) 3 w' w.heap.size (fun k_ => some k_ ≠ (v0_ : Value).ownBlock ∧ some k_ ≠ (v1_ : Value).ownBlock) v2_ r3 ∧ Below w.heap.size w w' := by
  unfold ref15_ReadPool.f at h
  split at h
  · rename_i hs
    injection h with h
    refine (refReadPool_calls a0 w hs).mono ?_
    rintro e w' ⟨v0, v1, v2, rfl, hR, hb⟩
    rw [h] at hR ⊢
    exact ⟨v0, v1, v2, rfl, hR.1, hR.2.1, hR.2.2, hb⟩
  · cases h
end Go.Proofs.Ytdlijioedokgjaa.Q

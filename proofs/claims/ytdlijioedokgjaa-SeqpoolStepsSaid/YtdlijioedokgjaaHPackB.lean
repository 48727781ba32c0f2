/- seqpool.Pack by hand. -/
import Derived.Test.YtdlijioedokgjaaHAddB
namespace Go.Proofs.Ytdlijioedokgjaa.Q
open Go.RowKit Go.Proofs.YtdlijioedokgjaaW.PrintWords Go.Proofs.YtdlijioedokgjaaW.PrintLast Go.Proofs.YtdlijioedokgjaaW.PrintMore
set_option linter.unusedVariables false
set_option linter.unusedSimpArgs false

theorem rdP_eq (xs : List (List Int)) (i : Int) (h0 : 0 ≤ i) (h1 : i < xs.length) : rd_L2 xs i = xs[i.toNat]'(by omega) := by
  unfold rd_L2; rw [List.getD_eq_getElem?_getD, List.getElem?_eq_getElem (by omega)]; rfl
theorem drop_rdP (xs : List (List Int)) (i : Int) (h0 : 0 ≤ i) (h1 : i < xs.length) : xs.drop i.toNat = rd_L2 xs i :: xs.drop (i + 1).toNat := by
  rw [rdP_eq xs i h0 h1, show (i + 1).toNat = i.toNat + 1 by omega]
  exact List.drop_eq_getElem_cons (by omega)
abbrev Pl := List Int × List Int × List Int
def addP (st : Pl) (seq : List Int) : Pl := ((placeP st.1 seq).1, st.2.1 ++ [(placeP st.1 seq).2], st.2.2 ++ [(seq.length : Int)])
def packP (l : List (List Int)) : Pl := l.foldl addP ([], [], [])
def sumL : List (List Int) → Nat
  | [] => 0
  | x :: xs => x.length + sumL xs
theorem placeP_len (l seq : List Int) : (placeP l seq).1.length ≤ l.length + seq.length := by
  unfold placeP
  split
  · show l.length ≤ _
    omega
  · show (l ++ seq.drop (ov l seq)).length ≤ _
    rw [List.length_append, List.length_drop]
    omega
theorem put3_size {W : World} {B g : Nat} (h : B ≤ W.heap.size) (x y z : Value) : B ≤ (((W.setCell ⟨g, 0, none⟩ x).setCell ⟨g, 1, none⟩ y).setCell ⟨g, 2, none⟩ z).heap.size := by
  simpa [World.setCell] using h
/-- What holds at each round. -/
structure PackAt (w : World) (B g2 g3 : Nat) (l0 : List (List Int)) (x : Int) (w' : World) : Prop where
  ex : ∃ (P0 P1 P2 : List Int) (A7 : Option Addr) (q7 : Nat) (A8 : Option Addr) (q8 : Nat) (A9 : Option Addr) (q9 : Nat),
    (l0.drop x.toNat).foldl addP (P0, P1, P2) = packP l0 ∧ P0.length + sumL (l0.drop x.toNat) ≤ 1000000000 ∧ (P1.length : Int) = x ∧ (P2.length : Int) = x ∧
    Blk3 w' g3 (.slice A7 P0.length q7) (.slice A8 P1.length q8) (.slice A9 P2.length q9) ∧ RowsAt w' B [(.slice A7 P0.length q7, P0), (.slice A8 P1.length q8, P1), (.slice A9 P2.length q9, P2)]
  b2 : Blk3 w' g2 (.slice none 0 0) (.slice none 0 0) (.slice none 0 0)
  below : Below w.heap.size w w'
  size : B ≤ w'.heap.size
set_option maxHeartbeats 4000000 in
set_option maxRecDepth 100000 in
theorem Pack_calls (A0 : Option Addr) (c0 : Nat) (l0 : List (List Int)) (w : World) (hr0 : Kd.C (Kd.slice 3 (Kd.int .i64)) w A0 l0.length l0) (hc0 : l0.length ≤ c0) (hs : sumL l0 ≤ 1000000000) (hl : l0.length ≤ 1000000000) :
    Calls Try.prog 37 #[.slice A0 l0.length c0] w fun e w' => ∃ v0 v1 v2 : Value, e = .returned (.agg #[v0, v1, v2]) ∧ RowsAt w' w.heap.size [(v0, (packP l0).1), (v1, (packP l0).2.1), (v2, (packP l0).2.2)] ∧ Below w.heap.size w w' := by
  have hu39 := Try.underlying39
  have HR0 := Aside0.mk hr0
  clear hr0
  go_enter Try.func37, Try.ntmps37
  go_wp2_with (first | ((with_reducible refine gate_dst (N := 2) rfl ?_); refine box_event ?hg (N := 2) ?hd (cs := #[.slice none 0 0, .slice none 0 0, .slice none 0 0]) (t := 39) ?hr ?_; (case hd => rfl); (case hg => rfl); (case hr => first | (go_simp; done) | (go_simp; rfl)); intro g2 hg w1 hbox hb; have BK2 := Aside0.mk (Blk3.mk hbox); have EG2 := Aside0.mk (show w.heap.size ≤ g2 by omega); have HB := Aside0.mk hb; clear hg hbox hb) | ((with_reducible refine gate_dst (N := 3) rfl ?_); refine box_event ?hg (N := 3) ?hd (cs := #[.slice none 0 0, .slice none 0 0, .slice none 0 0]) (t := 39) ?hr ?_; (case hd => rfl); (case hg => rfl); (case hr => first | (go_simp; done) | (go_simp; rfl)); intro g3 hg w2 hbox hb; have BK3 := Aside0.mk (Blk3.mk hbox); have EG3 := Aside0.mk (show w.heap.size ≤ g3 by have := HB.out.size; omega); have HB2 := Aside0.mk (below_step HB.out hb); have BK2b := Aside0.mk (BK2.out.below hb); have G23 := Aside0.mk (show g3 ≠ g2 by have := blk_lt BK2.out.blk; omega); have L2 := Aside0.mk (blk_lt BK2b.out.blk); have L3 := Aside0.mk (blk_lt BK3.out.blk); clear hg hbox hb HB BK2; have HB := HB2; have BK2 := BK2b; clear HB2 BK2b))
  have HBS := Aside0.mk HB.out.size
  go_loopw [8] (fun v8 w' => ∃ x : Int, v8 = .int .i64 x ∧ 0 ≤ x ∧ x ≤ l0.length ∧ Aside0 (PackAt w w2.heap.size g2 g3 l0 x w')) (fun v8 _ => ((l0.length : Int) - intOf v8).toNat)
  case atStart =>
    refine ⟨0, rfl, by omega, by omega, ⟨⟨⟨[], [], [], none, 0, none, 0, none, 0, rfl, by simpa using hs, rfl, rfl, BK3.out, ?_⟩, BK2.out, HB.out, Nat.le_refl _⟩⟩⟩
    exact RowsAt.of3 (R3_nil _ _)
  case round =>
    obtain ⟨x, rfl, hx0, hx1, hPA⟩ := hrel
    obtain ⟨⟨P0, P1, P2, A7, q7, A8, q8, A9, q9, hfold, hsum, hp1, hp2, hbk, hrs⟩, hb2, hbel, hsz⟩ := hPA.out
    clear hPA BK2 BK3 HB
    have RS := Aside0.mk hrs
    have BK3 := Aside0.mk hbk
    have BK2 := Aside0.mk hb2
    have HB := Aside0.mk hbel
    have HS := Aside0.mk hsz
    have HF := Aside0.mk hfold
    clear hrs hbk hb2 hbel hsz hfold
    by_cases hx : x < l0.length
    · have t1 : decide (x < (l0.length : Int)) = true := decide_eq_true hx
      obtain ⟨ad, A3, c3, e1, hcell, hc3, hC3⟩ := at_L2 (Kd.C_below HR0.out HB.out) x hx0 (by exact_mod_cast hx)
      have hd := drop_rdP l0 x hx0 (by exact_mod_cast hx)
      generalize hseq : rd_L2 l0 x = seq at hcell hc3 hC3 hd
      have HC3 := Aside0.mk hC3
      have HD := Aside0.mk hd
      rw [hd, sumL] at hsum
      clear hC3 hd hseq
      subst e1
      have HAD := Aside0.mk (add_calls w2.heap.size A7 q7 P0 A8 q8 P1 A9 q9 P2 A3 c3 seq _ RS.out HC3.out hc3 (by omega) (by omega) (by omega) (by omega) HS.out)
      have z0 := BK3.out.c0; have z1 := BK3.out.c1; have z2 := BK3.out.c2
      have hq0 := eq_true hx0
      have hq1 := eq_true hx
      go_wp2_with (first | (go_at_call 93; refine HAD.out.mono ?_; rintro e w4 ⟨u0, u1, u2, rfl, hrs, hb0⟩; obtain ⟨A10, q10, e7⟩ := Kd.R_slice (hrs.row 0 _ _ rfl); obtain ⟨A11, q11, e8⟩ := Kd.R_slice (hrs.row 1 _ _ rfl); obtain ⟨A12, q12, e9⟩ := Kd.R_slice (hrs.row 2 _ _ rfl); subst e7 e8 e9; have BK2b := Aside0.mk (Blk3.mk ((hb0.block g2 L2.out).trans BK2.out.blk)); have BK3b := Aside0.mk (Blk3.mk ((hb0.block g3 L3.out).trans BK3.out.blk)); clear BK2 BK3; have BK2 := BK2b; have BK3 := BK3b; clear BK2b BK3b RS; have RS := Aside0.mk hrs; have HS1 := Aside0.mk (Nat.le_trans HS.out hb0.size); have N_ := Aside0.mk (HB.out.trans (hb0.mono HBS.out)); clear HB HS; have HB := N_; have HS := HS1; clear N_ HS1 hb0 hrs z0 z1 z2; have z0 := BK3.out.c0; have z1 := BK3.out.c1; have z2 := BK3.out.c2; have fz0 := BK3.out.f 0; have fz1 := BK3.out.f 1; have fz2 := BK3.out.f 2))
      go_roundw
      case rel =>
        have h3 := BK3.out.put (.slice A10 (placeP P0 seq).1.length q10) (.slice A11 (P1.length + 1) q11) (.slice A12 (P2.length + 1) q12)
        refine ⟨x + 1, rfl, by omega, by omega, ⟨⟨⟨(placeP P0 seq).1, P1 ++ [(placeP P0 seq).2], P2 ++ [(seq.length : Int)], A10, q10, A11, q11, A12, q12, ?_, ?_, ?_, ?_, ?_, RS.out.put3 BK3.out (.slice A10 (placeP P0 seq).1.length q10) (.slice A11 (P1.length + 1) q11) (.slice A12 (P2.length + 1) q12)⟩, BK2.out.far (fun h => G23.out h.symm) (.slice A10 (placeP P0 seq).1.length q10) (.slice A11 (P1.length + 1) q11) (.slice A12 (P2.length + 1) q12), below_put3 HB.out EG3.out (.slice A10 (placeP P0 seq).1.length q10) (.slice A11 (P1.length + 1) q11) (.slice A12 (P2.length + 1) q12), put3_size HS.out (.slice A10 (placeP P0 seq).1.length q10) (.slice A11 (P1.length + 1) q11) (.slice A12 (P2.length + 1) q12)⟩⟩⟩
        · have h := HF.out
          rw [HD.out] at h
          exact h
        · have := placeP_len P0 seq
          omega
        · simp; omega
        · simp; omega
        · simpa using h3
      case measure => simp [intOf]; omega
    · have t1 : decide (x < (l0.length : Int)) = false := decide_eq_false hx
      have hxe : x = l0.length := by omega
      have hE : (P0, P1, P2) = packP l0 := by
        have h := HF.out
        rw [hxe] at h
        simpa using h
      have HE := Aside0.mk hE
      clear hE
      have z0 := BK3.out.c0; have z1 := BK3.out.c1; have z2 := BK3.out.c2
      have z3 := BK2.out.c0; have z4 := BK2.out.c1; have z5 := BK2.out.c2; have fz3 := BK2.out.f 0; have fz4 := BK2.out.f 1; have fz5 := BK2.out.f 2
      go_wp2
      have B4 := BK2.out.put (.slice A7 P0.length q7) (.slice A8 P1.length q8) (.slice A9 P2.length q9)
      have HB4 := below_put3 HB.out EG2.out (.slice A7 P0.length q7) (.slice A8 P1.length q8) (.slice A9 P2.length q9)
      have RS4 := (RS.out.lower HBS.out).put3 BK2.out (.slice A7 P0.length q7) (.slice A8 P1.length q8) (.slice A9 P2.length q9)
      clear z0 z1 z2 z3 z4 z5 fz3 fz4 fz5
      have z0 := B4.c0; have z1 := B4.c1; have z2 := B4.c2
      refine bodyPost_ret (by simp [results, Try.results37, go_sem, z0, z1, z2]; rfl) rfl ?_
      rw [← HE.out]
      exact ⟨_, _, _, rfl, RS4, HB4⟩
end Go.Proofs.Ytdlijioedokgjaa.Q

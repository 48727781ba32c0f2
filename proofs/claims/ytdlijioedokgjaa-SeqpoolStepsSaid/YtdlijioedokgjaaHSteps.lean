/- law14.SeqpoolSteps by hand: Pack adds sequences one after the other. (Printed by genstep.py.) -/
import Derived.Test.YtdlijioedokgjaaHAlive14
import Derived.Test.YtdlijioedokgjaaMFew
import Derived.Test.YtdlijioedokgjaaQF36
namespace Go.Proofs.Ytdlijioedokgjaa.Q
open Go.RowKit Go.Proofs.YtdlijioedokgjaaW.PrintWords Go.Proofs.YtdlijioedokgjaaW.PrintLast Go.Proofs.YtdlijioedokgjaaW.PrintMore
set_option linter.unusedVariables false
set_option linter.unusedSimpArgs false

/-- A slice's header: where, how long, how much room. -/
abbrev Hd := Option Addr × Nat × Nat
def hdV (h : Hd) : Value := .slice h.1 h.2.1 h.2.2
theorem hdV_one : ∀ h : Hd, (hdV h).oneCell' = true := fun _ => rfl
abbrev encK : Kd Hd := Kd.scalar hdV hdV_one
/-- The headers of a row of rows that is read. -/
theorem C_heads {w : World} {A : Option Addr} {l : List (List Int)} (h : Kd.C (Kd.slice 3 (Kd.int .i64)) w A l.length l) :
    ∃ hs : List Hd, hs.length = l.length ∧ Kd.C encK w A l.length hs ∧ ∀ (i : Nat) (x : List Int), l[i]? = some x → ∃ B c, hs[i]? = some (B, x.length, c) ∧ x.length ≤ c ∧ Kd.C (Kd.int .i64) w B x.length x := by
  have hx : ∀ i : Fin l.length, ∃ Bc : Option Addr × Nat, (l[i].length ≤ Bc.2 ∧ Kd.C (Kd.int .i64) w Bc.1 l[i].length l[i]) ∧ ∀ ad, A = some ad → w.cell? (ad.add i.val) = some (.slice Bc.1 l[i].length Bc.2) := by
    intro i
    obtain ⟨ad, cs, e, hl, hK, hcell⟩ := Kd.C_get h [] (i.val : Int) (by omega) (by have := i.isLt; omega)
    rw [Int.toNat_natCast, List.getD_eq_getElem?_getD, List.getElem?_eq_getElem i.isLt] at hK
    obtain ⟨B, c, rfl, hle, hC⟩ := hK
    refine ⟨(B, c), ⟨hle, hC⟩, fun ad' e' => ?_⟩
    rw [e] at e'
    injection e' with e'
    subst e'
    have := hcell 0 _ rfl
    simpa [Kd.slice] using this
  obtain ⟨f, hf⟩ := Classical.axiomOfChoice hx
  refine ⟨List.ofFn (fun i => ((f i).1, l[i].length, (f i).2)), by simp, ⟨by simp, h.2.1, fun hp => ?_⟩, fun i x hi => ?_⟩
  · obtain ⟨ad, e, _⟩ := h.2.2 hp
    refine ⟨ad, e, fun j y hj => ?_⟩
    obtain ⟨hjl, hjv⟩ := List.getElem?_eq_some_iff.1 hj
    rw [List.length_ofFn] at hjl
    rw [List.getElem_ofFn] at hjv
    subst hjv
    refine ⟨[_], rfl, rfl, fun i u hi => ?_⟩
    rcases i with _ | i
    · injection hi with hi
      subst hi
      have := (hf ⟨j, hjl⟩).2 ad e
      simpa [hdV, Kd.scalar] using this
    · cases hi
  · obtain ⟨hil, hiv⟩ := List.getElem?_eq_some_iff.1 hi
    subst hiv
    refine ⟨(f ⟨i, hil⟩).1, (f ⟨i, hil⟩).2, ?_, (hf ⟨i, hil⟩).1.1, (hf ⟨i, hil⟩).1.2⟩
    rw [List.getElem?_eq_getElem (by simpa using hil), List.getElem_ofFn]
    rfl
/-- A row of headers, each of which is read, is a row of rows. -/
theorem C_of_heads {w : World} {A : Option Addr} {hs : List Hd} {ll : List (List Int)} (hl : hs.length = ll.length) (hC : Kd.C encK w A ll.length hs) (hr : ∀ (i : Nat) (x : List Int), ll[i]? = some x → ∃ B c, hs[i]? = some (B, x.length, c) ∧ x.length ≤ c ∧ Kd.C (Kd.int .i64) w B x.length x) : Kd.C (Kd.slice 3 (Kd.int .i64)) w A ll.length ll := by
  refine ⟨rfl, hC.2.1, fun hp => ?_⟩
  obtain ⟨ad, e, hcell⟩ := hC.2.2 hp
  refine ⟨ad, e, fun j x hj => ?_⟩
  obtain ⟨B, c, h1, h2, h3⟩ := hr j x hj
  obtain ⟨inner, hi1, hi2, hi3⟩ := hcell j _ h1
  obtain rfl : inner = [hdV (B, x.length, c)] := hi2
  exact ⟨_, rfl, ⟨B, c, rfl, h2, h3⟩, hi3⟩
theorem C_head1 {W : World} {k : Nat} {h : Hd} (hb : W.heap[k]? = some (.cells #[hdV h] 26 (0, 0))) : Kd.C encK W (some ⟨k, 0, none⟩) 1 [h] := by
  refine ⟨rfl, by simp, fun _ => ⟨_, rfl, fun j y hj => ?_⟩⟩
  rcases j with _ | j
  · injection hj with e
    subst e
    refine ⟨[_], rfl, rfl, fun i u hi => ?_⟩
    rcases i with _ | i
    · injection hi with e; subst e; exact (blk_cell hb 0).trans rfl
    · cases hi
  · cases hj
theorem RowsAt.over {W W' : World} {B : Nat} {rs : List (Value × List Int)} {row : Option Nat} (h : RowsAt W B rs) (hg : W.grownBy W' row) (ht : ∀ k, row = some k → ∃ cells, W.heap[k]? = some (.cells cells 26 (0, 0))) : RowsAt W' B rs :=
  ⟨fun i v xs hi => (h.row i v xs hi).grown hg (fun k hk hr => by
    obtain ⟨c, hc⟩ := ht k hr
    obtain ⟨c2, hc2⟩ := Kd.R_typed (h.row i v xs hi) k hk
    rw [hc] at hc2
    injection hc2 with hc2
    injection hc2 with _ hc2 _
    exact absurd hc2 (by decide)), h.apart⟩
theorem Same_self_ev (C S L : List Int) (h0 : (C.length : Int) ≤ 9223372036854775806) (h1 : (S.length : Int) ≤ 9223372036854775806) (h2 : (L.length : Int) ≤ 9223372036854775806) : EvR (fun k => unicodetextref14_Same.f k C S L C S L) true := by
  unfold unicodetextref14_Same.f
  exact EvR.bind (RefEqual_self C h0) (EvR.pos rfl (EvR.bind (RefEqual_self S h1) (EvR.pos rfl (EvR.bind (RefEqual_self L h2) (EvR.const _)))))
theorem heads_snoc {w : World} {l : List (List Int)} {hs : List Hd} {last : List Int} {A1 : Option Addr} {c1 : Nat} (hl : hs.length = l.length) (hr : ∀ (i : Nat) (x : List Int), l[i]? = some x → ∃ B c, hs[i]? = some (B, x.length, c) ∧ x.length ≤ c ∧ Kd.C (Kd.int .i64) w B x.length x) (h1 : Kd.C (Kd.int .i64) w A1 last.length last) (hc : last.length ≤ c1) {ll : List (List Int)} (hll : ll = l ++ [last]) :
    ∀ (i : Nat) (x : List Int), ll[i]? = some x → ∃ B c, (hs ++ [(A1, last.length, c1)])[i]? = some (B, x.length, c) ∧ x.length ≤ c ∧ Kd.C (Kd.int .i64) w B x.length x := by
  intro i x hi
  subst hll
  by_cases h : i < l.length
  · rw [List.getElem?_append_left h] at hi
    rw [List.getElem?_append_left (by omega)]
    exact hr i x hi
  · rw [List.getElem?_append_right (by omega)] at hi
    rw [List.getElem?_append_right (by omega), hl]
    rcases hn : i - l.length with _ | n
    · rw [hn] at hi
      injection hi with hi
      subst hi
      exact ⟨A1, c1, rfl, hc, h1⟩
    · rw [hn] at hi; cases hi
def st13.T4 : Bool × List (List Nat × List Nat) := (true, [([], []), ([], []), ([], []), ([1, 2], [1, 2]), ([], []), ([4], [4]), ([3, 5, 3], [3, 5]), ([6, 6], [6]), ([0, 7, 7], [0, 7]), ([8, 8], [8]), ([9], [9]), ([9], [9]), ([11, 9], [9, 11]), ([10, 12, 9], [9, 10, 12]), ([9, 13], [9, 13]), ([14, 9], [14]), ([15, 15], [15]), ([15, 16], [15, 16]), ([17, 16, 0, 1, 2, 3, 4, 5, 6, 7, 8, 9, 10, 11, 12, 13, 14, 15, 16, 17], [17])])
def st13.B4 : List Nat := [0, 0, 0, 6, 0, 16, 62, 126, 255, 511, 1023, 1023, 3071, 8191, 16383, 32767, 65535, 131071, 262143]
theorem st13.tab4 : rtab .any (opsOf Try.f13 4) = st13.T4 := by kernel_rfl
theorem st13.bits4 : waitsOk st13.T4.2 st13.B4 = true := by kernel_rfl
set_option maxHeartbeats 8000000 in
set_option maxRecDepth 100000 in
theorem steps_calls (A0 : Option Addr) (c0 : Nat) (l : List (List Int)) (A1 : Option Addr) (c1 : Nat) (last : List Int) (w : World) (hr0 : Kd.C (Kd.slice 3 (Kd.int .i64)) w A0 l.length l) (hc0 : l.length ≤ c0) (hr1 : Kd.C (Kd.int .i64) w A1 last.length last) (hc1 : last.length ≤ c1) :
    Calls Try.prog 13 #[.slice A0 l.length c0, .slice A1 last.length c1] w fun e w' => e = .returned (.bool true) ∧ Below w.heap.size w w' := by
  have hu39 := Try.underlying39
  have HB := Aside0.mk (Below.refl w.heap.size w)
  have HR0 := Aside0.mk hr0
  have HC0 := Aside0.mk hc0
  have HR1 := Aside0.mk hr1
  have HC1 := Aside0.mk hc1
  obtain ⟨b, hb, hf⟩ := Few_ev l
  obtain ⟨k1, hk1⟩ := hb
  cases b with
  | false =>
    obtain ⟨k, hkk⟩ : ∃ k, k1 = k := ⟨_, rfl⟩
    have HF := Aside0.mk (hk1 k (by omega))
    clear hk1 hf hkk hr0 hc0 hr1 hc1
    go_enter Try.func13, Try.ntmps13
    go_wp2_with (first | (go_at_call 35; refine (unicodetextref14_Few.calls k A0 c0 l _ _ (Kd.C_below HR0.out HB.out) HC0.out HF.out).mono ?_; rintro e w1 ⟨rfl, ⟨nd, rfl⟩⟩; have N_ := Aside0.mk (pw_below_drewN HB.out nd); clear HB; have HB := N_; clear N_) | (go_at_call 39; refine (law14_alive.calls true _ rfl).mono ?_; rintro e w2 ⟨rfl, hb⟩; have N_ := Aside0.mk (below_step HB.out hb); clear HB; have HB := N_; clear N_; clear hb))
    go_ret
    exact ⟨rfl, HB.out⟩
  | true =>
    have hf := hf rfl
    by_cases hq : (last.length : Int) > 20
    · have t1 : decide ((last.length : Int) > 20) = true := decide_eq_true hq
      have t2 : decide (20 < (last.length : Int)) = true := decide_eq_true hq
      obtain ⟨k, hkk⟩ : ∃ k, k1 = k := ⟨_, rfl⟩
      have HF := Aside0.mk (hk1 k (by omega))
      clear hk1 hf hkk hr0 hc0 hr1 hc1 hq
      go_enter Try.func13, Try.ntmps13
      go_wp2_with (first | (go_at_call 35; refine (unicodetextref14_Few.calls k A0 c0 l _ _ (Kd.C_below HR0.out HB.out) HC0.out HF.out).mono ?_; rintro e w1 ⟨rfl, ⟨nd, rfl⟩⟩; have N_ := Aside0.mk (pw_below_drewN HB.out nd); clear HB; have HB := N_; clear N_) | (go_at_call 39; refine (law14_alive.calls true _ rfl).mono ?_; rintro e w2 ⟨rfl, hb⟩; have N_ := Aside0.mk (below_step HB.out hb); clear HB; have HB := N_; clear N_; clear hb))
      go_ret
      exact ⟨rfl, HB.out⟩
    · have t1 : decide ((last.length : Int) > 20) = false := decide_eq_false hq
      have t2 : decide (20 < (last.length : Int)) = false := decide_eq_false hq
      have hsum := few_sum hf
      obtain ⟨hv, hS, hC, hcut⟩ := packP_spec l
      have hL := valid_len hv
      have hadd := add_f last hv (by omega) (by omega) (by omega) (by omega)
      obtain ⟨P0, P1, P2, hP⟩ : ∃ P0 P1 P2, packP l = (P0, P1, P2) := ⟨_, _, _, rfl⟩
      obtain ⟨ll, hll⟩ : ∃ ll, ll = l ++ [last] := ⟨_, rfl⟩
      have hpl : packP ll = addP (packP l) last := by rw [hll]; exact packP_snoc l last
      obtain ⟨hv2, hS2, hC2, _⟩ := packP_spec ll
      have hL2 := valid_len hv2
      have hsum2 : sumL ll ≤ 300 := by rw [hll, sumL_snoc]; omega
      have hlen2 : ll.length = l.length + 1 := by rw [hll]; simp
      obtain ⟨Q0, Q1, Q2, hQ⟩ : ∃ Q0 Q1 Q2, packP ll = (Q0, Q1, Q2) := ⟨_, _, _, rfl⟩
      rw [hQ] at hS2 hC2 hL2
      have hsame := Same_self_ev Q0 Q1 Q2 (by simp only at hC2; omega) (by simp only at hS2; omega) (by simp only at hL2 hS2; omega)
      obtain ⟨k2, hk2⟩ := hsame
      obtain ⟨k, hkk⟩ : ∃ k, k1 + k2 = k := ⟨_, rfl⟩
      have HF := Aside0.mk (hk1 k (by omega))
      have HSM := Aside0.mk (hk2 k (by omega))
      have hadd2 : seqpool_Add.f P0 P1 P2 last = some (Q0, Q1, Q2, (l.length : Int)) := by
        have e := hpl
        rw [hQ] at e
        rw [hP] at hadd hS e
        simp only at hadd hS
        rw [hadd, ← e, hS]
      have HADD := Aside0.mk hadd2
      have HP := Aside0.mk hP
      have HQ := Aside0.mk hQ
      have HS := Aside0.mk (show sumL l ≤ 1000000000 ∧ l.length ≤ 1000000000 by omega)
      have HS2 := Aside0.mk (show sumL ll ≤ 1000000000 ∧ ll.length ≤ 1000000000 by omega)
      have HLL := Aside0.mk hll
      have HLN := Aside0.mk hlen2
      have HL12 := Aside0.mk hf.1
      obtain ⟨hs, hhl, hhC, hhr⟩ := C_heads hr0
      have HHL := Aside0.mk hhl
      have HHC := Aside0.mk hhC
      have HHR := Aside0.mk (heads_snoc hhl hhr hr1 hc1 hll)
      clear hk1 hk2 hkk hr0 hc0 hr1 hc1 hq hf hsum hv hS hC hcut hL hadd hadd2 hP hll hpl hv2 hS2 hC2 hL2 hsum2 hlen2 hQ hhl hhC hhr
      go_enter Try.func13, Try.ntmps13
      go_wp2_with (first | (go_at_call 35; refine (unicodetextref14_Few.calls k A0 c0 l _ _ (Kd.C_below HR0.out HB.out) HC0.out HF.out).mono ?_; rintro e w1 ⟨rfl, ⟨nd, rfl⟩⟩; have N_ := Aside0.mk (pw_below_drewN HB.out nd); clear HB; have HB := N_; clear N_) | (go_at_call 37; refine (Pack_calls A0 c0 l _ (Kd.C_below HR0.out HB.out) HC0.out HS.out.1 HS.out.2).mono ?_; (rw [HP.out]); rintro e w3 ⟨v0, v1, v2, rfl, hrs, hb⟩; obtain ⟨A4, q4, e4⟩ := Kd.R_slice (hrs.row 0 _ _ rfl); obtain ⟨A5, q5, e5⟩ := Kd.R_slice (hrs.row 1 _ _ rfl); obtain ⟨A6, q6, e6⟩ := Kd.R_slice (hrs.row 2 _ _ rfl); subst e4 e5 e6; have PR := Aside0.mk (hrs.lower HB.out.size); have N_ := Aside0.mk (below_step HB.out hb); clear HB; have HB := N_; clear N_; clear hb hrs) | (go_at_call 41; refine (seqpool_Add.calls A4 q4 P0 A5 q5 P1 A6 q6 P2 A1 c1 last Q0 Q1 Q2 _ _ (PR.out.row 0 _ _ rfl).read.2.1 (PR.out.row 0 _ _ rfl).read.2.2 (PR.out.row 1 _ _ rfl).read.2.1 (PR.out.row 1 _ _ rfl).read.2.2 (PR.out.row 2 _ _ rfl).read.2.1 (PR.out.row 2 _ _ rfl).read.2.2 (Kd.C_below HR1.out HB.out) HC1.out HADD.out).mono ?_; rintro e w4 ⟨v0, v1, v2, rfl, h0, h1, h2, hb⟩; have hrs := RowsAt.of3 ⟨h0, h1, h2⟩; obtain ⟨A7, q7, e4⟩ := Kd.R_slice (hrs.row 0 _ _ rfl); obtain ⟨A8, q8, e5⟩ := Kd.R_slice (hrs.row 1 _ _ rfl); obtain ⟨A9, q9, e6⟩ := Kd.R_slice (hrs.row 2 _ _ rfl); subst e4 e5 e6; have QR := Aside0.mk (hrs.lower HB.out.size); have N_ := Aside0.mk (below_step HB.out hb); clear HB; have HB := N_; clear N_; clear hb hrs h0 h1 h2 PR) | ((with_reducible refine gate_dst (N := 5) rfl ?_); refine box_event ?hg (N := 5) ?hd (cs := #[.slice none 0 0, .slice none 0 0, .slice none 0 0]) (t := 39) ?hr ?_; (case hd => rfl); (case hg => rfl); (case hr => first | (go_simp; done) | (go_simp; rfl)); intro g1 hg w5 hbox hb; have BK1 := Aside0.mk (Blk3.mk hbox); have EG1 := Aside0.mk (show w.heap.size ≤ g1 by have := HB.out.size; omega); have N_ := Aside0.mk (QR.out.below hb); clear QR; have QR := N_; clear N_; have N_ := Aside0.mk (below_step HB.out hb); clear HB; have HB := N_; clear N_; have z0 := BK1.out.c0; have z1 := BK1.out.c1; have z2 := BK1.out.c2; have fz0 := BK1.out.f 0; have fz1 := BK1.out.f 1; have fz2 := BK1.out.f 2; clear hg hbox hb))
      rename_i K9 hK9
      have N1 := Aside0.mk (BK1.out.put (.slice A7 Q0.length q7) (.slice A8 Q1.length q8) (.slice A9 Q2.length q9))
      have N2 := Aside0.mk (below_put3 HB.out EG1.out (.slice A7 Q0.length q7) (.slice A8 Q1.length q8) (.slice A9 Q2.length q9))
      have N3 := Aside0.mk (QR.out.put3 BK1.out (.slice A7 Q0.length q7) (.slice A8 Q1.length q8) (.slice A9 Q2.length q9))
      clear BK1 HB QR z0 z1 z2 fz0 fz1 fz2
      have BK1 := N1; have HB := N2; have QR := N3
      clear N1 N2 N3
      generalize ((w5.setCell ⟨g1, 0, none⟩ (.slice A7 Q0.length q7)).setCell ⟨g1, 1, none⟩ (.slice A8 Q1.length q8)).setCell ⟨g1, 2, none⟩ (.slice A9 Q2.length q9) = w6 at BK1 HB QR ⊢
      have BK1 := Aside0.mk BK1.out.drew
      have HB := Aside0.mk (below_drew1 HB.out)
      have QR := Aside0.mk QR.out.drew
      refine start_ (n := 19) (S := fun w' => w'.cell? ⟨g1, 0, none⟩ = some (.slice A7 Q0.length q7) ∧ w'.cell? ⟨g1, 1, none⟩ = some (.slice A8 Q1.length q8) ∧ w'.cell? ⟨g1, 2, none⟩ = some (.slice A9 Q2.length q9)) (ds := []) #[false, false, false, false, false, false, false, false, false, false, false, false, false, false, false, false, false, false, false] (by kernel_rfl) rfl rfl ⟨BK1.out.c0, BK1.out.c1, BK1.out.c2⟩ (fun hHeld => ?_)
      refine with_tabW st13.tab4 st13.bits4 (fun HT_ HW_ => ?_)
      generalize w6.drew = w7 at BK1 HB QR hHeld ⊢
      refine pure_ (i := 2) (N := some 25) (v := ?_) (a' := ?_) #[false, false, true, false, false, false, false, false, false, false, false, false, false, false, false, false, false, false, false] rfl rfl (any_of HT_.out (by kernel_rfl)) (fun _ _ _ h => h) (Or.inl ⟨by rfl, ?_⟩) ?_ ?_
      rotate_left
      · intro w'
        go_simp
        with_reducible rfl
      rotate_left
      · simp only [Act.put, List.setIfInBounds_toArray, List.set_cons_zero, List.set_cons_succ, i64_w, i32_w]
        rfl
      refine pure_ (i := 4) (N := some 27) (v := ?_) (a' := ?_) #[false, false, true, false, true, false, false, false, false, false, false, false, false, false, false, false, false, false, false] rfl rfl (any_of HT_.out (by kernel_rfl)) (fun _ _ _ h => h) (Or.inl ⟨by rfl, ?_⟩) ?_ ?_
      rotate_left
      · intro w'
        go_simp
        with_reducible rfl
      rotate_left
      · simp only [Act.put, List.setIfInBounds_toArray, List.set_cons_zero, List.set_cons_succ, i64_w, i32_w]
        rfl
      refine take_ (i := 0) (N := some 23) (v := ?_) (a' := ?_) #[true, false, true, false, true, false, false, false, false, false, false, false, false, false, false, false, false, false, false] rfl rfl (take_ofW HT_.out HW_.out (by kernel_rfl)) (fun _ _ _ h => h) (Or.inl ⟨by rfl, ?_⟩) hHeld ?_ ?_
      rotate_left
      · rintro w' ⟨s0, s1, s2⟩
        go_simp
        with_reducible rfl
      rotate_left
      · simp only [Act.put, List.setIfInBounds_toArray, List.set_cons_zero, List.set_cons_succ, i64_w, i32_w]
        rfl
      refine two_ (i := 1) (j := 5) (Ni := some 24) (Nj := some 28) #[true, true, true, false, true, false, false, false, false, false, false, false, false, false, false, false, false, false, false] #[true, false, true, false, true, true, false, false, false, false, false, false, false, false, false, false, false, false, false] rfl rfl rfl rfl (two_of HT_.out (by kernel_rfl)) (by decide) (by decide) (fun K hK => ?_) (fun K hK => ?_)
      · skip
        refine Kd.R_lit_step encK _ 26 ?hg (N := 24) ?hd (xs := ([] : List Hd)) (inner := []) (ok := fun _ => True) (okp := fun _ => True) ?hr ?hp (fun _ hk => hk) trivial (Below.refl _ _) (Nat.le_refl _) (by simp) ?_
        (case hd => rfl)
        (case hg => rfl)
        (case hr => first | (go_simp; done) | (go_simp; rfl))
        (case hp => exact Reps.none _ _)
        intro v wa ho hb hg hat
        obtain ⟨Aa, ca, e7⟩ := Kd.R_slice ho
        obtain rfl : v = .slice Aa 0 ca := e7
        have N1 := Aside0.mk (BK1.out.below hb)
        have N2 := Aside0.mk (below_step HB.out hb)
        have N3 := Aside0.mk (QR.out.below hb)
        have LA := Aside0.mk (Kd.R_lower ho HB.out.size)
        clear hb ho hg hat
        clear BK1 HB QR
        have BK1 := N1; have HB := N2; have QR := N3
        clear N1 N2 N3
        refine hK.out _ _ ⟨BK1.out.c0, BK1.out.c1, BK1.out.c2⟩ (fun hHeld => ?_)
        clear hK K
        refine norm_ (a' := ?_) ?_ ?_
        rotate_left
        · show Act.put _ (some 24) _ = _
          simp only [Act.put, List.setIfInBounds_toArray, List.set_cons_zero, List.set_cons_succ, i64_w, i32_w]
          rfl
        refine two_ (i := 3) (j := 5) (Ni := some 26) (Nj := some 28) #[true, true, true, true, true, false, false, false, false, false, false, false, false, false, false, false, false, false, false] #[true, true, true, false, true, true, false, false, false, false, false, false, false, false, false, false, false, false, false] rfl rfl rfl rfl (two_of HT_.out (by kernel_rfl)) (by decide) (by decide) (fun K hK => ?_) (fun K hK => ?_)
        · skip
          refine Kd.R_append_rows_step encK (w0 := w) w.heap.size (by rfl) (.tmp 24) (.tmp 25) 35 26 (.slice none 0 0) 24 rfl Try.underlying35 info26 rfl (by decide) (by omega) (.slice Aa 0 ca) [] hs _ _ _ (fun _ => True) (fun _ => False) rfl rfl LA.out (Kd.C_below HHC.out HB.out) (fun _ _ h => h) (fun _ h => h.elim) (fun _ _ => trivial) HB.out HB.out.size ?aL ?_
          (case aL => have h1 := HL12.out; have h2 := HHL.out; first | omega | (simp only [List.length_nil]; omega))
          intro vn wc ho hb hg hat
          rw [List.nil_append] at ho
          obtain ⟨Ac, cc, rfl⟩ := Kd.R_slice ho
          have N1 := Aside0.mk (BK1.out.grown hg (Kd.R_ne LA.out BK1.out.blk (by decide)))
          have N2 := Aside0.mk hb
          have N3 := Aside0.mk (QR.out.over hg (Kd.R_typed LA.out))
          clear LA
          have LA := Aside0.mk ho
          clear ho hb hg hat
          clear BK1 HB QR
          have BK1 := N1; have HB := N2; have QR := N3
          clear N1 N2 N3
          refine hK.out _ _ ⟨BK1.out.c0, BK1.out.c1, BK1.out.c2⟩ (fun hHeld => ?_)
          clear hK K
          refine norm_ (a' := ?_) ?_ ?_
          rotate_left
          · show Act.put _ (some 26) _ = _
            simp only [Act.put, List.setIfInBounds_toArray, List.set_cons_zero, List.set_cons_succ, i64_w, i32_w]
            rfl
          refine one_ (i := 5) (N := some 28) #[true, true, true, true, true, true, false, false, false, false, false, false, false, false, false, false, false, false, false] rfl rfl (one_of HT_.out (by kernel_rfl)) (by decide) (fun K hK => ?_)
          refine event_step (v := .slice (some ⟨wc.heap.size, 0, none⟩) 1 1) (w1 := wc.alloc (.cells #[hdV (A1, last.length, c1)] 26)) (by rfl) ?hr ?_
          (case hr => first | (go_simp; done) | (go_simp; rfl))
          have hb := below_alloc (Below.refl wc.heap.size wc) (.cells #[hdV (A1, last.length, c1)] 26)
          have N1 := Aside0.mk (BK1.out.below hb)
          have N2 := Aside0.mk (below_step HB.out hb)
          have N3 := Aside0.mk (QR.out.below hb)
          have LB := Aside0.mk (alloc_at wc (.cells #[hdV (A1, last.length, c1)] 26))
          have NB := Aside0.mk (show some wc.heap.size ≠ (Value.slice Ac hs.length cc).ownBlock from fun e => by have := Kd.R_lt LA.out _ e.symm; omega)
          have N4 := Aside0.mk (Kd.R_below LA.out hb)
          clear LA
          have LA := N4
          clear N4
          clear hb
          clear BK1 HB QR
          have BK1 := N1; have HB := N2; have QR := N3
          clear N1 N2 N3
          generalize wc.heap.size = gB at LB NB ⊢
          generalize wc.alloc (.cells #[hdV (A1, last.length, c1)] 26) = wb at BK1 HB QR LB LA ⊢
          refine hK.out _ _ ⟨BK1.out.c0, BK1.out.c1, BK1.out.c2⟩ (fun hHeld => ?_)
          clear hK K
          refine norm_ (a' := ?_) ?_ ?_
          rotate_left
          · show Act.put _ (some 28) _ = _
            simp only [Act.put, List.setIfInBounds_toArray, List.set_cons_zero, List.set_cons_succ, i64_w, i32_w]
            rfl
          refine one_ (i := 6) (N := some 29) #[true, true, true, true, true, true, true, false, false, false, false, false, false, false, false, false, false, false, false] rfl rfl (one_of HT_.out (by kernel_rfl)) (by decide) (fun K hK => ?_)
          refine Kd.R_append_rows_step encK (w0 := w) w.heap.size (by rfl) (.tmp 26) (.tmp 28) 35 26 (.slice none 0 0) 24 rfl Try.underlying35 info26 rfl (by decide) (by omega) (.slice Ac hs.length cc) hs [(A1, last.length, c1)] _ _ _ (fun _ => True) (fun _ => False) rfl rfl LA.out (C_head1 LB.out) (fun _ _ h => h) (fun _ h => h.elim) (fun _ _ => trivial) HB.out HB.out.size ?aL ?_
          (case aL => have h1 := HL12.out; have h2 := HHL.out; first | omega | (simp only [List.length_nil]; omega))
          intro vn wd ho hb hg hat
          obtain ⟨Ad, cd, e7⟩ := Kd.R_slice ho
          rw [show (hs ++ [(A1, last.length, c1)]).length = ll.length by rw [List.length_append, List.length_singleton, HHL.out, HLN.out]] at e7
          subst e7
          have N1 := Aside0.mk (BK1.out.grown hg (Kd.R_ne LA.out BK1.out.blk (by decide)))
          have N2 := Aside0.mk hb
          have N3 := Aside0.mk (QR.out.over hg (Kd.R_typed LA.out))
          clear LA
          have LA := Aside0.mk ho
          clear ho hb hg hat
          clear BK1 HB QR
          have BK1 := N1; have HB := N2; have QR := N3
          clear N1 N2 N3
          refine hK.out _ _ ⟨BK1.out.c0, BK1.out.c1, BK1.out.c2⟩ (fun hHeld => ?_)
          clear hK K
          refine norm_ (a' := ?_) ?_ ?_
          rotate_left
          · show Act.put _ (some 29) _ = _
            simp only [Act.put, List.setIfInBounds_toArray, List.set_cons_zero, List.set_cons_succ, i64_w, i32_w]
            rfl
          refine one_ (i := 7) (N := some 30) #[true, true, true, true, true, true, true, true, false, false, false, false, false, false, false, false, false, false, false] rfl rfl (one_of HT_.out (by kernel_rfl)) (by decide) (fun K hK => ?_)
          refine goes_ Try.func37 (by kernel_rfl) rfl #[.slice Ad ll.length cd] (by rfl) rfl rfl (by first | rfl | (simp only [List.map_toArray, List.map_cons, List.map_nil]; done) | (simp only [List.map_toArray, List.map_cons, List.map_nil]; rfl)) ?_
          have hR := Kd.R_reads' LA.out
          have hCC : Kd.C encK wd Ad ll.length (hs ++ [(A1, last.length, c1)]) := by have e := hR.1; have h := hR.2.2; rw [← e] at h; exact h
          refine (Pack_calls Ad cd ll _ (C_of_heads (by rw [List.length_append, List.length_singleton, HHL.out, HLN.out]) hCC (fun i x hi => by obtain ⟨B, c, h1, h2, h3⟩ := HHR.out i x hi; exact ⟨B, c, h1, h2, Kd.C_below h3 HB.out⟩)) hR.2.1 HS2.out.1 HS2.out.2).mono ?_
          (rw [HQ.out])
          rintro e we ⟨v0, v1, v2, rfl, hrs, hb⟩
          refine ⟨_, rfl, ?_⟩
          obtain ⟨A10, q10, e4⟩ := Kd.R_slice (hrs.row 0 _ _ rfl)
          obtain ⟨A11, q11, e5⟩ := Kd.R_slice (hrs.row 1 _ _ rfl)
          obtain ⟨A12, q12, e6⟩ := Kd.R_slice (hrs.row 2 _ _ rfl)
          subst e4 e5 e6
          have N1 := Aside0.mk (BK1.out.below hb)
          have N2 := Aside0.mk (below_step HB.out hb)
          have N3 := Aside0.mk (QR.out.below hb)
          have RR := Aside0.mk (hrs.lower HB.out.size)
          clear hb hrs hR hCC LA
          clear BK1 HB QR
          have BK1 := N1; have HB := N2; have QR := N3
          clear N1 N2 N3
          refine hK.out _ _ ⟨BK1.out.c0, BK1.out.c1, BK1.out.c2⟩ (fun hHeld => ?_)
          clear hK K
          refine norm_ (a' := ?_) ?_ ?_
          rotate_left
          · show Act.put _ (some 30) _ = _
            simp only [Act.put, List.setIfInBounds_toArray, List.set_cons_zero, List.set_cons_succ, i64_w, i32_w]
            rfl
          refine one_ (i := 8) (N := some 31) #[true, true, true, true, true, true, true, true, true, false, false, false, false, false, false, false, false, false, false] rfl rfl (one_of HT_.out (by kernel_rfl)) (by decide) (fun K hK => ?_)
          refine goes_ Try.func36 (by kernel_rfl) rfl #[.agg #[.slice A7 Q0.length q7, .slice A8 Q1.length q8, .slice A9 Q2.length q9], .agg #[.slice A10 Q0.length q10, .slice A11 Q1.length q11, .slice A12 Q2.length q12]] (by rfl) rfl rfl (by first | rfl | (simp only [List.map_toArray, List.map_cons, List.map_nil]; done) | (simp only [List.map_toArray, List.map_cons, List.map_nil]; rfl)) ?_
          refine (unicodetextref14_Same.calls k A7 q7 Q0 A8 q8 Q1 A9 q9 Q2 A10 q10 Q0 A11 q11 Q1 A12 q12 Q2 true _ (QR.out.row 0 _ _ rfl).read.2.1 (QR.out.row 0 _ _ rfl).read.2.2 (QR.out.row 1 _ _ rfl).read.2.1 (QR.out.row 1 _ _ rfl).read.2.2 (QR.out.row 2 _ _ rfl).read.2.1 (QR.out.row 2 _ _ rfl).read.2.2 (RR.out.row 0 _ _ rfl).read.2.1 (RR.out.row 0 _ _ rfl).read.2.2 (RR.out.row 1 _ _ rfl).read.2.1 (RR.out.row 1 _ _ rfl).read.2.2 (RR.out.row 2 _ _ rfl).read.2.1 (RR.out.row 2 _ _ rfl).read.2.2 HSM.out).mono ?_
          rintro e wf ⟨rfl, hb⟩
          refine ⟨_, rfl, ?_⟩
          have N1 := Aside0.mk (BK1.out.below hb)
          have N2 := Aside0.mk (below_step HB.out hb)
          have N3 := Aside0.mk (QR.out.below hb)
          clear hb RR
          clear BK1 HB QR
          have BK1 := N1; have HB := N2; have QR := N3
          clear N1 N2 N3
          refine hK.out _ _ ⟨BK1.out.c0, BK1.out.c1, BK1.out.c2⟩ (fun hHeld => ?_)
          clear hK K
          refine norm_ (a' := ?_) ?_ ?_
          rotate_left
          · show Act.put _ (some 31) _ = _
            simp only [Act.put, List.setIfInBounds_toArray, List.set_cons_zero, List.set_cons_succ, i64_w, i32_w]
            rfl
          refine pure_ (i := 9) (N := some 32) (v := ?_) (a' := ?_) #[true, true, true, true, true, true, true, true, true, true, false, false, false, false, false, false, false, false, false] rfl rfl (any_of HT_.out (by kernel_rfl)) (fun _ _ _ h => h) (Or.inl ⟨by rfl, ?_⟩) ?_ ?_
          rotate_left
          · intro w'
            go_simp
            with_reducible rfl
          rotate_left
          · simp only [Act.put, List.setIfInBounds_toArray, List.set_cons_zero, List.set_cons_succ, i64_w, i32_w]
            rfl
          refine pure_ (i := 10) (N := some 33) (v := ?_) (a' := ?_) #[true, true, true, true, true, true, true, true, true, true, true, false, false, false, false, false, false, false, false] rfl rfl (any_of HT_.out (by kernel_rfl)) (fun _ _ _ h => h) (Or.inl ⟨by rfl, ?_⟩) ?_ ?_
          rotate_left
          · intro w'
            go_simp
            with_reducible rfl
          rotate_left
          · simp only [Act.put, List.setIfInBounds_toArray, List.set_cons_zero, List.set_cons_succ, i64_w, i32_w]
            rfl
          refine pure_ (i := 11) (N := some 34) (v := ?_) (a' := ?_) #[true, true, true, true, true, true, true, true, true, true, true, true, false, false, false, false, false, false, false] rfl rfl (any_of HT_.out (by kernel_rfl)) (fun _ _ _ h => h) (Or.inl ⟨by rfl, ?_⟩) ?_ ?_
          rotate_left
          · intro w'
            go_simp
            with_reducible rfl
          rotate_left
          · simp only [Act.put, List.setIfInBounds_toArray, List.set_cons_zero, List.set_cons_succ, i64_w, i32_w]
            rfl
          refine pure_ (i := 12) (N := some 35) (v := ?_) (a' := ?_) #[true, true, true, true, true, true, true, true, true, true, true, true, true, false, false, false, false, false, false] rfl rfl (any_of HT_.out (by kernel_rfl)) (fun _ _ _ h => h) (Or.inl ⟨by rfl, ?_⟩) ?_ ?_
          rotate_left
          · intro w'
            go_simp
            with_reducible rfl
          rotate_left
          · simp only [Act.put, List.setIfInBounds_toArray, List.set_cons_zero, List.set_cons_succ, i64_w, i32_w]
            rfl
          refine pure_ (i := 13) (N := some 36) (v := ?_) (a' := ?_) #[true, true, true, true, true, true, true, true, true, true, true, true, true, true, false, false, false, false, false] rfl rfl (any_of HT_.out (by kernel_rfl)) (fun _ _ _ h => h) (Or.inl ⟨by rfl, ?_⟩) ?_ ?_
          rotate_left
          · intro w'
            go_simp
            with_reducible rfl
          rotate_left
          · simp only [Act.put, List.setIfInBounds_toArray, List.set_cons_zero, List.set_cons_succ, i64_w, i32_w]
            rfl
          refine pure_ (i := 14) (N := some 37) (v := ?_) (a' := ?_) #[true, true, true, true, true, true, true, true, true, true, true, true, true, true, true, false, false, false, false] rfl rfl (any_of HT_.out (by kernel_rfl)) (fun _ _ _ h => h) (Or.inl ⟨by rfl, ?_⟩) ?_ ?_
          rotate_left
          · intro w'
            go_simp
            with_reducible rfl
          rotate_left
          · simp only [Act.put, List.setIfInBounds_toArray, List.set_cons_zero, List.set_cons_succ, i64_w, i32_w]
            rfl
          refine pure_ (i := 15) (N := some 38) (v := ?_) (a' := ?_) #[true, true, true, true, true, true, true, true, true, true, true, true, true, true, true, true, false, false, false] rfl rfl (any_of HT_.out (by kernel_rfl)) (fun _ _ _ h => h) (Or.inl ⟨by rfl, ?_⟩) ?_ ?_
          rotate_left
          · intro w'
            go_simp
            with_reducible rfl
          rotate_left
          · simp only [Act.put, List.setIfInBounds_toArray, List.set_cons_zero, List.set_cons_succ, i64_w, i32_w]
            rfl
          refine one_ (i := 16) (N := some 39) #[true, true, true, true, true, true, true, true, true, true, true, true, true, true, true, true, true, false, false] rfl rfl (one_of HT_.out (by kernel_rfl)) (by decide) (fun K hK => ?_)
          refine goes_ Try.func39 (by kernel_rfl) rfl #[] (by rfl) rfl rfl (by first | rfl | (simp only [List.map_toArray, List.map_cons, List.map_nil]; done) | (simp only [List.map_toArray, List.map_cons, List.map_nil]; rfl)) ?_
          refine (law14_alive.calls true _ rfl).mono ?_
          rintro e wg ⟨rfl, hb⟩
          refine ⟨_, rfl, ?_⟩
          have N1 := Aside0.mk (BK1.out.below hb)
          have N2 := Aside0.mk (below_step HB.out hb)
          have N3 := Aside0.mk (QR.out.below hb)
          clear hb
          clear BK1 HB QR
          have BK1 := N1; have HB := N2; have QR := N3
          clear N1 N2 N3
          refine hK.out _ _ ⟨BK1.out.c0, BK1.out.c1, BK1.out.c2⟩ (fun hHeld => ?_)
          clear hK K
          refine norm_ (a' := ?_) ?_ ?_
          rotate_left
          · show Act.put _ (some 39) _ = _
            simp only [Act.put, List.setIfInBounds_toArray, List.set_cons_zero, List.set_cons_succ, i64_w, i32_w]
            rfl
          refine pure_ (i := 17) (N := some 40) (v := ?_) (a' := ?_) #[true, true, true, true, true, true, true, true, true, true, true, true, true, true, true, true, true, true, false] rfl rfl (any_of HT_.out (by kernel_rfl)) (fun _ _ _ h => h) (Or.inl ⟨by rfl, ?_⟩) ?_ ?_
          rotate_left
          · intro w'
            go_simp
            with_reducible rfl
          rotate_left
          · simp only [Act.put, List.setIfInBounds_toArray, List.set_cons_zero, List.set_cons_succ, i64_w, i32_w]
            rfl
          refine pure_ (i := 18) (N := some 4) (v := ?_) (a' := ?_) #[true, true, true, true, true, true, true, true, true, true, true, true, true, true, true, true, true, true, true] rfl rfl (any_of HT_.out (by kernel_rfl)) (fun _ _ _ h => h) (Or.inl ⟨by rfl, ?_⟩) ?_ ?_
          rotate_left
          · intro w'
            go_simp
            with_reducible rfl
          rotate_left
          · simp only [Act.put, List.setIfInBounds_toArray, List.set_cons_zero, List.set_cons_succ, i64_w, i32_w]
            rfl
          refine done_ (done_of HT_.out (by kernel_rfl)) ?_
          refine hK9 _ _ (wp_ret ?_)
          go_ret
          exact ⟨rfl, HB.out⟩
        · skip
          refine event_step (v := .slice (some ⟨wa.heap.size, 0, none⟩) 1 1) (w1 := wa.alloc (.cells #[hdV (A1, last.length, c1)] 26)) (by rfl) ?hr ?_
          (case hr => first | (go_simp; done) | (go_simp; rfl))
          have hb := below_alloc (Below.refl wa.heap.size wa) (.cells #[hdV (A1, last.length, c1)] 26)
          have N1 := Aside0.mk (BK1.out.below hb)
          have N2 := Aside0.mk (below_step HB.out hb)
          have N3 := Aside0.mk (QR.out.below hb)
          have LB := Aside0.mk (alloc_at wa (.cells #[hdV (A1, last.length, c1)] 26))
          have NB := Aside0.mk (show some wa.heap.size ≠ (Value.slice Aa 0 ca).ownBlock from fun e => by have := Kd.R_lt LA.out _ e.symm; omega)
          have N4 := Aside0.mk (Kd.R_below LA.out hb)
          clear LA
          have LA := N4
          clear N4
          clear hb
          clear BK1 HB QR
          have BK1 := N1; have HB := N2; have QR := N3
          clear N1 N2 N3
          generalize wa.heap.size = gB at LB NB ⊢
          generalize wa.alloc (.cells #[hdV (A1, last.length, c1)] 26) = wb at BK1 HB QR LB LA ⊢
          refine hK.out _ _ ⟨BK1.out.c0, BK1.out.c1, BK1.out.c2⟩ (fun hHeld => ?_)
          clear hK K
          refine norm_ (a' := ?_) ?_ ?_
          rotate_left
          · show Act.put _ (some 28) _ = _
            simp only [Act.put, List.setIfInBounds_toArray, List.set_cons_zero, List.set_cons_succ, i64_w, i32_w]
            rfl
          refine one_ (i := 3) (N := some 26) #[true, true, true, true, true, true, false, false, false, false, false, false, false, false, false, false, false, false, false] rfl rfl (one_of HT_.out (by kernel_rfl)) (by decide) (fun K hK => ?_)
          refine Kd.R_append_rows_step encK (w0 := w) w.heap.size (by rfl) (.tmp 24) (.tmp 25) 35 26 (.slice none 0 0) 24 rfl Try.underlying35 info26 rfl (by decide) (by omega) (.slice Aa 0 ca) [] hs _ _ _ (fun _ => True) (fun _ => False) rfl rfl LA.out (Kd.C_below HHC.out HB.out) (fun _ _ h => h) (fun _ h => h.elim) (fun _ _ => trivial) HB.out HB.out.size ?aL ?_
          (case aL => have h1 := HL12.out; have h2 := HHL.out; first | omega | (simp only [List.length_nil]; omega))
          intro vn wc ho hb hg hat
          rw [List.nil_append] at ho
          obtain ⟨Ac, cc, rfl⟩ := Kd.R_slice ho
          have N1 := Aside0.mk (BK1.out.grown hg (Kd.R_ne LA.out BK1.out.blk (by decide)))
          have N2 := Aside0.mk hb
          have N3 := Aside0.mk (QR.out.over hg (Kd.R_typed LA.out))
          have N4 := Aside0.mk (blk_grown LB.out hg NB.out)
          have NB2 := Aside0.mk (show some gB ≠ (Value.slice Ac hs.length cc).ownBlock from fun e => hat.elim (fun h => NB.out (e.trans h)) (fun ⟨b, h1, h2⟩ => by have := blk_lt LB.out; rw [← e] at h1; injection h1 with h1; omega))
          clear LB NB
          have LB := N4; have NB := NB2
          clear N4 NB2
          clear LA
          have LA := Aside0.mk ho
          clear ho hb hg hat
          clear BK1 HB QR
          have BK1 := N1; have HB := N2; have QR := N3
          clear N1 N2 N3
          refine hK.out _ _ ⟨BK1.out.c0, BK1.out.c1, BK1.out.c2⟩ (fun hHeld => ?_)
          clear hK K
          refine norm_ (a' := ?_) ?_ ?_
          rotate_left
          · show Act.put _ (some 26) _ = _
            simp only [Act.put, List.setIfInBounds_toArray, List.set_cons_zero, List.set_cons_succ, i64_w, i32_w]
            rfl
          refine one_ (i := 6) (N := some 29) #[true, true, true, true, true, true, true, false, false, false, false, false, false, false, false, false, false, false, false] rfl rfl (one_of HT_.out (by kernel_rfl)) (by decide) (fun K hK => ?_)
          refine Kd.R_append_rows_step encK (w0 := w) w.heap.size (by rfl) (.tmp 26) (.tmp 28) 35 26 (.slice none 0 0) 24 rfl Try.underlying35 info26 rfl (by decide) (by omega) (.slice Ac hs.length cc) hs [(A1, last.length, c1)] _ _ _ (fun _ => True) (fun _ => False) rfl rfl LA.out (C_head1 LB.out) (fun _ _ h => h) (fun _ h => h.elim) (fun _ _ => trivial) HB.out HB.out.size ?aL ?_
          (case aL => have h1 := HL12.out; have h2 := HHL.out; first | omega | (simp only [List.length_nil]; omega))
          intro vn wd ho hb hg hat
          obtain ⟨Ad, cd, e7⟩ := Kd.R_slice ho
          rw [show (hs ++ [(A1, last.length, c1)]).length = ll.length by rw [List.length_append, List.length_singleton, HHL.out, HLN.out]] at e7
          subst e7
          have N1 := Aside0.mk (BK1.out.grown hg (Kd.R_ne LA.out BK1.out.blk (by decide)))
          have N2 := Aside0.mk hb
          have N3 := Aside0.mk (QR.out.over hg (Kd.R_typed LA.out))
          clear LA
          have LA := Aside0.mk ho
          clear ho hb hg hat
          clear BK1 HB QR
          have BK1 := N1; have HB := N2; have QR := N3
          clear N1 N2 N3
          refine hK.out _ _ ⟨BK1.out.c0, BK1.out.c1, BK1.out.c2⟩ (fun hHeld => ?_)
          clear hK K
          refine norm_ (a' := ?_) ?_ ?_
          rotate_left
          · show Act.put _ (some 29) _ = _
            simp only [Act.put, List.setIfInBounds_toArray, List.set_cons_zero, List.set_cons_succ, i64_w, i32_w]
            rfl
          refine one_ (i := 7) (N := some 30) #[true, true, true, true, true, true, true, true, false, false, false, false, false, false, false, false, false, false, false] rfl rfl (one_of HT_.out (by kernel_rfl)) (by decide) (fun K hK => ?_)
          refine goes_ Try.func37 (by kernel_rfl) rfl #[.slice Ad ll.length cd] (by rfl) rfl rfl (by first | rfl | (simp only [List.map_toArray, List.map_cons, List.map_nil]; done) | (simp only [List.map_toArray, List.map_cons, List.map_nil]; rfl)) ?_
          have hR := Kd.R_reads' LA.out
          have hCC : Kd.C encK wd Ad ll.length (hs ++ [(A1, last.length, c1)]) := by have e := hR.1; have h := hR.2.2; rw [← e] at h; exact h
          refine (Pack_calls Ad cd ll _ (C_of_heads (by rw [List.length_append, List.length_singleton, HHL.out, HLN.out]) hCC (fun i x hi => by obtain ⟨B, c, h1, h2, h3⟩ := HHR.out i x hi; exact ⟨B, c, h1, h2, Kd.C_below h3 HB.out⟩)) hR.2.1 HS2.out.1 HS2.out.2).mono ?_
          (rw [HQ.out])
          rintro e we ⟨v0, v1, v2, rfl, hrs, hb⟩
          refine ⟨_, rfl, ?_⟩
          obtain ⟨A10, q10, e4⟩ := Kd.R_slice (hrs.row 0 _ _ rfl)
          obtain ⟨A11, q11, e5⟩ := Kd.R_slice (hrs.row 1 _ _ rfl)
          obtain ⟨A12, q12, e6⟩ := Kd.R_slice (hrs.row 2 _ _ rfl)
          subst e4 e5 e6
          have N1 := Aside0.mk (BK1.out.below hb)
          have N2 := Aside0.mk (below_step HB.out hb)
          have N3 := Aside0.mk (QR.out.below hb)
          have RR := Aside0.mk (hrs.lower HB.out.size)
          clear hb hrs hR hCC LA
          clear BK1 HB QR
          have BK1 := N1; have HB := N2; have QR := N3
          clear N1 N2 N3
          refine hK.out _ _ ⟨BK1.out.c0, BK1.out.c1, BK1.out.c2⟩ (fun hHeld => ?_)
          clear hK K
          refine norm_ (a' := ?_) ?_ ?_
          rotate_left
          · show Act.put _ (some 30) _ = _
            simp only [Act.put, List.setIfInBounds_toArray, List.set_cons_zero, List.set_cons_succ, i64_w, i32_w]
            rfl
          refine one_ (i := 8) (N := some 31) #[true, true, true, true, true, true, true, true, true, false, false, false, false, false, false, false, false, false, false] rfl rfl (one_of HT_.out (by kernel_rfl)) (by decide) (fun K hK => ?_)
          refine goes_ Try.func36 (by kernel_rfl) rfl #[.agg #[.slice A7 Q0.length q7, .slice A8 Q1.length q8, .slice A9 Q2.length q9], .agg #[.slice A10 Q0.length q10, .slice A11 Q1.length q11, .slice A12 Q2.length q12]] (by rfl) rfl rfl (by first | rfl | (simp only [List.map_toArray, List.map_cons, List.map_nil]; done) | (simp only [List.map_toArray, List.map_cons, List.map_nil]; rfl)) ?_
          refine (unicodetextref14_Same.calls k A7 q7 Q0 A8 q8 Q1 A9 q9 Q2 A10 q10 Q0 A11 q11 Q1 A12 q12 Q2 true _ (QR.out.row 0 _ _ rfl).read.2.1 (QR.out.row 0 _ _ rfl).read.2.2 (QR.out.row 1 _ _ rfl).read.2.1 (QR.out.row 1 _ _ rfl).read.2.2 (QR.out.row 2 _ _ rfl).read.2.1 (QR.out.row 2 _ _ rfl).read.2.2 (RR.out.row 0 _ _ rfl).read.2.1 (RR.out.row 0 _ _ rfl).read.2.2 (RR.out.row 1 _ _ rfl).read.2.1 (RR.out.row 1 _ _ rfl).read.2.2 (RR.out.row 2 _ _ rfl).read.2.1 (RR.out.row 2 _ _ rfl).read.2.2 HSM.out).mono ?_
          rintro e wf ⟨rfl, hb⟩
          refine ⟨_, rfl, ?_⟩
          have N1 := Aside0.mk (BK1.out.below hb)
          have N2 := Aside0.mk (below_step HB.out hb)
          have N3 := Aside0.mk (QR.out.below hb)
          clear hb RR
          clear BK1 HB QR
          have BK1 := N1; have HB := N2; have QR := N3
          clear N1 N2 N3
          refine hK.out _ _ ⟨BK1.out.c0, BK1.out.c1, BK1.out.c2⟩ (fun hHeld => ?_)
          clear hK K
          refine norm_ (a' := ?_) ?_ ?_
          rotate_left
          · show Act.put _ (some 31) _ = _
            simp only [Act.put, List.setIfInBounds_toArray, List.set_cons_zero, List.set_cons_succ, i64_w, i32_w]
            rfl
          refine pure_ (i := 9) (N := some 32) (v := ?_) (a' := ?_) #[true, true, true, true, true, true, true, true, true, true, false, false, false, false, false, false, false, false, false] rfl rfl (any_of HT_.out (by kernel_rfl)) (fun _ _ _ h => h) (Or.inl ⟨by rfl, ?_⟩) ?_ ?_
          rotate_left
          · intro w'
            go_simp
            with_reducible rfl
          rotate_left
          · simp only [Act.put, List.setIfInBounds_toArray, List.set_cons_zero, List.set_cons_succ, i64_w, i32_w]
            rfl
          refine pure_ (i := 10) (N := some 33) (v := ?_) (a' := ?_) #[true, true, true, true, true, true, true, true, true, true, true, false, false, false, false, false, false, false, false] rfl rfl (any_of HT_.out (by kernel_rfl)) (fun _ _ _ h => h) (Or.inl ⟨by rfl, ?_⟩) ?_ ?_
          rotate_left
          · intro w'
            go_simp
            with_reducible rfl
          rotate_left
          · simp only [Act.put, List.setIfInBounds_toArray, List.set_cons_zero, List.set_cons_succ, i64_w, i32_w]
            rfl
          refine pure_ (i := 11) (N := some 34) (v := ?_) (a' := ?_) #[true, true, true, true, true, true, true, true, true, true, true, true, false, false, false, false, false, false, false] rfl rfl (any_of HT_.out (by kernel_rfl)) (fun _ _ _ h => h) (Or.inl ⟨by rfl, ?_⟩) ?_ ?_
          rotate_left
          · intro w'
            go_simp
            with_reducible rfl
          rotate_left
          · simp only [Act.put, List.setIfInBounds_toArray, List.set_cons_zero, List.set_cons_succ, i64_w, i32_w]
            rfl
          refine pure_ (i := 12) (N := some 35) (v := ?_) (a' := ?_) #[true, true, true, true, true, true, true, true, true, true, true, true, true, false, false, false, false, false, false] rfl rfl (any_of HT_.out (by kernel_rfl)) (fun _ _ _ h => h) (Or.inl ⟨by rfl, ?_⟩) ?_ ?_
          rotate_left
          · intro w'
            go_simp
            with_reducible rfl
          rotate_left
          · simp only [Act.put, List.setIfInBounds_toArray, List.set_cons_zero, List.set_cons_succ, i64_w, i32_w]
            rfl
          refine pure_ (i := 13) (N := some 36) (v := ?_) (a' := ?_) #[true, true, true, true, true, true, true, true, true, true, true, true, true, true, false, false, false, false, false] rfl rfl (any_of HT_.out (by kernel_rfl)) (fun _ _ _ h => h) (Or.inl ⟨by rfl, ?_⟩) ?_ ?_
          rotate_left
          · intro w'
            go_simp
            with_reducible rfl
          rotate_left
          · simp only [Act.put, List.setIfInBounds_toArray, List.set_cons_zero, List.set_cons_succ, i64_w, i32_w]
            rfl
          refine pure_ (i := 14) (N := some 37) (v := ?_) (a' := ?_) #[true, true, true, true, true, true, true, true, true, true, true, true, true, true, true, false, false, false, false] rfl rfl (any_of HT_.out (by kernel_rfl)) (fun _ _ _ h => h) (Or.inl ⟨by rfl, ?_⟩) ?_ ?_
          rotate_left
          · intro w'
            go_simp
            with_reducible rfl
          rotate_left
          · simp only [Act.put, List.setIfInBounds_toArray, List.set_cons_zero, List.set_cons_succ, i64_w, i32_w]
            rfl
          refine pure_ (i := 15) (N := some 38) (v := ?_) (a' := ?_) #[true, true, true, true, true, true, true, true, true, true, true, true, true, true, true, true, false, false, false] rfl rfl (any_of HT_.out (by kernel_rfl)) (fun _ _ _ h => h) (Or.inl ⟨by rfl, ?_⟩) ?_ ?_
          rotate_left
          · intro w'
            go_simp
            with_reducible rfl
          rotate_left
          · simp only [Act.put, List.setIfInBounds_toArray, List.set_cons_zero, List.set_cons_succ, i64_w, i32_w]
            rfl
          refine one_ (i := 16) (N := some 39) #[true, true, true, true, true, true, true, true, true, true, true, true, true, true, true, true, true, false, false] rfl rfl (one_of HT_.out (by kernel_rfl)) (by decide) (fun K hK => ?_)
          refine goes_ Try.func39 (by kernel_rfl) rfl #[] (by rfl) rfl rfl (by first | rfl | (simp only [List.map_toArray, List.map_cons, List.map_nil]; done) | (simp only [List.map_toArray, List.map_cons, List.map_nil]; rfl)) ?_
          refine (law14_alive.calls true _ rfl).mono ?_
          rintro e wg ⟨rfl, hb⟩
          refine ⟨_, rfl, ?_⟩
          have N1 := Aside0.mk (BK1.out.below hb)
          have N2 := Aside0.mk (below_step HB.out hb)
          have N3 := Aside0.mk (QR.out.below hb)
          clear hb
          clear BK1 HB QR
          have BK1 := N1; have HB := N2; have QR := N3
          clear N1 N2 N3
          refine hK.out _ _ ⟨BK1.out.c0, BK1.out.c1, BK1.out.c2⟩ (fun hHeld => ?_)
          clear hK K
          refine norm_ (a' := ?_) ?_ ?_
          rotate_left
          · show Act.put _ (some 39) _ = _
            simp only [Act.put, List.setIfInBounds_toArray, List.set_cons_zero, List.set_cons_succ, i64_w, i32_w]
            rfl
          refine pure_ (i := 17) (N := some 40) (v := ?_) (a' := ?_) #[true, true, true, true, true, true, true, true, true, true, true, true, true, true, true, true, true, true, false] rfl rfl (any_of HT_.out (by kernel_rfl)) (fun _ _ _ h => h) (Or.inl ⟨by rfl, ?_⟩) ?_ ?_
          rotate_left
          · intro w'
            go_simp
            with_reducible rfl
          rotate_left
          · simp only [Act.put, List.setIfInBounds_toArray, List.set_cons_zero, List.set_cons_succ, i64_w, i32_w]
            rfl
          refine pure_ (i := 18) (N := some 4) (v := ?_) (a' := ?_) #[true, true, true, true, true, true, true, true, true, true, true, true, true, true, true, true, true, true, true] rfl rfl (any_of HT_.out (by kernel_rfl)) (fun _ _ _ h => h) (Or.inl ⟨by rfl, ?_⟩) ?_ ?_
          rotate_left
          · intro w'
            go_simp
            with_reducible rfl
          rotate_left
          · simp only [Act.put, List.setIfInBounds_toArray, List.set_cons_zero, List.set_cons_succ, i64_w, i32_w]
            rfl
          refine done_ (done_of HT_.out (by kernel_rfl)) ?_
          refine hK9 _ _ (wp_ret ?_)
          go_ret
          exact ⟨rfl, HB.out⟩
      · skip
        refine event_step (v := .slice (some ⟨w7.heap.size, 0, none⟩) 1 1) (w1 := w7.alloc (.cells #[hdV (A1, last.length, c1)] 26)) (by rfl) ?hr ?_
        (case hr => first | (go_simp; done) | (go_simp; rfl))
        have hb := below_alloc (Below.refl w7.heap.size w7) (.cells #[hdV (A1, last.length, c1)] 26)
        have N1 := Aside0.mk (BK1.out.below hb)
        have N2 := Aside0.mk (below_step HB.out hb)
        have N3 := Aside0.mk (QR.out.below hb)
        have LB := Aside0.mk (alloc_at w7 (.cells #[hdV (A1, last.length, c1)] 26))
        clear hb
        clear BK1 HB QR
        have BK1 := N1; have HB := N2; have QR := N3
        clear N1 N2 N3
        generalize w7.heap.size = gB at LB ⊢
        generalize w7.alloc (.cells #[hdV (A1, last.length, c1)] 26) = wb at BK1 HB QR LB ⊢
        refine hK.out _ _ ⟨BK1.out.c0, BK1.out.c1, BK1.out.c2⟩ (fun hHeld => ?_)
        clear hK K
        refine norm_ (a' := ?_) ?_ ?_
        rotate_left
        · show Act.put _ (some 28) _ = _
          simp only [Act.put, List.setIfInBounds_toArray, List.set_cons_zero, List.set_cons_succ, i64_w, i32_w]
          rfl
        refine one_ (i := 1) (N := some 24) #[true, true, true, false, true, true, false, false, false, false, false, false, false, false, false, false, false, false, false] rfl rfl (one_of HT_.out (by kernel_rfl)) (by decide) (fun K hK => ?_)
        refine Kd.R_lit_step encK _ 26 ?hg (N := 24) ?hd (xs := ([] : List Hd)) (inner := []) (ok := fun _ => True) (okp := fun _ => True) ?hr ?hp (fun _ hk => hk) trivial (Below.refl _ _) (Nat.le_refl _) (by simp) ?_
        (case hd => rfl)
        (case hg => rfl)
        (case hr => first | (go_simp; done) | (go_simp; rfl))
        (case hp => exact Reps.none _ _)
        intro v wa ho hb hg hat
        obtain ⟨Aa, ca, e7⟩ := Kd.R_slice ho
        obtain rfl : v = .slice Aa 0 ca := e7
        have N1 := Aside0.mk (BK1.out.below hb)
        have N2 := Aside0.mk (below_step HB.out hb)
        have N3 := Aside0.mk (QR.out.below hb)
        have LA := Aside0.mk (Kd.R_lower ho HB.out.size)
        have NB := Aside0.mk (show some gB ≠ (Value.slice Aa 0 ca).ownBlock from fun e => by obtain ⟨b, hb1, hb2⟩ := hat; have := blk_lt LB.out; rw [← e] at hb1; injection hb1 with hb1; omega)
        have N4 := Aside0.mk (blk_below LB.out hb)
        clear LB
        have LB := N4
        clear N4
        clear hb ho hg hat
        clear BK1 HB QR
        have BK1 := N1; have HB := N2; have QR := N3
        clear N1 N2 N3
        refine hK.out _ _ ⟨BK1.out.c0, BK1.out.c1, BK1.out.c2⟩ (fun hHeld => ?_)
        clear hK K
        refine norm_ (a' := ?_) ?_ ?_
        rotate_left
        · show Act.put _ (some 24) _ = _
          simp only [Act.put, List.setIfInBounds_toArray, List.set_cons_zero, List.set_cons_succ, i64_w, i32_w]
          rfl
        refine one_ (i := 3) (N := some 26) #[true, true, true, true, true, true, false, false, false, false, false, false, false, false, false, false, false, false, false] rfl rfl (one_of HT_.out (by kernel_rfl)) (by decide) (fun K hK => ?_)
        refine Kd.R_append_rows_step encK (w0 := w) w.heap.size (by rfl) (.tmp 24) (.tmp 25) 35 26 (.slice none 0 0) 24 rfl Try.underlying35 info26 rfl (by decide) (by omega) (.slice Aa 0 ca) [] hs _ _ _ (fun _ => True) (fun _ => False) rfl rfl LA.out (Kd.C_below HHC.out HB.out) (fun _ _ h => h) (fun _ h => h.elim) (fun _ _ => trivial) HB.out HB.out.size ?aL ?_
        (case aL => have h1 := HL12.out; have h2 := HHL.out; first | omega | (simp only [List.length_nil]; omega))
        intro vn wc ho hb hg hat
        rw [List.nil_append] at ho
        obtain ⟨Ac, cc, rfl⟩ := Kd.R_slice ho
        have N1 := Aside0.mk (BK1.out.grown hg (Kd.R_ne LA.out BK1.out.blk (by decide)))
        have N2 := Aside0.mk hb
        have N3 := Aside0.mk (QR.out.over hg (Kd.R_typed LA.out))
        have N4 := Aside0.mk (blk_grown LB.out hg NB.out)
        have NB2 := Aside0.mk (show some gB ≠ (Value.slice Ac hs.length cc).ownBlock from fun e => hat.elim (fun h => NB.out (e.trans h)) (fun ⟨b, h1, h2⟩ => by have := blk_lt LB.out; rw [← e] at h1; injection h1 with h1; omega))
        clear LB NB
        have LB := N4; have NB := NB2
        clear N4 NB2
        clear LA
        have LA := Aside0.mk ho
        clear ho hb hg hat
        clear BK1 HB QR
        have BK1 := N1; have HB := N2; have QR := N3
        clear N1 N2 N3
        refine hK.out _ _ ⟨BK1.out.c0, BK1.out.c1, BK1.out.c2⟩ (fun hHeld => ?_)
        clear hK K
        refine norm_ (a' := ?_) ?_ ?_
        rotate_left
        · show Act.put _ (some 26) _ = _
          simp only [Act.put, List.setIfInBounds_toArray, List.set_cons_zero, List.set_cons_succ, i64_w, i32_w]
          rfl
        refine one_ (i := 6) (N := some 29) #[true, true, true, true, true, true, true, false, false, false, false, false, false, false, false, false, false, false, false] rfl rfl (one_of HT_.out (by kernel_rfl)) (by decide) (fun K hK => ?_)
        refine Kd.R_append_rows_step encK (w0 := w) w.heap.size (by rfl) (.tmp 26) (.tmp 28) 35 26 (.slice none 0 0) 24 rfl Try.underlying35 info26 rfl (by decide) (by omega) (.slice Ac hs.length cc) hs [(A1, last.length, c1)] _ _ _ (fun _ => True) (fun _ => False) rfl rfl LA.out (C_head1 LB.out) (fun _ _ h => h) (fun _ h => h.elim) (fun _ _ => trivial) HB.out HB.out.size ?aL ?_
        (case aL => have h1 := HL12.out; have h2 := HHL.out; first | omega | (simp only [List.length_nil]; omega))
        intro vn wd ho hb hg hat
        obtain ⟨Ad, cd, e7⟩ := Kd.R_slice ho
        rw [show (hs ++ [(A1, last.length, c1)]).length = ll.length by rw [List.length_append, List.length_singleton, HHL.out, HLN.out]] at e7
        subst e7
        have N1 := Aside0.mk (BK1.out.grown hg (Kd.R_ne LA.out BK1.out.blk (by decide)))
        have N2 := Aside0.mk hb
        have N3 := Aside0.mk (QR.out.over hg (Kd.R_typed LA.out))
        clear LA
        have LA := Aside0.mk ho
        clear ho hb hg hat
        clear BK1 HB QR
        have BK1 := N1; have HB := N2; have QR := N3
        clear N1 N2 N3
        refine hK.out _ _ ⟨BK1.out.c0, BK1.out.c1, BK1.out.c2⟩ (fun hHeld => ?_)
        clear hK K
        refine norm_ (a' := ?_) ?_ ?_
        rotate_left
        · show Act.put _ (some 29) _ = _
          simp only [Act.put, List.setIfInBounds_toArray, List.set_cons_zero, List.set_cons_succ, i64_w, i32_w]
          rfl
        refine one_ (i := 7) (N := some 30) #[true, true, true, true, true, true, true, true, false, false, false, false, false, false, false, false, false, false, false] rfl rfl (one_of HT_.out (by kernel_rfl)) (by decide) (fun K hK => ?_)
        refine goes_ Try.func37 (by kernel_rfl) rfl #[.slice Ad ll.length cd] (by rfl) rfl rfl (by first | rfl | (simp only [List.map_toArray, List.map_cons, List.map_nil]; done) | (simp only [List.map_toArray, List.map_cons, List.map_nil]; rfl)) ?_
        have hR := Kd.R_reads' LA.out
        have hCC : Kd.C encK wd Ad ll.length (hs ++ [(A1, last.length, c1)]) := by have e := hR.1; have h := hR.2.2; rw [← e] at h; exact h
        refine (Pack_calls Ad cd ll _ (C_of_heads (by rw [List.length_append, List.length_singleton, HHL.out, HLN.out]) hCC (fun i x hi => by obtain ⟨B, c, h1, h2, h3⟩ := HHR.out i x hi; exact ⟨B, c, h1, h2, Kd.C_below h3 HB.out⟩)) hR.2.1 HS2.out.1 HS2.out.2).mono ?_
        (rw [HQ.out])
        rintro e we ⟨v0, v1, v2, rfl, hrs, hb⟩
        refine ⟨_, rfl, ?_⟩
        obtain ⟨A10, q10, e4⟩ := Kd.R_slice (hrs.row 0 _ _ rfl)
        obtain ⟨A11, q11, e5⟩ := Kd.R_slice (hrs.row 1 _ _ rfl)
        obtain ⟨A12, q12, e6⟩ := Kd.R_slice (hrs.row 2 _ _ rfl)
        subst e4 e5 e6
        have N1 := Aside0.mk (BK1.out.below hb)
        have N2 := Aside0.mk (below_step HB.out hb)
        have N3 := Aside0.mk (QR.out.below hb)
        have RR := Aside0.mk (hrs.lower HB.out.size)
        clear hb hrs hR hCC LA
        clear BK1 HB QR
        have BK1 := N1; have HB := N2; have QR := N3
        clear N1 N2 N3
        refine hK.out _ _ ⟨BK1.out.c0, BK1.out.c1, BK1.out.c2⟩ (fun hHeld => ?_)
        clear hK K
        refine norm_ (a' := ?_) ?_ ?_
        rotate_left
        · show Act.put _ (some 30) _ = _
          simp only [Act.put, List.setIfInBounds_toArray, List.set_cons_zero, List.set_cons_succ, i64_w, i32_w]
          rfl
        refine one_ (i := 8) (N := some 31) #[true, true, true, true, true, true, true, true, true, false, false, false, false, false, false, false, false, false, false] rfl rfl (one_of HT_.out (by kernel_rfl)) (by decide) (fun K hK => ?_)
        refine goes_ Try.func36 (by kernel_rfl) rfl #[.agg #[.slice A7 Q0.length q7, .slice A8 Q1.length q8, .slice A9 Q2.length q9], .agg #[.slice A10 Q0.length q10, .slice A11 Q1.length q11, .slice A12 Q2.length q12]] (by rfl) rfl rfl (by first | rfl | (simp only [List.map_toArray, List.map_cons, List.map_nil]; done) | (simp only [List.map_toArray, List.map_cons, List.map_nil]; rfl)) ?_
        refine (unicodetextref14_Same.calls k A7 q7 Q0 A8 q8 Q1 A9 q9 Q2 A10 q10 Q0 A11 q11 Q1 A12 q12 Q2 true _ (QR.out.row 0 _ _ rfl).read.2.1 (QR.out.row 0 _ _ rfl).read.2.2 (QR.out.row 1 _ _ rfl).read.2.1 (QR.out.row 1 _ _ rfl).read.2.2 (QR.out.row 2 _ _ rfl).read.2.1 (QR.out.row 2 _ _ rfl).read.2.2 (RR.out.row 0 _ _ rfl).read.2.1 (RR.out.row 0 _ _ rfl).read.2.2 (RR.out.row 1 _ _ rfl).read.2.1 (RR.out.row 1 _ _ rfl).read.2.2 (RR.out.row 2 _ _ rfl).read.2.1 (RR.out.row 2 _ _ rfl).read.2.2 HSM.out).mono ?_
        rintro e wf ⟨rfl, hb⟩
        refine ⟨_, rfl, ?_⟩
        have N1 := Aside0.mk (BK1.out.below hb)
        have N2 := Aside0.mk (below_step HB.out hb)
        have N3 := Aside0.mk (QR.out.below hb)
        clear hb RR
        clear BK1 HB QR
        have BK1 := N1; have HB := N2; have QR := N3
        clear N1 N2 N3
        refine hK.out _ _ ⟨BK1.out.c0, BK1.out.c1, BK1.out.c2⟩ (fun hHeld => ?_)
        clear hK K
        refine norm_ (a' := ?_) ?_ ?_
        rotate_left
        · show Act.put _ (some 31) _ = _
          simp only [Act.put, List.setIfInBounds_toArray, List.set_cons_zero, List.set_cons_succ, i64_w, i32_w]
          rfl
        refine pure_ (i := 9) (N := some 32) (v := ?_) (a' := ?_) #[true, true, true, true, true, true, true, true, true, true, false, false, false, false, false, false, false, false, false] rfl rfl (any_of HT_.out (by kernel_rfl)) (fun _ _ _ h => h) (Or.inl ⟨by rfl, ?_⟩) ?_ ?_
        rotate_left
        · intro w'
          go_simp
          with_reducible rfl
        rotate_left
        · simp only [Act.put, List.setIfInBounds_toArray, List.set_cons_zero, List.set_cons_succ, i64_w, i32_w]
          rfl
        refine pure_ (i := 10) (N := some 33) (v := ?_) (a' := ?_) #[true, true, true, true, true, true, true, true, true, true, true, false, false, false, false, false, false, false, false] rfl rfl (any_of HT_.out (by kernel_rfl)) (fun _ _ _ h => h) (Or.inl ⟨by rfl, ?_⟩) ?_ ?_
        rotate_left
        · intro w'
          go_simp
          with_reducible rfl
        rotate_left
        · simp only [Act.put, List.setIfInBounds_toArray, List.set_cons_zero, List.set_cons_succ, i64_w, i32_w]
          rfl
        refine pure_ (i := 11) (N := some 34) (v := ?_) (a' := ?_) #[true, true, true, true, true, true, true, true, true, true, true, true, false, false, false, false, false, false, false] rfl rfl (any_of HT_.out (by kernel_rfl)) (fun _ _ _ h => h) (Or.inl ⟨by rfl, ?_⟩) ?_ ?_
        rotate_left
        · intro w'
          go_simp
          with_reducible rfl
        rotate_left
        · simp only [Act.put, List.setIfInBounds_toArray, List.set_cons_zero, List.set_cons_succ, i64_w, i32_w]
          rfl
        refine pure_ (i := 12) (N := some 35) (v := ?_) (a' := ?_) #[true, true, true, true, true, true, true, true, true, true, true, true, true, false, false, false, false, false, false] rfl rfl (any_of HT_.out (by kernel_rfl)) (fun _ _ _ h => h) (Or.inl ⟨by rfl, ?_⟩) ?_ ?_
        rotate_left
        · intro w'
          go_simp
          with_reducible rfl
        rotate_left
        · simp only [Act.put, List.setIfInBounds_toArray, List.set_cons_zero, List.set_cons_succ, i64_w, i32_w]
          rfl
        refine pure_ (i := 13) (N := some 36) (v := ?_) (a' := ?_) #[true, true, true, true, true, true, true, true, true, true, true, true, true, true, false, false, false, false, false] rfl rfl (any_of HT_.out (by kernel_rfl)) (fun _ _ _ h => h) (Or.inl ⟨by rfl, ?_⟩) ?_ ?_
        rotate_left
        · intro w'
          go_simp
          with_reducible rfl
        rotate_left
        · simp only [Act.put, List.setIfInBounds_toArray, List.set_cons_zero, List.set_cons_succ, i64_w, i32_w]
          rfl
        refine pure_ (i := 14) (N := some 37) (v := ?_) (a' := ?_) #[true, true, true, true, true, true, true, true, true, true, true, true, true, true, true, false, false, false, false] rfl rfl (any_of HT_.out (by kernel_rfl)) (fun _ _ _ h => h) (Or.inl ⟨by rfl, ?_⟩) ?_ ?_
        rotate_left
        · intro w'
          go_simp
          with_reducible rfl
        rotate_left
        · simp only [Act.put, List.setIfInBounds_toArray, List.set_cons_zero, List.set_cons_succ, i64_w, i32_w]
          rfl
        refine pure_ (i := 15) (N := some 38) (v := ?_) (a' := ?_) #[true, true, true, true, true, true, true, true, true, true, true, true, true, true, true, true, false, false, false] rfl rfl (any_of HT_.out (by kernel_rfl)) (fun _ _ _ h => h) (Or.inl ⟨by rfl, ?_⟩) ?_ ?_
        rotate_left
        · intro w'
          go_simp
          with_reducible rfl
        rotate_left
        · simp only [Act.put, List.setIfInBounds_toArray, List.set_cons_zero, List.set_cons_succ, i64_w, i32_w]
          rfl
        refine one_ (i := 16) (N := some 39) #[true, true, true, true, true, true, true, true, true, true, true, true, true, true, true, true, true, false, false] rfl rfl (one_of HT_.out (by kernel_rfl)) (by decide) (fun K hK => ?_)
        refine goes_ Try.func39 (by kernel_rfl) rfl #[] (by rfl) rfl rfl (by first | rfl | (simp only [List.map_toArray, List.map_cons, List.map_nil]; done) | (simp only [List.map_toArray, List.map_cons, List.map_nil]; rfl)) ?_
        refine (law14_alive.calls true _ rfl).mono ?_
        rintro e wg ⟨rfl, hb⟩
        refine ⟨_, rfl, ?_⟩
        have N1 := Aside0.mk (BK1.out.below hb)
        have N2 := Aside0.mk (below_step HB.out hb)
        have N3 := Aside0.mk (QR.out.below hb)
        clear hb
        clear BK1 HB QR
        have BK1 := N1; have HB := N2; have QR := N3
        clear N1 N2 N3
        refine hK.out _ _ ⟨BK1.out.c0, BK1.out.c1, BK1.out.c2⟩ (fun hHeld => ?_)
        clear hK K
        refine norm_ (a' := ?_) ?_ ?_
        rotate_left
        · show Act.put _ (some 39) _ = _
          simp only [Act.put, List.setIfInBounds_toArray, List.set_cons_zero, List.set_cons_succ, i64_w, i32_w]
          rfl
        refine pure_ (i := 17) (N := some 40) (v := ?_) (a' := ?_) #[true, true, true, true, true, true, true, true, true, true, true, true, true, true, true, true, true, true, false] rfl rfl (any_of HT_.out (by kernel_rfl)) (fun _ _ _ h => h) (Or.inl ⟨by rfl, ?_⟩) ?_ ?_
        rotate_left
        · intro w'
          go_simp
          with_reducible rfl
        rotate_left
        · simp only [Act.put, List.setIfInBounds_toArray, List.set_cons_zero, List.set_cons_succ, i64_w, i32_w]
          rfl
        refine pure_ (i := 18) (N := some 4) (v := ?_) (a' := ?_) #[true, true, true, true, true, true, true, true, true, true, true, true, true, true, true, true, true, true, true] rfl rfl (any_of HT_.out (by kernel_rfl)) (fun _ _ _ h => h) (Or.inl ⟨by rfl, ?_⟩) ?_ ?_
        rotate_left
        · intro w'
          go_simp
          with_reducible rfl
        rotate_left
        · simp only [Act.put, List.setIfInBounds_toArray, List.set_cons_zero, List.set_cons_succ, i64_w, i32_w]
          rfl
        refine done_ (done_of HT_.out (by kernel_rfl)) ?_
        refine hK9 _ _ (wp_ret ?_)
        go_ret
        exact ⟨rfl, HB.out⟩
def unicodetextlaw14_SeqpoolSteps.f (l0 : List (List Int)) (l1 : List Int) : Option Bool := some true
theorem unicodetextlaw14_SeqpoolSteps.calls (A0 : Option Addr) (c0 : Nat) (l0 : List (List Int)) (A1 : Option Addr) (c1 : Nat) (l1 : List Int) (r : Bool) (w : World) (hr0 : Kd.C (Kd.slice 3 (Kd.int .i64)) w A0 l0.length l0) (hc0 : l0.length ≤ c0) (hr1 : Kd.C (Kd.int .i64) w A1 l1.length l1) (hc1 : l1.length ≤ c1) (h : unicodetextlaw14_SeqpoolSteps.f l0 l1 = some r) :
    Calls Try.prog 13 #[.slice A0 l0.length c0, .slice A1 l1.length c1] w fun e w' => e = .returned (.bool r) ∧ Below w.heap.size w w' := by
  injection h with h
  subst h
  exact steps_calls A0 c0 l0 A1 c1 l1 w hr0 hc0 hr1 hc1
end Go.Proofs.Ytdlijioedokgjaa.Q

/- seqpool.own, add, Add, Pack, Get, Find by hand. -/
import Derived.Test.YtdlijioedokgjaaHRows
import Derived.Test.YtdlijioedokgjaaHPlace
import Derived.Test.YtdlijioedokgjaaQF59
import Derived.Handy
namespace Go.Proofs.Ytdlijioedokgjaa.Q
open Go.RowKit Go.Proofs.YtdlijioedokgjaaW.PrintWords Go.Proofs.YtdlijioedokgjaaW.PrintLast Go.Proofs.YtdlijioedokgjaaW.PrintMore
set_option linter.unusedVariables false
set_option linter.unusedSimpArgs false

/-- The three rows of a pool that a call has made. -/
def R3 (w' : World) (base : Nat) (v0 v1 v2 : Value) (r1 r2 r3 : List Int) : Prop :=
  Kd.R (Kd.int .i64) 3 w' base (fun k => some k ≠ v1.ownBlock ∧ some k ≠ v2.ownBlock) v0 r1 ∧ Kd.R (Kd.int .i64) 3 w' base (fun k => some k ≠ v0.ownBlock ∧ some k ≠ v2.ownBlock) v1 r2 ∧ Kd.R (Kd.int .i64) 3 w' base (fun k => some k ≠ v0.ownBlock ∧ some k ≠ v1.ownBlock) v2 r3
def OwnPost (b : Bool) (l0 l1 l2 : List Int) (w : World) (e : Ending) (w' : World) : Prop :=
  ∃ v0 v1 v2, e = .returned (.agg #[v0, v1, v2]) ∧ R3 w' w.heap.size v0 v1 v2 (if b then l0 else []) (if b then l1 else []) (if b then l2 else []) ∧ Below w.heap.size w w'
theorem R_nil (w' : World) (base : Nat) (ok : Nat → Prop) : Kd.R (Kd.int .i64) 3 w' base ok (.slice none 0 0) [] :=
  Kd.R_of_own (enc := Value.int .i64) (h1 := fun _ => rfl) (World.ownsRow_nil w' base 3 1) (fun k h => by simp [Value.ownBlock] at h)
theorem R3_nil (w' : World) (base : Nat) : R3 w' base (.slice none 0 0) (.slice none 0 0) (.slice none 0 0) [] [] [] := ⟨R_nil _ _ _, R_nil _ _ _, R_nil _ _ _⟩

theorem R_pair {w' W : World} {B : Nat} {ok ok' : Nat → Prop} {v0 v1 : Value} {xs ys : List Int} (h0 : Kd.R (Kd.int .i64) 3 W B ok v0 xs) (hb : Below W.heap.size W w') (h1 : Kd.R (Kd.int .i64) 3 w' W.heap.size ok' v1 ys) (hB : B ≤ W.heap.size) :
    Kd.R (Kd.int .i64) 3 w' B (fun k => ok k ∧ some k ≠ v1.ownBlock) v0 xs ∧ Kd.R (Kd.int .i64) 3 w' B (fun k => ok' k ∧ some k ≠ v0.ownBlock) v1 ys := by
  have hv1 : ∀ k, v1.ownBlock = some k → W.heap.size ≤ k := by
    obtain ⟨inner, ho⟩ := Kd.R_own h1
    exact fun k hk => own_base ho k hk
  refine ⟨Kd.R_below (Kd.R_mono (Kd.R_bound h0) (fun k hk => ⟨hk.1, fun e => ?_⟩)) hb, Kd.R_lower (Kd.R_new' h1 (Kd.R_lt h0)) hB⟩
  have := hv1 k e.symm
  have := hk.2.2.1
  omega

theorem R_trip {w' W : World} {B : Nat} {ok0 ok1 ok2 : Nat → Prop} {v0 v1 v2 : Value} {xs ys zs : List Int} (h0 : Kd.R (Kd.int .i64) 3 W B ok0 v0 xs) (h1 : Kd.R (Kd.int .i64) 3 W B ok1 v1 ys) (hb : Below W.heap.size W w') (h2 : Kd.R (Kd.int .i64) 3 w' W.heap.size ok2 v2 zs) (hB : B ≤ W.heap.size) :
    Kd.R (Kd.int .i64) 3 w' B (fun k => ok0 k ∧ some k ≠ v2.ownBlock) v0 xs ∧ Kd.R (Kd.int .i64) 3 w' B (fun k => ok1 k ∧ some k ≠ v2.ownBlock) v1 ys ∧ Kd.R (Kd.int .i64) 3 w' B (fun k => (ok2 k ∧ some k ≠ v0.ownBlock) ∧ some k ≠ v1.ownBlock) v2 zs :=
  ⟨(R_pair h0 hb h2 hB).1, (R_pair h1 hb h2 hB).1, Kd.R_lower (Kd.R_new' (Kd.R_new' h2 (Kd.R_lt h0)) (Kd.R_lt h1)) hB⟩
theorem R_put3 {W : World} {B g : Nat} {ok : Nat → Prop} {v : Value} {xs : List Int} {a b c : Value} (h : Kd.R (Kd.int .i64) 3 W B ok v xs) (hk : Blk3 W g a b c) (x y z : Value) :
    Kd.R (Kd.int .i64) 3 (((W.setCell ⟨g, 0, none⟩ x).setCell ⟨g, 1, none⟩ y).setCell ⟨g, 2, none⟩ z) B ok v xs := by
  refine Kd.R_mono (Kd.R_step (Kd.R_bound h) (fun k hk1 hlt => ?_)) (fun _ hk => hk.1)
  have hne : k ≠ g := by
    obtain ⟨_, _, _, q, hq, cells, hc⟩ := hk1
    rintro rfl
    rw [hk.blk] at hc
    injection hc with h1
    injection h1 with _ h2
    have h3 : q = 3 := by simpa [Kd.int, Kd.scalar] using hq
    subst h3
    exact absurd h2 (by decide)
  rw [Below.heap_setCell _ _ _ _ (by simpa using hne), Below.heap_setCell _ _ _ _ (by simpa using hne), Below.heap_setCell _ _ _ _ (by simpa using hne)]

set_option maxHeartbeats 2000000 in
set_option maxRecDepth 100000 in
theorem own_calls (k : Nat) (A0 : Option Addr) (c0 : Nat) (l0 : List Int) (A1 : Option Addr) (c1 : Nat) (l1 : List Int) (A2 : Option Addr) (c2 : Nat) (l2 : List Int) (b : Bool) (w : World) (hr0 : Kd.C (Kd.int .i64) w A0 l0.length l0) (hc0 : l0.length ≤ c0) (hr1 : Kd.C (Kd.int .i64) w A1 l1.length l1) (hc1 : l1.length ≤ c1) (hr2 : Kd.C (Kd.int .i64) w A2 l2.length l2) (hc2 : l2.length ≤ c2) (hb0 : l0.length ≤ 1000000000) (hb1 : l1.length ≤ 1000000000) (hb2 : l2.length ≤ 1000000000) (h : seqpool_Valid.f k l0 l1 l2 = some b) :
    Calls Try.prog 94 #[.agg #[.slice A0 l0.length c0, .slice A1 l1.length c1, .slice A2 l2.length c2]] w (OwnPost b l0 l1 l2 w) := by
  have hu39 := Try.underlying39
  have HR0 := Aside0.mk hr0
  have HR1 := Aside0.mk hr1
  have HR2 := Aside0.mk hr2
  clear hr0 hr1 hr2
  have HV := Aside0.mk (fun W a0 a1 a2 => seqpool_Valid.calls k A0 c0 l0 A1 c1 l1 A2 c2 l2 b W a0 hc0 a1 hc1 a2 hc2 h)
  clear h
  go_enter Try.func94, Try.ntmps94
  cases b with
  | false =>
    go_wp2_with (first | ((with_reducible refine gate_dst (N := 1) rfl ?_); refine box_event ?hg (N := 1) ?hd (cs := #[.slice A0 l0.length c0, .slice A1 l1.length c1, .slice A2 l2.length c2]) (t := 39) ?hr ?_; (case hd => rfl); (case hg => rfl); (case hr => first | (go_simp; done) | (go_simp; rfl)); intro g1 hg w1 hbox hb; have BK1 := Aside0.mk (Blk3.mk hbox); have HB1 := Aside0.mk hb; have EG1 := Aside0.mk (show w.heap.size ≤ g1 by omega); clear hg hbox hb) | ((with_reducible refine gate_dst (N := 2) rfl ?_); refine box_event ?hg (N := 2) ?hd (cs := #[.slice none 0 0, .slice none 0 0, .slice none 0 0]) (t := 39) ?hr ?_; (case hd => rfl); (case hg => rfl); (case hr => first | (go_simp; done) | (go_simp; rfl)); intro g2 hg w2 hbox hb; have BK2 := Aside0.mk (Blk3.mk hbox); have BK1b := Aside0.mk (BK1.out.below hb); have HB2 := Aside0.mk (below_step HB1.out hb); have EG2 := Aside0.mk (show w.heap.size ≤ g2 by have := HB1.out.size; omega); clear hg hbox hb; have z0 := BK1b.out.c0; have z1 := BK1b.out.c1; have z2 := BK1b.out.c2; have fz0 := BK1b.out.f 0; have fz1 := BK1b.out.f 1; have fz2 := BK1b.out.f 2) | (go_at_call 59; refine (HV.out _ (Kd.C_below HR0.out HB2.out) (Kd.C_below HR1.out HB2.out) (Kd.C_below HR2.out HB2.out)).mono ?_; rintro e w3 ⟨rfl, hb⟩; have HB3 := Aside0.mk (below_step HB2.out hb); have BK2b := Aside0.mk (BK2.out.below hb); have z3 := BK2b.out.c0; have z4 := BK2b.out.c1; have z5 := BK2b.out.c2; have fz3 := BK2b.out.f 0; have fz4 := BK2b.out.f 1; have fz5 := BK2b.out.f 2))
    have BK3 := BK2b.out.put (.slice none 0 0) (.slice none 0 0) (.slice none 0 0)
    have HB4 := below_put3 HB3.out EG2.out (.slice none 0 0) (.slice none 0 0) (.slice none 0 0)
    clear z0 z1 z2 z3 z4 z5 fz0 fz1 fz2 fz3 fz4 fz5
    generalize (((w3.setCell ⟨g2, 0, none⟩ (.slice none 0 0)).setCell ⟨g2, 1, none⟩ (.slice none 0 0)).setCell ⟨g2, 2, none⟩ (.slice none 0 0)) = W4 at BK3 HB4 ⊢
    have z0 := BK3.c0; have z1 := BK3.c1; have z2 := BK3.c2
    refine bodyPost_ret (by simp [results, Try.results94, go_sem, z0, z1, z2]; rfl) rfl ?_
    exact ⟨_, _, _, rfl, R3_nil _ _, HB4⟩
  | true =>
    go_wp2_with (first | ((with_reducible refine gate_dst (N := 1) rfl ?_); refine box_event ?hg (N := 1) ?hd (cs := #[.slice A0 l0.length c0, .slice A1 l1.length c1, .slice A2 l2.length c2]) (t := 39) ?hr ?_; (case hd => rfl); (case hg => rfl); (case hr => first | (go_simp; done) | (go_simp; rfl)); intro g1 hg w1 hbox hb; have BK1 := Aside0.mk (Blk3.mk hbox); have HB1 := Aside0.mk hb; have EG1 := Aside0.mk (show w.heap.size ≤ g1 by omega); clear hg hbox hb) | ((with_reducible refine gate_dst (N := 2) rfl ?_); refine box_event ?hg (N := 2) ?hd (cs := #[.slice none 0 0, .slice none 0 0, .slice none 0 0]) (t := 39) ?hr ?_; (case hd => rfl); (case hg => rfl); (case hr => first | (go_simp; done) | (go_simp; rfl)); intro g2 hg w2 hbox hb; have BK2 := Aside0.mk (Blk3.mk hbox); have BK1b := Aside0.mk (BK1.out.below hb); have HB2 := Aside0.mk (below_step HB1.out hb); have EG2 := Aside0.mk (show w.heap.size ≤ g2 by have := HB1.out.size; omega); clear hg hbox hb; have z0 := BK1b.out.c0; have z1 := BK1b.out.c1; have z2 := BK1b.out.c2; have fz0 := BK1b.out.f 0; have fz1 := BK1b.out.f 1; have fz2 := BK1b.out.f 2) | (go_at_call 59; refine (HV.out _ (Kd.C_below HR0.out HB2.out) (Kd.C_below HR1.out HB2.out) (Kd.C_below HR2.out HB2.out)).mono ?_; rintro e w3 ⟨rfl, hb⟩; have HB3 := Aside0.mk (below_step HB2.out hb); have BK2b := Aside0.mk (BK2.out.below hb); have z3 := BK2b.out.c0; have z4 := BK2b.out.c1; have z5 := BK2b.out.c2; have fz3 := BK2b.out.f 0; have fz4 := BK2b.out.f 1; have fz5 := BK2b.out.f 2; have BK1c := Aside0.mk (BK1b.out.below hb); have z0 := BK1c.out.c0; have z1 := BK1c.out.c1; have z2 := BK1c.out.c2; have fz0 := BK1c.out.f 0; have fz1 := BK1c.out.f 1; have fz2 := BK1c.out.f 2; clear hb))
    rename_i K hK
    have HK0 := Aside0.mk (fun W hC => copied_calls A0 l0.length c0 l0 W rfl hC hc0 hb0)
    have HK1 := Aside0.mk (fun W hC => copied_calls A1 l1.length c1 l1 W rfl hC hc1 hb1)
    have HK2 := Aside0.mk (fun W hC => copied_calls A2 l2.length c2 l2 W rfl hC hc2 hb2)
    have HB := HB3
    clear BK1 BK2 BK1b HB1 HB2 HB3 HV
    have BK1 := BK1c
    have BK2 := BK2b
    clear BK1c BK2b
    go_region_law (first | (go_simp; go_at_call_of 110 (Value.slice A0 l0.length c0); refine (HK0.out _ (by repeat (first | exact (Kd.C_below HR0.out HB.out) | (with_reducible refine Kd.C_drewN ?_ _) | (with_reducible refine Kd.C_drew ?_)))).mono ?_; rintro e wn0 ⟨v0, rfl, hv, hb⟩; obtain ⟨ad0, nn0, rfl⟩ := Kd.R_slice hv; have RN := Aside0.mk (Kd.R_lower hv (below_size (by repeat (first | exact HB.out | apply pw_below_drewN | apply below_drew1)))); have RV0 := Aside0.mk (Kd.R_mono RN.out (ok' := fun _ => True) (fun _ _ => trivial)); clear RN; have NB := Aside0.mk (below_step (by repeat (first | exact HB.out | apply pw_below_drewN | apply below_drew1)) hb); have NK1 := Aside0.mk (((by (with_reducible repeat (first | refine Blk3.drewN ?_ _ | refine Blk3.drew ?_)); exact BK1.out) : Blk3 _ g1 (.slice A0 l0.length c0) (.slice A1 l1.length c1) (.slice A2 l2.length c2)).below hb); have NK2 := Aside0.mk (((by (with_reducible repeat (first | refine Blk3.drewN ?_ _ | refine Blk3.drew ?_)); exact BK2.out) : Blk3 _ g2 (.slice none 0 0) (.slice none 0 0) (.slice none 0 0)).below hb); clear HB BK1 BK2; have HB := NB; have BK1 := NK1; have BK2 := NK2; clear NB NK1 NK2 hb hv; (clear z0 z1 z2 fz0 fz1 fz2 z3 z4 z5 fz3 fz4 fz5); have z0 := BK1.out.c0; have z1 := BK1.out.c1; have z2 := BK1.out.c2; have fz0 := BK1.out.f 0; have fz1 := BK1.out.f 1; have fz2 := BK1.out.f 2; have z3 := BK2.out.c0; have z4 := BK2.out.c1; have z5 := BK2.out.c2; have fz3 := BK2.out.f 0; have fz4 := BK2.out.f 1; have fz5 := BK2.out.f 2) | (go_simp; go_at_call_of 110 (Value.slice A1 l1.length c1); refine (HK1.out _ (by repeat (first | exact (Kd.C_below HR1.out HB.out) | (with_reducible refine Kd.C_drewN ?_ _) | (with_reducible refine Kd.C_drew ?_)))).mono ?_; rintro e wn1 ⟨v1, rfl, hv, hb⟩; obtain ⟨ad1, nn1, rfl⟩ := Kd.R_slice hv; have RN := Aside0.mk (R_pair (by (with_reducible repeat (first | refine Kd.R_drewN ?_ _ | refine Kd.R_drew ?_)); exact RV0.out) hb hv (below_size (by repeat (first | exact HB.out | apply pw_below_drewN | apply below_drew1)))); have RN0 := Aside0.mk RN.out.1; have RN1 := Aside0.mk RN.out.2; clear RN; have RV0 := RN0; have RV1 := RN1; clear RN0 RN1; have NB := Aside0.mk (below_step (by repeat (first | exact HB.out | apply pw_below_drewN | apply below_drew1)) hb); have NK1 := Aside0.mk (((by (with_reducible repeat (first | refine Blk3.drewN ?_ _ | refine Blk3.drew ?_)); exact BK1.out) : Blk3 _ g1 (.slice A0 l0.length c0) (.slice A1 l1.length c1) (.slice A2 l2.length c2)).below hb); have NK2 := Aside0.mk (((by (with_reducible repeat (first | refine Blk3.drewN ?_ _ | refine Blk3.drew ?_)); exact BK2.out) : Blk3 _ g2 (.slice none 0 0) (.slice none 0 0) (.slice none 0 0)).below hb); clear HB BK1 BK2; have HB := NB; have BK1 := NK1; have BK2 := NK2; clear NB NK1 NK2 hb hv; (clear z0 z1 z2 fz0 fz1 fz2 z3 z4 z5 fz3 fz4 fz5); have z0 := BK1.out.c0; have z1 := BK1.out.c1; have z2 := BK1.out.c2; have fz0 := BK1.out.f 0; have fz1 := BK1.out.f 1; have fz2 := BK1.out.f 2; have z3 := BK2.out.c0; have z4 := BK2.out.c1; have z5 := BK2.out.c2; have fz3 := BK2.out.f 0; have fz4 := BK2.out.f 1; have fz5 := BK2.out.f 2) | (go_simp; go_at_call_of 110 (Value.slice A2 l2.length c2); refine (HK2.out _ (by repeat (first | exact (Kd.C_below HR2.out HB.out) | (with_reducible refine Kd.C_drewN ?_ _) | (with_reducible refine Kd.C_drew ?_)))).mono ?_; rintro e wn2 ⟨v2, rfl, hv, hb⟩; obtain ⟨ad2, nn2, rfl⟩ := Kd.R_slice hv; have RN := Aside0.mk (R_trip (by (with_reducible repeat (first | refine Kd.R_drewN ?_ _ | refine Kd.R_drew ?_)); exact RV0.out) (by (with_reducible repeat (first | refine Kd.R_drewN ?_ _ | refine Kd.R_drew ?_)); exact RV1.out) hb hv (below_size (by repeat (first | exact HB.out | apply pw_below_drewN | apply below_drew1)))); have NB := Aside0.mk (below_step (by repeat (first | exact HB.out | apply pw_below_drewN | apply below_drew1)) hb); have NK1 := Aside0.mk (((by (with_reducible repeat (first | refine Blk3.drewN ?_ _ | refine Blk3.drew ?_)); exact BK1.out) : Blk3 _ g1 (.slice A0 l0.length c0) (.slice A1 l1.length c1) (.slice A2 l2.length c2)).below hb); have NK2 := Aside0.mk (((by (with_reducible repeat (first | refine Blk3.drewN ?_ _ | refine Blk3.drew ?_)); exact BK2.out) : Blk3 _ g2 (.slice none 0 0) (.slice none 0 0) (.slice none 0 0)).below hb); clear HB BK1 BK2; have HB := NB; have BK1 := NK1; have BK2 := NK2; clear NB NK1 NK2 hb hv; (clear z0 z1 z2 fz0 fz1 fz2 z3 z4 z5 fz3 fz4 fz5); have z0 := BK1.out.c0; have z1 := BK1.out.c1; have z2 := BK1.out.c2; have fz0 := BK1.out.f 0; have fz1 := BK1.out.f 1; have fz2 := BK1.out.f 2; have z3 := BK2.out.c0; have z4 := BK2.out.c1; have z5 := BK2.out.c2; have fz3 := BK2.out.f 0; have fz4 := BK2.out.f 1; have fz5 := BK2.out.f 2))
    all_goals
      have BK3 := BK2.out.put (.slice ad0 l0.length nn0) (.slice ad1 l1.length nn1) (.slice ad2 l2.length nn2)
      have HB4 := below_put3 HB.out EG2.out (.slice ad0 l0.length nn0) (.slice ad1 l1.length nn1) (.slice ad2 l2.length nn2)
      have RA := R_put3 RN.out.1 BK2.out (.slice ad0 l0.length nn0) (.slice ad1 l1.length nn1) (.slice ad2 l2.length nn2)
      have RB := R_put3 RN.out.2.1 BK2.out (.slice ad0 l0.length nn0) (.slice ad1 l1.length nn1) (.slice ad2 l2.length nn2)
      have RC := R_put3 RN.out.2.2 BK2.out (.slice ad0 l0.length nn0) (.slice ad1 l1.length nn1) (.slice ad2 l2.length nn2)
      clear z0 z1 z2 z3 z4 z5 fz0 fz1 fz2 fz3 fz4 fz5
      generalize (((wn2.setCell ⟨g2, 0, none⟩ (.slice ad0 l0.length nn0)).setCell ⟨g2, 1, none⟩ (.slice ad1 l1.length nn1)).setCell ⟨g2, 2, none⟩ (.slice ad2 l2.length nn2)) = W4 at BK3 HB4 RA RB RC ⊢
      have z0 := BK3.c0; have z1 := BK3.c1; have z2 := BK3.c2
      refine hK _ _ (wp_ret ?_)
      refine bodyPost_ret (by simp [results, Try.results94, go_sem, z0, z1, z2]; rfl) rfl ?_
      exact ⟨_, _, _, rfl, ⟨Kd.R_mono RA (fun k hk => ⟨hk.1.2, hk.2⟩), Kd.R_mono RB (fun k hk => ⟨hk.1.2, hk.2⟩), Kd.R_mono RC (fun k hk => ⟨hk.1.2, hk.2⟩)⟩, HB4⟩
end Go.Proofs.Ytdlijioedokgjaa.Q

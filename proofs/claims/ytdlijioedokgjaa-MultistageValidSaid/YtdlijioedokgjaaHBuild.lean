import Derived.Test.YtdlijioedokgjaaHBuildC
/- multistage.Build: its contract. -/
namespace Go.Proofs.Ytdlijioedokgjaa.Q
open Go.RowKit Go.Proofs.YtdlijioedokgjaaW.PrintWords Go.Proofs.YtdlijioedokgjaaW.PrintLast Go.Proofs.YtdlijioedokgjaaW.PrintMore
set_option linter.unusedVariables false
set_option linter.unusedSimpArgs false

set_option maxHeartbeats 4000000 in
set_option maxRecDepth 100000 in
theorem build_err (k : Nat) (A0 : Option Addr) (c0 : Nat) (l : List S98) (A1 : Option Addr) (c1 : Nat) (W : List Int) (e : Int) (w : World) (hr0 : Kd.C k98 w A0 l.length l) (hc0 : l.length ≤ c0) (hr1 : Kd.C (Kd.int .i64) w A1 W.length W) (hc1 : W.length ≤ c1) (hck : multistage_Check.f k l W = some e) (he : e ≠ 0) :
    Calls Try.prog 50 #[.slice A0 l.length c0, .slice A1 W.length c1] w fun x w' => x = .returned (.tuple #[.agg #[.slice none 0 0, .slice none 0 0], .int .i64 e]) ∧ Below w.heap.size w w' := by
  have hu46 := Try.underlying46
  have HCK := Aside0.mk (fun W' hb => multistage_Check.calls k A0 c0 l A1 c1 W e W' (Kd.C_below hr0 hb) hc0 (Kd.C_below hr1 hb) hc1 hck)
  have t1 : (e != 0) = true := by simpa using he
  have t2 : (e = 0) = False := eq_false he
  clear hr0 hr1 hck he
  go_enter Try.func50, Try.ntmps50
  go_wp2_with (go_at_call 72; refine (HCK.out _ (by repeat (first | exact Below.refl _ _ | apply below_alloc))).mono ?_; rintro x w2 ⟨rfl, hb2⟩; obtain ⟨p1, p2⟩ := ph0 hb2; have r0 := blk_cell p1.f3 0; have r1 := blk_cell p1.f3 1; have q0 := blk_frozen p1.f3 0; have q1 := blk_frozen p1.f3 1)
  have f13 := blk_put (blk_put p1.f3 0 (.slice none 0 0) rfl) 1 (.slice none 0 0) rfl
  have z0 := (blk_cell f13 0).trans rfl
  have z1 := (blk_cell f13 1).trans rfl
  have k : Kp (fun b => b = w.heap.size + 1 + 1) w2 _ := Kp.set (S := fun b => b = w.heap.size + 1 + 1) (p := ⟨w.heap.size + 1 + 1, 1, none⟩) (Kp.set (S := fun b => b = w.heap.size + 1 + 1) (p := ⟨w.heap.size + 1 + 1, 0, none⟩) (Kp.refl _ w2) (.inl rfl) (.slice none 0 0)) (.inl rfl) (.slice none 0 0)
  refine bodyPost_ret (by simp [results, Try.results50, go_sem, z0, z1]; rfl) rfl ?_
  exact ⟨rfl, p1.bel.trans (k.to_below p1.bel.size (fun i hi => by omega))⟩
/-! ### Check plainly -/
def badS (s : S98) : Prop := s.f0 < 0 ∨ s.f1 > 1114111 ∨ s.f0 > s.f1 ∨ s.f2 = 0
instance (s : S98) : Decidable (badS s) := by unfold badS; exact inferInstance
def badP (q s : S98) : Prop := q.f1 ≥ s.f0 ∨ (q.f1 + 1 = s.f0 ∧ q.f2 = s.f2)
instance (q s : S98) : Decidable (badP q s) := by unfold badP; exact inferInstance
def spansGo (l : List S98) : Nat → Int → Bool
  | 0, _ => true
  | d + 1, i => if badS (rd_T98 l i) then false else if 0 < i ∧ badP (rd_T98 l (i - 1)) (rd_T98 l i) then false else spansGo l d (i + 1)
theorem spans_l0 (l : List S98) (hn : l.length ≤ 1000000000) (d : Nat) : ∀ i : Int, 0 ≤ i → i ≤ l.length → (l.length : Int) - i = d → (0 < i → ¬ badS (rd_T98 l (i - 1))) → EvR (fun k => multistage_validSpans.l0 k l l (l.length : Int) i) (spansGo l d i) := by
  induction d with
  | zero =>
    intro i h0 h1 hd hp
    exact EvR.step (fun k => rfl) (EvR.neg (by omega) (EvR.const _))
  | succ d ih =>
    intro i h0 h1 hd hp
    have e2 : wrap64 (i + 1) = i + 1 := by unfold wrap64; omega
    rw [spansGo]
    have hbad : badS (rd_T98 l i) → EvR (fun k => multistage_validSpans.j1 k l i l (l.length : Int) i true (rd_T98 l i).f0 (rd_T98 l i).f1 (rd_T98 l i).f2) (if badS (rd_T98 l i) then false else if 0 < i ∧ badP (rd_T98 l (i - 1)) (rd_T98 l i) then false else spansGo l d (i + 1)) := fun h => by
      rw [if_pos h]
      refine EvR.succ ?_
      simp only [multistage_validSpans.j1]
      first | exact EvR.pos rfl (EvR.const _) | exact EvR.const _
    have hgood : ¬ badS (rd_T98 l i) → EvR (fun k => multistage_validSpans.j1 k l i l (l.length : Int) i false (rd_T98 l i).f0 (rd_T98 l i).f1 (rd_T98 l i).f2) (if badS (rd_T98 l i) then false else if 0 < i ∧ badP (rd_T98 l (i - 1)) (rd_T98 l i) then false else spansGo l d (i + 1)) := fun h => by
      have ih' := ih (i + 1) (by omega) (by omega) (by omega) (fun _ => by rw [show i + 1 - 1 = i by omega]; exact h)
      rw [if_neg h]
      refine EvR.succ ?_
      simp only [multistage_validSpans.j1]
      refine EvR.neg (by simp) ?_
      by_cases ci : i > 0
      · have e3 : wrap64 (i - 1) = i - 1 := by unfold wrap64; omega
        rw [e3]
        refine EvR.pos ci (EvR.pos (by omega) (EvR.pos (by omega) ?_))
        have hp' := hp ci
        have e4 : wrap64 ((rd_T98 l (i - 1)).f1 + 1) = (rd_T98 l (i - 1)).f1 + 1 := by
          unfold badS at hp'
          unfold wrap64; omega
        rw [e4, e2]
        by_cases c1 : (rd_T98 l (i - 1)).f1 ≥ (rd_T98 l i).f0
        · rw [if_pos ⟨ci, .inl c1⟩]
          exact EvR.pos c1 (EvR.const _)
        · refine EvR.neg c1 ?_
          by_cases c2 : (rd_T98 l (i - 1)).f1 + 1 = (rd_T98 l i).f0
          · refine EvR.pos c2 ?_
            by_cases c3 : (rd_T98 l (i - 1)).f2 = (rd_T98 l i).f2
            · rw [if_pos ⟨ci, .inr ⟨c2, c3⟩⟩]
              exact EvR.pos c3 (EvR.const _)
            · rw [if_neg (fun hh => hh.2.elim c1 (fun x => c3 x.2))]
              exact EvR.neg c3 ih'
          · rw [if_neg (fun hh => hh.2.elim c1 (fun x => c2 x.1))]
            exact EvR.neg c2 ih'
      · rw [if_neg (fun hh => ci hh.1), e2]
        exact EvR.neg ci ih'
    refine EvR.succ ?_
    simp only [multistage_validSpans.l0]
    refine EvR.pos (by omega) (EvR.pos h0 (EvR.pos (by omega) ?_))
    by_cases c1 : (rd_T98 l i).f0 < 0
    · exact EvR.pos c1 (hbad (.inl c1))
    refine EvR.neg c1 ?_
    by_cases c2 : (rd_T98 l i).f1 > 1114111
    · exact EvR.pos c2 (hbad (.inr (.inl c2)))
    refine EvR.neg c2 ?_
    by_cases c3 : (rd_T98 l i).f0 > (rd_T98 l i).f1
    · exact EvR.pos c3 (hbad (.inr (.inr (.inl c3))))
    refine EvR.neg c3 ?_
    by_cases c4 : (rd_T98 l i).f2 = 0
    · rw [show ((rd_T98 l i).f2 == 0) = true by simpa using c4]
      exact hbad (.inr (.inr (.inr c4)))
    · rw [show ((rd_T98 l i).f2 == 0) = false by simpa using c4]
      exact hgood (fun h => by unfold badS at h; omega)
def spansP (l : List S98) : Bool := spansGo l l.length 0
theorem spans_ev (l : List S98) (hn : l.length ≤ 1000000000) : EvR (fun k => multistage_validSpans.f k l) (spansP l) := by
  unfold multistage_validSpans.f
  exact spans_l0 l hn l.length 0 (by omega) (by omega) (by omega) (fun h => by omega)
def checkP (l : List S98) (W : List Int) : Int := if spansP l = true then (if bitsP W = 0 then 1 else 0) else 4
theorem check_ev (l : List S98) (W : List Int) (hn : l.length ≤ 1000000000) : EvR (fun k => multistage_Check.f k l W) (checkP l W) := by
  unfold multistage_Check.f checkP
  refine EvR.bind (spans_ev l hn) ?_
  by_cases c : spansP l = true
  · rw [if_pos c]
    refine EvR.pos c (EvR.bind (bits_ev W) ?_)
    by_cases c2 : bitsP W = 0
    · exact EvR.cast (EvR.pos c2 (EvR.const _)) (if_pos c2).symm
    · exact EvR.cast (EvR.neg c2 (EvR.const _)) (if_neg c2).symm
  · rw [if_neg c]
    exact EvR.neg c (EvR.const _)
theorem spansGo_good {l : List S98} : ∀ {d : Nat} {i : Int}, spansGo l d i = true → ∀ j : Int, i ≤ j → j < i + d → ¬ badS (rd_T98 l j) ∧ (0 < j → ¬ badP (rd_T98 l (j - 1)) (rd_T98 l j))
  | 0, i, h, j, h1, h2 => by omega
  | d + 1, i, h, j, h1, h2 => by
    rw [spansGo] at h
    split at h
    · cases h
    · rename_i c1
      split at h
      · cases h
      · rename_i c2
        by_cases e : j = i
        · subst e
          exact ⟨c1, fun h0 hb => c2 ⟨h0, hb⟩⟩
        · exact spansGo_good h j (by omega) (by omega)
theorem spansOk_of {l : List S98} (hn : l.length ≤ 1000000000) (h : spansP l = true) : SpansOk l := by
  have hg := fun j h1 h2 => spansGo_good h j h1 (by omega : j < 0 + (l.length : Int))
  have hr : ∀ i : Int, 0 ≤ i → i < l.length → 0 ≤ (rd_T98 l i).f0 ∧ (rd_T98 l i).f0 ≤ (rd_T98 l i).f1 ∧ (rd_T98 l i).f1 ≤ 1114111 := fun i h0 h1 => by
    have := (hg i h0 (by omega)).1
    unfold badS at this
    omega
  refine ⟨hn, hr, fun i j h0 h1 h2 => ?_⟩
  have key : ∀ (d : Nat) (j : Int), i < j → j < l.length → j - i = d → (rd_T98 l i).f1 < (rd_T98 l j).f0 := by
    intro d
    induction d with
    | zero => intro j h1 h2 h3; omega
    | succ d ih =>
      intro j h1 h2 h3
      have hb := (hg j (by omega) (by omega)).2 (by omega)
      unfold badP at hb
      by_cases e : j - 1 = i
      · rw [e] at hb; omega
      · have := ih (j - 1) (by omega) (by omega) (by omega)
        have := hr (j - 1) (by omega) (by omega)
        omega
  exact key (j - i).toNat j h1 h2 (by omega)
theorem unif_in {l : List S98} (hv : l.all (fun s => i64in s.f2) = true) (a b : Int) : i64in (unifP l a b).1 = true := by
  have h0 : i64in 0 = true := by decide
  unfold unifP
  split
  · exact h0
  · rename_i hne
    split
    · exact h0
    · split
      · have hle := atP_le l a
        have hlt : atP l a < l.length := by omega
        rw [List.all_eq_true] at hv
        refine hv _ ?_
        unfold rd_T98
        rw [Int.toNat_natCast, List.getD_eq_getElem?_getD, List.getElem?_eq_getElem hlt]
        exact List.getElem_mem hlt
      · exact h0
def buildP (l : List S98) (W : List Int) : List Int × List (List Int) × Int := if checkP l W = 0 then (W, stagesB (fun a b => unifP l a b) W, 0) else ([], [], checkP l W)
def multistage_Build.f (l0 : List (S98)) (l1 : List Int) : Option (List Int × (List (List Int)) × Int) := if l0.length ≤ 1000000000 ∧ l0.all (fun s => i64in s.f2) = true then some (buildP l0 l1) else none
theorem multistage_Build.calls (A0 : Option Addr) (c0 : Nat) (l0 : List (S98)) (A1 : Option Addr) (c1 : Nat) (l1 : List Int) (r1 : List Int) (r2 : List (List Int)) (r3 : Int) (w : World) (hr0 : Kd.C k98 w A0 l0.length l0) (hc0 : l0.length ≤ c0) (hr1 : Kd.C (Kd.int .i64) w A1 l1.length l1) (hc1 : l1.length ≤ c1) (h : multistage_Build.f l0 l1 = some (r1, r2, r3)) :
    Calls Try.prog 50 #[.slice A0 l0.length c0, .slice A1 l1.length c1] w fun e w' => ∃ v0_ v1_ : Value, e = .returned (.tuple #[.agg #[v0_, v1_], .int .i64 r3]) ∧ Kd.R (Kd.int .i64) 3 w' w.heap.size (fun _ => True) v0_ r1 ∧ Kd.S (Kd.slice 3 (Kd.int .i64)) 26 w' w.heap.size (fun k_ => some k_ ≠ (v0_ : Value).ownBlock) v1_ r2 ∧ Below w.heap.size w w' := by
  unfold multistage_Build.f at h
  split at h
  · rename_i hh
    have h := Option.some.inj h
    obtain ⟨k, hk⟩ := (check_ev l0 l1 hh.1).exists_
    unfold buildP at h
    by_cases c : checkP l0 l1 = 0
    · rw [if_pos c] at h
      rw [c] at hk
      have hc := c
      unfold checkP at hc
      split at hc
      · rename_i hs
        split at hc
        · omega
        · rename_i hW
          injection h with e1 e2
          injection e2 with e2 e3
          subst e1 e2 e3
          refine (build_ok k A0 c0 l0 A1 c1 l1 w hr0 hc0 hr1 hc1 hk (spansOk_of hh.1 hs) hW (fun a b => unif_in hh.2 a b)).mono ?_
          rintro e w' ⟨v0, v1, h1, h2, h3, h4⟩
          exact ⟨v0, v1, h1, h2, h3, h4⟩
      · omega
    · rw [if_neg c] at h
      injection h with e1 e2
      injection e2 with e2 e3
      subst e1 e2 e3
      refine (build_err k A0 c0 l0 A1 c1 l1 _ w hr0 hc0 hr1 hc1 hk c).mono ?_
      rintro e w' ⟨rfl, hb⟩
      exact ⟨_, _, rfl, Row.nil w' w.heap.size, Kd.S_nil _ _ _ _ _, hb⟩
  · cases h
end Go.Proofs.Ytdlijioedokgjaa.Q

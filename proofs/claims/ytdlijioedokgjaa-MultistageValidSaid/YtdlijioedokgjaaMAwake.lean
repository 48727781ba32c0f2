import Derived.Test.YtdlijioedokgjaaHBuild
import Derived.Test.YtdlijioedokgjaaMGetT
import Derived.Test.YtdlijioedokgjaaQF45
/- The closed examples with which each statement about tables ends. -/
namespace Go.Proofs.Ytdlijioedokgjaa.Q
open Go.RowKit Go.Proofs.YtdlijioedokgjaaW.PrintWords Go.Proofs.YtdlijioedokgjaaW.PrintLast Go.Proofs.YtdlijioedokgjaaW.PrintMore
set_option linter.unusedVariables false
set_option linter.unusedSimpArgs false

/-- What holds of the stages that are made. -/
theorem GoodS.all : ∀ {ws : List Int} {σ : List Lv} {b : Nat}, GoodS ws σ b → ∀ L ∈ σ, L.rows.length ≤ b ∧ L.rows.all i64in = true
  | [], [], _, _, L, h => by cases h
  | w :: ws, M :: σ, _, h, L, hL => by
    rcases List.mem_cons.1 hL with rfl | hL
    · exact ⟨h.1.short, h.1.nums⟩
    · exact GoodS.all h.2 L hL
  | [], _ :: _, _, h, _, _ => h.elim
  | _ :: _, [], _, h, _, _ => h.elim
theorem stagesB_good {U : Nat → Nat → Int × Bool} (hU : ∀ a b, i64in (U a b).1 = true) {W : List Int} (hW : bitsP W ≠ 0) : ∀ l ∈ stagesB U W, l.length ≤ 2000000 ∧ l.all i64in = true := by
  obtain ⟨s1, s2, s3, s4⟩ := sz_cover hW
  obtain ⟨h1, h2⟩ := many_good hU W 0 _ (GoodS.empty W 0) (1114112 / szW W) (by omega)
  have hlen := manyP_len (fun k => numP U W (0 + k * szW W)) (W.map fun _ => ⟨[], []⟩) (1114112 / szW W)
  intro l hl
  unfold stagesB at hl
  rcases List.mem_cons.1 hl with rfl | hl
  · refine ⟨?_, h1⟩
    rw [hlen]
    have := Nat.div_le_self 1114112 (szW W)
    omega
  · obtain ⟨L, hL, rfl⟩ := List.mem_map.1 hl
    obtain ⟨g1, g2⟩ := h2.all L hL
    exact ⟨by omega, g2⟩
theorem takeWhile_spec {α : Type} [Inhabited α] (p : α → Bool) : ∀ (l : List α), (∀ t < (l.takeWhile p).length, p (l.getD t default) = true) ∧ ((l.takeWhile p).length < l.length → p (l.getD (l.takeWhile p).length default) = false)
  | [] => by simp
  | x :: l => by
    obtain ⟨h1, h2⟩ := takeWhile_spec p l
    by_cases hx : p x = true
    · rw [List.takeWhile_cons, hx]
      simp only [if_true, List.length_cons]
      refine ⟨fun t ht => ?_, fun h => ?_⟩
      · cases t with
        | zero => simpa using hx
        | succ t => simpa using h1 t (by omega)
      · simpa using h2 (by omega)
    · rw [List.takeWhile_cons, if_neg hx]
      exact ⟨fun t ht => by simp at ht, fun _ => by simpa using hx⟩
theorem atP_spec (l : List S98) (c : Int) : (∀ t : Int, 0 ≤ t → t < atP l c → (rd_T98 l t).f1 < c) ∧ ((atP l c : Int) < l.length → ¬ (rd_T98 l (atP l c)).f1 < c) := by
  have : Inhabited S98 := ⟨z98⟩
  obtain ⟨h1, h2⟩ := takeWhile_spec (fun s : S98 => decide (s.f1 < c)) l
  have hle := atP_le l c
  refine ⟨fun t t0 t1 => ?_, fun h => ?_⟩
  · have := h1 t.toNat (by unfold atP at t1; omega)
    rw [getD_z98 (by unfold atP at t1 hle; omega)] at this
    rw [show ((t.toNat : Nat) : Int) = t by omega] at this
    exact of_decide_eq_true this
  · have := h2 (by unfold atP at h; omega)
    rw [getD_z98 (by unfold atP at h; omega)] at this
    exact of_decide_eq_false this
theorem unif_flat {l : List S98} (hs : SpansOk l) : Flat (fun a b => unifP l (a : Int) (b : Int)) := by
  intro lo hi v c h h1 h2
  obtain ⟨a1, a2⟩ := atP_spec l (lo : Int)
  have hle := atP_le l (lo : Int)
  have key : ((atP l (lo : Int) : Int) < l.length → ¬ (rd_T98 l (atP l (lo : Int))).f1 < (c : Int)) → (atP l (c : Int) : Int) = (atP l (lo : Int) : Int) := fun hh =>
    atP_eq (by omega) (by omega) (fun t t0 t1 => by have := a1 t t0 t1; omega) hh
  simp only at h ⊢
  unfold unifP at h ⊢
  split at h
  · rename_i e
    rw [key (fun hh => by omega), if_pos e]
    exact (Prod.mk.inj h).1
  · rename_i e
    have hlt : (atP l (lo : Int) : Int) < l.length := by omega
    have hr := hs.rng _ (by omega) hlt
    split at h
    · rename_i e2
      have hk := key (fun _ => by omega)
      rw [hk, if_neg e, if_pos (by omega)]
      exact (Prod.mk.inj h).1
    · rename_i e2
      split at h
      · rename_i e3
        have hk := key (fun _ => by omega)
        rw [hk, if_neg e, if_neg (by omega), if_pos (by omega)]
        exact (Prod.mk.inj h).1
      · have := (Prod.mk.inj h).2
        cases this
theorem denS_look : ∀ (ws : List Int) (σ : List Lv) (x : Int) (c : Nat), σ.length = ws.length → lookG c ws (σ.map Lv.rows) x = denS ws σ x (c % szW ws)
  | [], σ, x, c, h => by cases σ <;> simp [lookG, denS]
  | w :: ws, [], x, c, h => by simp at h
  | w :: ws, L :: σ, x, c, h => by
    rw [List.map_cons, lookG, denS, denS_look ws σ _ c (by simpa using h)]
    have hz := szW_pos ws
    have e1 : c / szW ws % pw w = c % szW (w :: ws) / szW ws := by
      rw [szW, Nat.mul_comm, Nat.mod_mul_right_div_self]
    have e2 : c % szW ws = c % szW (w :: ws) % szW ws := by
      rw [szW, Nat.mod_mul_left_mod]
    rw [e1, e2]
/-- The table has the values that were asked for. -/
theorem get_stages {U : Nat → Nat → Int × Bool} (hU : ∀ a b, i64in (U a b).1 = true) (hF : Flat U) {W : List Int} (hW : bitsP W ≠ 0) {c : Nat} (hc : c < 1114112) : getT W (stagesB U W) (c : Int) = (U c (c + 1)).1 := by
  obtain ⟨σ, b, x, e, h1, h2, h3, h4, h5⟩ := stagesB_den hU hF hW
  unfold getT
  rw [if_neg (by omega), if_neg (by omega), if_pos (stagesB_valid hU hW), e]
  rw [List.tail_cons, List.headD_cons, Int.toNat_natCast, denS_look _ _ _ _ h2.len]
  exact h5 c hc
theorem len_at {S : List (List Int)} {m : List Nat} (h : S.map List.length = m) (i : Nat) : (rd_L2 S (i : Int)).length = m.getD i 0 := by
  subst h
  unfold rd_L2
  rw [Int.toNat_natCast, List.getD_eq_getElem?_getD, List.getD_eq_getElem?_getD, List.getElem?_map]
  cases S[i]? <;> rfl
set_option maxRecDepth 100000 in
theorem aw1 : ((stagesB (fun a b => unifP [] (a : Int) (b : Int)) [8, 4]).map List.length) = [272, 256, 16] := by decide +kernel
theorem awake_ev : EvR (fun k => unicodetextlaw13_awake.f k) true := by
  unfold unicodetextlaw13_awake.f
  have c1 : checkP [] [8, 4] = 0 := by decide
  have hB1 : multistage_Build.f [] [8, 4] = some ([8, 4], stagesB (fun a b => unifP [] (a : Int) (b : Int)) [8, 4], 0) := by
    unfold multistage_Build.f
    rw [if_pos (by decide)]
    unfold buildP
    rw [if_pos c1]
  have c2 : checkP [⟨65, 90, 7⟩] [9] = 0 := by decide
  have hB2 : multistage_Build.f [⟨65, 90, 7⟩] [9] = some ([9], stagesB (fun a b => unifP [⟨65, 90, 7⟩] (a : Int) (b : Int)) [9], 0) := by
    unfold multistage_Build.f
    rw [if_pos (by decide)]
    unfold buildP
    rw [if_pos c2]
  have hl := aw1
  have hW : bitsP [9] ≠ 0 := by decide
  have hU : ∀ a b : Nat, i64in (unifP [⟨65, 90, 7⟩] (a : Int) (b : Int)).1 = true := fun a b => unif_in (by decide) _ _
  have hg := stagesB_good (U := fun a b => unifP [⟨65, 90, 7⟩] (a : Int) (b : Int)) hU hW
  have hg66 := get_stages (U := fun a b => unifP [⟨65, 90, 7⟩] (a : Int) (b : Int)) hU (unif_flat (spansOk_of (by decide) (by decide))) hW (c := 66) (by decide)
  have hg91 := get_stages (U := fun a b => unifP [⟨65, 90, 7⟩] (a : Int) (b : Int)) hU (unif_flat (spansOk_of (by decide) (by decide))) hW (c := 91) (by decide)
  have u66 : (unifP [⟨65, 90, 7⟩] ((66 : Nat) : Int) ((66 + 1 : Nat) : Int)).1 = 7 := by decide
  have u91 : (unifP [⟨65, 90, 7⟩] ((91 : Nat) : Int) ((91 + 1 : Nat) : Int)).1 = 0 := by decide
  simp only [u66] at hg66
  simp only [u91] at hg91
  have e66 := Get_ev [9] _ hg 66
  have e91 := Get_ev [9] _ hg 91
  rw [show (66 : Int) = ((66 : Nat) : Int) from rfl, hg66] at e66
  rw [show (91 : Int) = ((91 : Nat) : Int) from rfl, hg91] at e91
  have hck : EvR (fun k => multistage_Check.f k [] []) 1 := by
    have := check_ev [] [] (by simp)
    rwa [show checkP [] [] = 1 by decide] at this
  rw [hB1]
  generalize stagesB (fun a b => unifP [] (a : Int) (b : Int)) [8, 4] = S at hl
  have hlen : S.length = 3 := by have := congrArg List.length hl; simpa using this
  have l0 : (rd_L2 S 0).length = 272 := len_at hl 0
  have l1 : (rd_L2 S 1).length = 256 := len_at hl 1
  have l2 : (rd_L2 S 2).length = 16 := len_at hl 2
  refine EvR.bindc rfl (EvR.pos rfl (EvR.pos (by simp only; omega) (EvR.pos (by simp only; omega) (EvR.pos (by simp only; omega) (EvR.pos (by simp only; omega) (EvR.pos (by simp only; omega) (EvR.pos (by simp only; omega) ?_)))))))
  simp only [l2]
  refine EvR.succ ?_
  simp only [unicodetextlaw13_awake.j0]
  rw [hB2]
  refine EvR.neg (by decide) (EvR.bindc rfl (EvR.pos rfl (EvR.bind e66 (EvR.pos rfl (EvR.bind e91 (EvR.pos rfl (EvR.bind hck (EvR.const _))))))))
end Go.Proofs.Ytdlijioedokgjaa.Q

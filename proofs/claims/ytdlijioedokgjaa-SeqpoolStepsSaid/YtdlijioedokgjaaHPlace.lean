/- seqpool.place and add by hand. -/
import Derived.Test.YtdlijioedokgjaaHOcc
import Derived.Deep.RegionWith
import Derived.Deep.AppendLies
import Derived.Deep.RegionLawGrows
import Derived.Deep.RegionLaw
namespace Go.Proofs.Ytdlijioedokgjaa.Q
open Go.RowKit Go.Proofs.YtdlijioedokgjaaW.PrintWords Go.Proofs.YtdlijioedokgjaaW.PrintLast Go.Proofs.YtdlijioedokgjaaW.PrintMore
set_option linter.unusedVariables false
set_option linter.unusedSimpArgs false

/-- What place hands back: the list as it came in, or a new row. -/
def PlacePost (A0 : Option Addr) (c0 : Nat) (l seq : List Int) (w : World) (e : Ending) (w' : World) : Prop :=
  (0 ≤ occI l seq ∧ e = .returned (.tuple #[.slice A0 l.length c0, .int .i64 (occI l seq)]) ∧ Below w.heap.size w w') ∨
  (¬ 0 ≤ occI l seq ∧ ∃ v, e = .returned (.tuple #[v, .int .i64 ((l.length : Int) - ov l seq)]) ∧ Kd.R (Kd.int .i64) 3 w' w.heap.size (fun _ => True) v (l ++ seq.drop (ov l seq)) ∧ Below w.heap.size w w')
theorem occF_zero (l : List Int) : occI l [] = 0 := by
  unfold occI
  rw [if_pos (by simp)]
  simp [occF, cut]

theorem occF_found (l seq : List Int) : ∀ (d : Nat) (i : Int), 0 ≤ i → (∃ j, i ≤ j ∧ j < i + d ∧ cut l j seq.length = seq) → 0 ≤ occF l seq d i := by
  intro d
  induction d with
  | zero => intro i h0 ⟨j, h1, h2, _⟩; omega
  | succ d ih =>
    intro i h0 ⟨j, h1, h2, h3⟩
    rw [occF]
    split
    · exact h0
    · rename_i hne
      refine ih (i + 1) (by omega) ⟨j, ?_, by omega, h3⟩
      rcases Int.lt_or_eq_of_le h1 with h | h
      · omega
      · subst h; exact absurd h3 hne
theorem ovF_spec (l seq : List Int) : ∀ n, cut l ((l.length : Int) - ((ovF l seq n : Nat) : Int)) ((ovF l seq n : Nat) : Int) = cut seq 0 ((ovF l seq n : Nat) : Int) := by
  intro n
  induction n with
  | zero => simp [ovF, cut]
  | succ n ih =>
    rw [ovF]
    split
    · assumption
    · exact ih
theorem ov_lt {l seq : List Int} (h : occI l seq < 0) : ov l seq < seq.length ∧ ov l seq ≤ l.length := by
  have h1 := ovF_le l seq (min l.length seq.length)
  have h2 := ovF_spec l seq (min l.length seq.length)
  change ov l seq ≤ _ at h1
  change cut l ((l.length : Int) - ((ov l seq : Nat) : Int)) ((ov l seq : Nat) : Int) = cut seq 0 ((ov l seq : Nat) : Int) at h2
  refine ⟨?_, by omega⟩
  rcases Nat.lt_or_ge (ov l seq) seq.length with h3 | h3
  · exact h3
  · exfalso
    have e : ov l seq = seq.length := by omega
    rw [e] at h2 h1
    have hs : cut seq 0 (seq.length : Int) = seq := by simp [cut]
    rw [hs] at h2
    unfold occI at h
    rw [if_pos (by omega)] at h
    have := occF_found l seq (l.length - seq.length + 1) 0 (by omega) ⟨(l.length : Int) - seq.length, by omega, by omega, h2⟩
    omega
theorem cut_all (l : List Int) : cut l 0 (l.length : Int) = l := by simp [cut]
theorem C_get {A : Option Addr} {l : List Int} {w : World} (hC : Kd.C (Kd.int .i64) w A l.length (cut l 0 (l.length : Int))) : ∀ b, A = some b → ∀ j u, (nums .i64 l)[j]? = some u → w.cell? (b.add j) = some u := by
  rw [cut_all] at hC
  intro b hb j u hu
  rcases Nat.eq_zero_or_pos l.length with h | h
  · have := List.eq_nil_of_length_eq_zero h
    subst this
    simp [nums] at hu
  · obtain ⟨ad, ha, hc⟩ := C_cells hC h
    rw [hb] at ha
    injection ha with ha
    subst ha
    exact hc j u hu
theorem C_nil {A : Option Addr} {l : List Int} {w : World} (hC : Kd.C (Kd.int .i64) w A l.length (cut l 0 (l.length : Int))) : A = none → l.length = 0 ∧ l.length = 0 := by
  rw [cut_all] at hC
  intro h
  rcases Nat.eq_zero_or_pos l.length with h1 | h1
  · exact ⟨h1, h1⟩
  · obtain ⟨ad, ha, hc⟩ := C_cells hC h1
    rw [h] at ha; cases ha
theorem C_drop {ad : Addr} {l : List Int} {w : World} {n : Nat} (hC : Kd.C (Kd.int .i64) w (some ad) l.length l) (h : n < l.length) : ∀ j u, (nums .i64 (l.drop n))[j]? = some u → w.cell? ((ad.add n).add j) = some u := by
  obtain ⟨ad', ha, hc⟩ := C_cells hC (by omega)
  injection ha with ha
  subst ha
  intro j u hu
  rw [add_add]
  refine hc (n + j) u ?_
  simp only [nums, List.getElem?_map, List.getElem?_drop] at hu ⊢
  exact hu
set_option maxHeartbeats 2000000 in
set_option maxRecDepth 100000 in
theorem place_calls (A0 : Option Addr) (n0 c0 : Nat) (l : List Int) (A1 : Option Addr) (n1 c1 : Nat) (seq : List Int) (w : World) (hn0 : n0 = l.length) (hn1 : n1 = seq.length) (hr0 : Kd.C (Kd.int .i64) w A0 l.length l) (hc0 : l.length ≤ c0) (hr1 : Kd.C (Kd.int .i64) w A1 seq.length seq) (hc1 : seq.length ≤ c1) (hl : l.length ≤ 1000000000) (hs : seq.length ≤ 1000000000) :
    Calls Try.prog 128 #[.slice A0 n0 c0, .slice A1 n1 c1] w (PlacePost A0 c0 l seq w) := by
  subst hn0 hn1
  have HO := Aside0.mk (occurs_calls A0 l.length c0 l A1 seq.length c1 seq w rfl rfl hr0 hc0 hr1 hc1 hl hs)
  have HR0 := Aside0.mk hr0
  have HR1 := Aside0.mk hr1
  clear hr0 hr1
  by_cases h : 0 ≤ occI l seq
  · have fin : ∀ nd, PlacePost A0 c0 l seq w (.returned (.tuple #[.slice A0 l.length c0, .int .i64 (occI l seq)])) (w.drewN nd) := fun nd => .inl ⟨h, rfl, pw_below_drewN (Below.refl _ _) nd⟩
    have FIN := Aside0.mk fin
    clear fin
    have t1 : decide (0 ≤ occI l seq) = true := decide_eq_true h
    clear h
    go_enter Try.func128, Try.ntmps128
    go_wp2_with (go_at_call 138; refine HO.out.mono ?_; rintro e w2 ⟨rfl, ⟨nd, rfl⟩⟩)
    go_ret2
    exact FIN.out _
  · have t1 : decide (0 ≤ occI l seq) = false := decide_eq_false h
    have OV1 := Aside0.mk (fun hm : l.length ≤ seq.length => (show ovF l seq l.length = ov l seq by unfold ov; rw [Nat.min_eq_left hm]))
    have OV2 := Aside0.mk (fun hm : seq.length ≤ l.length => (show ovF l seq seq.length = ov l seq by unfold ov; rw [Nat.min_eq_right hm]))
    have hlt := ov_lt (l := l) (seq := seq) (by omega)
    have NH := Aside0.mk h
    obtain ⟨ad, rfl, _⟩ := C_cells HR1.out (by omega)
    clear h
    obtain ⟨i0, hi, hz0, hz1, hz2⟩ := info_parts info3
    rcases Nat.lt_or_ge seq.length l.length with hm | hm
    all_goals
      go_enter Try.func128, Try.ntmps128
      go_wp2_with (go_at_call 138; refine HO.out.mono ?_; rintro e w2 ⟨rfl, ⟨nd, rfl⟩⟩)
      go_loopw [7] (fun v7 wr => ∃ (n : Nat), n ≤ l.length ∧ n ≤ seq.length ∧ v7 = .int .i64 (n : Int) ∧ Drawn0 w wr ∧ Aside0 (ovF l seq n = ov l seq)) (fun v7 _ => (intOf v7).toNat)
      case atStart => first | exact ⟨seq.length, by omega, by omega, rfl, ⟨⟨_, rfl⟩⟩, ⟨OV2.out (by omega)⟩⟩ | exact ⟨l.length, by omega, by omega, rfl, ⟨⟨_, rfl⟩⟩, ⟨OV1.out (by omega)⟩⟩
      case round =>
        clear OV1 OV2
        obtain ⟨n, hn1, hn2, rfl, ⟨nd, rfl⟩, hO⟩ := hrel
        have hcl1 := cut_length (xs := l) (s := (l.length : Int) - n) (m := (n : Int)) (by omega) (by omega) (by omega)
        have hcl2 := cut_length (xs := seq) (s := 0) (m := (n : Int)) (by omega) (by omega) (by omega)
        have HP1 := Aside0.mk (part_calls A0 l.length c0 l ((l.length : Int) - n) n (w.drewN nd) rfl (Kd.C_drewN HR0.out nd) hc0 (by omega) (by omega) (by omega))
        have HP2 := Aside0.mk (part_calls (some ad) seq.length c1 seq 0 n (w.drewN nd) rfl (Kd.C_drewN HR1.out nd) hc1 (by omega) (by omega) (by omega))
        by_cases he : cut l ((l.length : Int) - n) n = cut seq 0 n
        · have HE := fun (A' A2 : Option Addr) (hC : Kd.C (Kd.int .i64) (w.drewN nd) A' ((n : Int)).toNat (cut l ((l.length : Int) - n) n)) (hC2 : Kd.C (Kd.int .i64) (w.drewN nd) A2 ((n : Int)).toNat (cut seq 0 n)) => equal_calls A' ((n : Int)).toNat ((n : Int)).toNat (cut l ((l.length : Int) - n) n) A2 ((n : Int)).toNat ((n : Int)).toNat (cut seq 0 n) true (w.drewN nd) hcl1.symm hcl2.symm (by rw [hcl1]; exact hC) (by omega) (by rw [hcl2]; exact hC2) (by omega) (by simp [he])
          have HEa := Aside0.mk HE
          have hfin : ov l seq = n := by
            rw [← hO.out]
            cases n with
            | zero => rfl
            | succ m => rw [ovF, if_pos he]
          have HF := Aside0.mk hfin
          clear HE hfin hO he hcl1 hcl2
          go_wp2_with (first | (go_at_call_of 108 (Value.slice A0 l.length c0); refine HP1.out.mono ?_; rintro e w2 ⟨A', rfl, hC', rfl⟩; have HC1 := Aside0.mk hC'; clear hC') | (go_at_call_of 108 (Value.slice (some ad) seq.length c1); refine HP2.out.mono ?_; rintro e w2 ⟨A2, rfl, hC', rfl⟩; have HC2 := Aside0.mk hC'; clear hC') | (go_at_call 107; refine (HEa.out _ _ HC1.out HC2.out).mono ?_; rintro e w2 ⟨rfl, ⟨n2, rfl⟩⟩))
          have hn3 : n < seq.length := by rw [HF.out] at hlt; exact hlt.1
          have HL := Aside0.mk (fun W => part_calls A0 l.length c0 l 0 (l.length : Int) W rfl)
          clear HEa HP1 HP2 HC1 HC2
          have hcn : ¬ (c1 = n) := by omega
          have HG3 := Aside0.mk (fun (W : World) (A3 : Option Addr) (hC : Kd.C (Kd.int .i64) W A3 l.length (cut l 0 (l.length : Int))) (b : Addr) (e : A3 = some b) (j : Nat) (u : Value) (hu : (nums .i64 l)[j]? = some u) => (C_get hC b e j u hu))
          have HG1 := Aside0.mk (fun (W : World) (A3 : Option Addr) (hC : Kd.C (Kd.int .i64) W A3 l.length (cut l 0 (l.length : Int))) => (C_nil hC))
          have HG2 := Aside0.mk (fun (k : Nat) => C_drop (Kd.C_drewN HR1.out k) hn3)
          have hb8 : (l.length + (seq.length - n)) * 8 ≤ 140737488355328 := by omega
          have hmx : l.length + (seq.length - n) ≤ maxLen := by unfold maxLen; omega
          have hlt9 : l.length < l.length + (seq.length - n) := by omega
          have hls : (nums .i64 l).length = l.length * 1 := by rw [nums_length, Nat.mul_one]
          have hls2 : (nums .i64 (seq.drop n)).length = (seq.length - n) * 1 := by rw [nums_length, List.length_drop, Nat.mul_one]
          have FA := Aside0.mk (And.intro hb8 (And.intro hmx (And.intro hlt9 (And.intro hls hls2))))
          clear hb8 hmx hlt9 hls hls2
          go_region_law (first | (go_loud (refine step_append_grows rfl (.tmp 42) (.tmp 45) 26 rfl 3 i0 (.int .i64 0) 1 8 Try.underlying26 hi hz0 hz1 hz2 rfl (by decide) A3 l.length l.length (nums .i64 l) rfl (HG1.out _ A3 HC3.out) FA.out.2.2.2.1 (HG3.out _ A3 HC3.out) (ad.add n) (seq.length - n) (c1 - n) (nums .i64 (seq.drop n)) rfl FA.out.2.2.2.2 (HG2.out _) (nums_one _ _) FA.out.2.2.1 FA.out.2.1 FA.out.1 ?_; intro v' w' hown hgrow)) | (go_simp; go_at_call 108; refine (HL.out _ ?_ hc0 (by omega) (by omega) (by omega)).mono ?_; (exact Kd.C_drewN HR0.out _); rintro e w2 ⟨A3, rfl, hC3, rfl⟩; have HC3 := Aside0.mk hC3; clear hC3))
          have hown2 : Aside0 (Kd.R (Kd.int .i64) 3 w' w.heap.size (fun _ => True) v' (l ++ seq.drop n)) := ⟨Kd.R_of_own (enc := Value.int .i64) (h1 := fun _ => rfl) (by simpa [nums, encs, Kd.int, Kd.scalar] using hown) (fun _ _ => trivial)⟩
          have hbel := Aside0.mk (pw_below_grown (B := w.heap.size) (pw_below_drewN (Below.refl _ _) _) none (by simp) hgrow (by simp))
          clear hown hgrow HG1 HG2 HG3 FA HL
          go_wp2
          go_ret2
          refine .inr ⟨by have := NH.out; omega, v', ?_, ?_, hbel.out⟩
          · rw [HF.out]; first | rfl | simp [Act.put, Act.eval] | (go_simp; done)
          · rw [HF.out]; exact hown2.out
        · have hn4 : 0 < n := by
            rcases Nat.eq_zero_or_pos n with h | h
            · subst h; simp [cut] at he
            · exact h
          have HE := fun (A' A2 : Option Addr) (hC : Kd.C (Kd.int .i64) (w.drewN nd) A' ((n : Int)).toNat (cut l ((l.length : Int) - n) n)) (hC2 : Kd.C (Kd.int .i64) (w.drewN nd) A2 ((n : Int)).toNat (cut seq 0 n)) => equal_calls A' ((n : Int)).toNat ((n : Int)).toNat (cut l ((l.length : Int) - n) n) A2 ((n : Int)).toNat ((n : Int)).toNat (cut seq 0 n) false (w.drewN nd) hcl1.symm hcl2.symm (by rw [hcl1]; exact hC) (by omega) (by rw [hcl2]; exact hC2) (by omega) (by simp [he])
          have HEa := Aside0.mk HE
          have hfin : ovF l seq (n - 1) = ov l seq := by
            rw [← hO.out]
            obtain ⟨m, rfl⟩ : ∃ m, n = m + 1 := ⟨n - 1, by omega⟩
            rw [ovF, if_neg he]
            rfl
          have HF := Aside0.mk hfin
          clear HE hfin hO he hcl1 hcl2
          go_wp2_with (first | (go_at_call_of 108 (Value.slice A0 l.length c0); refine HP1.out.mono ?_; rintro e w2 ⟨A', rfl, hC', rfl⟩; have HC1 := Aside0.mk hC'; clear hC') | (go_at_call_of 108 (Value.slice (some ad) seq.length c1); refine HP2.out.mono ?_; rintro e w2 ⟨A2, rfl, hC', rfl⟩; have HC2 := Aside0.mk hC'; clear hC') | (go_at_call 107; refine (HEa.out _ _ HC1.out HC2.out).mono ?_; rintro e w2 ⟨rfl, ⟨n2, rfl⟩⟩))
          go_roundw
          case rel => exact ⟨n - 1, by omega, by omega, by rw [Int.ofNat_sub hn4]; rfl, ⟨⟨_, rfl⟩⟩, HF⟩
          case measure => simp [intOf]; omega
end Go.Proofs.Ytdlijioedokgjaa.Q

/- Several texts in one file (mergeq.py): HUnif, HTab, HBlock, HNum, HNumB. -/
import Derived.Test.YtdlijioedokgjaaHFrame
import Derived.Test.YtdlijioedokgjaaQ0
import Derived.Test.YtdlijioedokgjaaMEv
import Derived.WalkKit
import Derived.Test.YtdlijioedokgjaaHRows
import Derived.Test.YtdlijioedokgjaaMSeen
import Derived.Maps.OwnSet
import Derived.StillTailTactics
/- multistage.at and multistage.uniform by hand: where a span is that does not end before a number, and whether a range has one value. -/
namespace Go.Proofs.Ytdlijioedokgjaa.Q
open Go.RowKit Go.Proofs.YtdlijioedokgjaaW.PrintWords Go.Proofs.YtdlijioedokgjaaW.PrintLast Go.Proofs.YtdlijioedokgjaaW.PrintMore
set_option linter.unusedVariables false
set_option linter.unusedSimpArgs false

/-- Spans in order, in range. -/
structure SpansOk (l : List S98) : Prop where
  len : l.length ≤ 1000000000
  rng : ∀ i : Int, 0 ≤ i → i < l.length → 0 ≤ (rd_T98 l i).f0 ∧ (rd_T98 l i).f0 ≤ (rd_T98 l i).f1 ∧ (rd_T98 l i).f1 ≤ 1114111
  ord : ∀ i j : Int, 0 ≤ i → i < j → j < l.length → (rd_T98 l i).f1 < (rd_T98 l j).f0
def atP (l : List S98) (c : Int) : Nat := (l.takeWhile fun s => decide (s.f1 < c)).length
theorem takeWhile_len {α : Type} [Inhabited α] (p : α → Bool) : ∀ (l : List α) (i : Nat), i ≤ l.length → (∀ t < i, p (l.getD t default) = true) → (i < l.length → p (l.getD i default) = false) → (l.takeWhile p).length = i
  | [], i, h0, h1, h2 => by simp at h0; simp [h0]
  | x :: l, 0, h0, h1, h2 => by
    have := h2 (by simp)
    simp at this
    simp [this]
  | x :: l, i + 1, h0, h1, h2 => by
    have hx := h1 0 (by omega)
    simp at hx
    rw [List.takeWhile_cons, hx]
    simp only [if_true, List.length_cons, Nat.add_right_cancel_iff]
    exact takeWhile_len p l i (by simpa using h0) (fun t ht => by simpa using h1 (t + 1) (by omega)) (fun h => by simpa using h2 (by simpa using h))
theorem getD_z98 {l : List S98} {t : Nat} (h : t < l.length) (d : S98) : l.getD t d = rd_T98 l (t : Int) := by
  unfold rd_T98
  rw [Int.toNat_natCast, List.getD_eq_getElem?_getD, List.getD_eq_getElem?_getD, List.getElem?_eq_getElem h]
  rfl
theorem atP_eq {l : List S98} {c i : Int} (h0 : 0 ≤ i) (h1 : i ≤ l.length) (ha : ∀ t : Int, 0 ≤ t → t < i → (rd_T98 l t).f1 < c) (hb : i < l.length → ¬ (rd_T98 l i).f1 < c) : (atP l c : Int) = i := by
  have : atP l c = i.toNat := by
    unfold atP
    have : Inhabited S98 := ⟨z98⟩
    refine takeWhile_len (α := S98) _ l i.toNat (by omega) (fun t ht => ?_) (fun h => ?_)
    · rw [getD_z98 (by omega)]
      exact decide_eq_true (ha t (by omega) (by omega))
    · rw [getD_z98 (by omega)]
      have e : ((i.toNat : Nat) : Int) = i := by omega
      rw [e]
      exact decide_eq_false (hb (by omega))
  omega
set_option maxRecDepth 100000 in
theorem cmp_calls (a b c t : Int) (w : World) (hb : 0 ≤ b ∧ b ≤ 1114111) (ht : 0 ≤ t ∧ t ≤ 1114112) :
    Calls Try.prog 141 #[.agg #[.int .i64 a, .int .i64 b, .int .i64 c], .int .i64 t] w fun e w' => e = .returned (.int .i64 (b - t)) ∧ Below w.heap.size w w' := by
  have e1 : wrap64 (b - t) = b - t := by unfold wrap64; omega
  go_enter Try.func141, Try.ntmps141
  go_wp2
  go_ret
  exact ⟨rfl, below_alloc (Below.refl _ _) _⟩
set_option maxHeartbeats 4000000 in
set_option maxRecDepth 100000 in
theorem search_calls (A0 : Option Addr) (c0 : Nat) (l : List S98) (c : Int) (w : World) (hr : Kd.C k98 w A0 l.length l) (hc0 : l.length ≤ c0) (hs : SpansOk l) (hc : 0 ≤ c ∧ c ≤ 1114112) :
    Calls Try.prog 140 #[.slice A0 l.length c0, .int .i64 c, .func (.func 141) #[] #[]] w fun e w' => (∃ b, e = .returned (.tuple #[.int .i64 (atP l c : Int), .bool b])) ∧ Below w.heap.size w w' := by
  have hcf := fun (args : Array Value) (w : World) => enters_ Try.func141 (by kernel_rfl) rfl args w
  have HR := Aside0.mk hr
  have HS := Aside0.mk hs
  have HC := Aside0.mk hc
  have HLN := Aside0.mk hs.len
  have HB := Aside0.mk (Below.refl w.heap.size w)
  clear hr hs hc
  go_enter Try.func140, Try.ntmps140
  go_wp2
  go_loopw [9, 10] (fun v9 v10 wr => ∃ i j : Int, v9 = .int .i64 i ∧ v10 = .int .i64 j ∧ Aside0 (0 ≤ i ∧ i ≤ j ∧ j ≤ l.length) ∧ Aside0 ((∀ t : Int, 0 ≤ t → t < i → (rd_T98 l t).f1 < c) ∧ (∀ t : Int, j ≤ t → t < l.length → ¬ (rd_T98 l t).f1 < c)) ∧ Aside0 (Below w.heap.size w wr)) (fun v9 v10 _ => (intOf v10 - intOf v9).toNat)
  case atStart => exact ⟨0, l.length, rfl, rfl, ⟨by omega, by omega, by omega⟩, ⟨fun t h0 h1 => by omega, fun t h0 h1 => by omega⟩, HB⟩
  case round =>
    clear HB
    obtain ⟨i, j, rfl, rfl, HIJ, HALL, HB⟩ := hrel
    by_cases hij : i < j
    · have t1 : decide (i < j) = true := decide_eq_true hij
      obtain ⟨m, hm⟩ : ∃ m, m = (i + j) / 2 := ⟨_, rfl⟩
      have hb := HIJ.out
      have hl := HLN.out
      have e1 : wrap64 (i + j) = i + j := by unfold wrap64; omega
      have e2 : IntKind.u64.wrap (i + j) = i + j := by unfold IntKind.wrap; simp [IntKind.bits, IntKind.signed]; omega
      have e3 : wrap64 ((i + j) / 2) = m := by rw [hm]; unfold wrap64; omega
      have m0 : 0 ≤ m := by omega
      have m1 : m < l.length := by omega
      have HM := Aside0.mk (show i ≤ m ∧ m < j by omega)
      obtain ⟨ad, e, z0, z1, z2⟩ := at_T98 (Kd.C_below HR.out HB.out) m m0 m1
      have g0 := eq_true m0
      have g1 := eq_true m1
      have d0 : decide (0 ≤ m) = true := decide_eq_true m0
      have HRM := Aside0.mk (HS.out.rng m m0 m1)
      have HIJ2 := Aside0.mk hij
      clear hb hl hij m0 m1 hm
      subst e
      go_wp2_with (go_at_call 141; refine (cmp_calls _ _ _ _ _ (And.intro (by have := HRM.out; omega) HRM.out.2.2) HC.out).mono ?_; rintro e w2 ⟨rfl, hb2⟩)
      · have h1 := HM.out
        have h2 := HIJ.out
        have h3 := HLN.out
        have hw : wrap64 (m + 1) = m + 1 := by unfold wrap64; omega
        refine ⟨⟨m + 1, j, by rw [hw], rfl, ⟨by omega, by omega, by omega⟩, ⟨fun t t0 t1 => ?_, fun t t0 t1 => by have := HALL.out.2 t t0 t1; omega⟩, ⟨below_step HB.out hb2⟩⟩, by rw [hw]; simp only [intOf]; omega⟩
        by_cases e : t = m
        · subst e; omega
        · have a1 := HS.out.ord t m t0 (by omega) (by omega)
          have a2 := HRM.out
          omega
      · have h1 := HM.out
        have h2 := HIJ.out
        refine ⟨⟨i, m, rfl, rfl, ⟨by omega, by omega, by omega⟩, ⟨HALL.out.1, fun t t0 t1 => ?_⟩, ⟨below_step HB.out hb2⟩⟩, by simp only [intOf]; omega⟩
        by_cases e : t = m
        · subst e; omega
        · have a1 := HS.out.ord m t (by omega) (by omega) (by omega)
          have a2 := HRM.out
          have a3 := HS.out.rng t (by omega) (by omega)
          omega
    · have t1 : decide (i < j) = false := decide_eq_false hij
      have hb := HIJ.out
      have e0 : j = i := by omega
      subst e0
      have HAT := Aside0.mk (atP_eq (l := l) (c := c) (i := j) (by omega) hb.2.2 HALL.out.1 (fun h => HALL.out.2 j (by omega) h))
      by_cases hl : j < (l.length : Int)
      · have t2 : decide (j < (l.length : Int)) = true := decide_eq_true hl
        have m0 : 0 ≤ j := by omega
        obtain ⟨ad, e, z0, z1, z2⟩ := at_T98 (Kd.C_below HR.out HB.out) j m0 hl
        have g0 := eq_true m0
        have g1 := eq_true hl
        have d0 : decide (0 ≤ j) = true := decide_eq_true m0
        have HRM := Aside0.mk (HS.out.rng j m0 hl)
        clear hb hl hij m0
        subst e
        go_wp2_with (go_at_call 141; refine (cmp_calls _ _ _ _ _ (And.intro (by have := HRM.out; omega) HRM.out.2.2) HC.out).mono ?_; rintro e w2 ⟨rfl, hb2⟩)
        all_goals refine bodyPost_ret (results_tmp2 rfl _ _ _) rfl ?_
        all_goals (rw [HAT.out]; exact ⟨⟨_, rfl⟩, below_step HB.out hb2⟩)
      · have t2 : decide (j < (l.length : Int)) = false := decide_eq_false hl
        clear hb hl hij
        go_wp2
        refine bodyPost_ret (results_tmp2 rfl _ _ _) rfl ?_
        rw [HAT.out]
        exact ⟨.inl rfl, HB.out⟩
set_option maxRecDepth 100000 in
theorem at_calls (A0 : Option Addr) (c0 : Nat) (l : List S98) (c : Int) (w : World) (hr : Kd.C k98 w A0 l.length l) (hc0 : l.length ≤ c0) (hs : SpansOk l) (hc : 0 ≤ c ∧ c ≤ 1114112) :
    Calls Try.prog 130 #[.slice A0 l.length c0, .int .i64 c] w fun e w' => e = .returned (.int .i64 (atP l c : Int)) ∧ Below w.heap.size w w' := by
  have HR := Aside0.mk hr
  have HS := Aside0.mk hs
  have HC := Aside0.mk hc
  clear hr hs hc
  go_enter Try.func130, Try.ntmps130
  go_wp2_with (go_at_call 140; refine (search_calls A0 c0 l c _ HR.out hc0 HS.out HC.out).mono ?_; rintro e w2 ⟨⟨b, rfl⟩, hb2⟩)
  go_ret
  exact ⟨rfl, hb2⟩
/-- The value of all numbers from lo up to hi, if they have one. -/
def unifP (l : List S98) (lo hi : Int) : Int × Bool :=
  if (atP l lo : Int) = l.length then (0, true) else
    if (rd_T98 l (atP l lo)).f0 ≥ hi then (0, true) else
      if (rd_T98 l (atP l lo)).f0 ≤ lo ∧ (rd_T98 l (atP l lo)).f1 ≥ hi - 1 then ((rd_T98 l (atP l lo)).f2, true) else (0, false)
theorem atP_le (l : List S98) (c : Int) : atP l c ≤ l.length := by
  unfold atP
  exact (List.takeWhile_sublist _).length_le
set_option maxHeartbeats 4000000 in
set_option maxRecDepth 100000 in
theorem uniform_calls (A0 : Option Addr) (c0 : Nat) (l : List S98) (lo hi : Int) (w : World) (hr : Kd.C k98 w A0 l.length l) (hc0 : l.length ≤ c0) (hs : SpansOk l) (h0 : 0 ≤ lo) (h1 : lo < hi) (h2 : hi ≤ 1114112) :
    Calls Try.prog 105 #[.slice A0 l.length c0, .int .i64 lo, .int .i64 hi] w fun e w' => e = .returned (.tuple #[.int .i64 (unifP l lo hi).1, .bool (unifP l lo hi).2]) ∧ Below w.heap.size w w' := by
  have HAT := Aside0.mk (fun W hr => at_calls A0 c0 l lo W hr hc0 hs ⟨h0, by omega⟩)
  have HLE := Aside0.mk (atP_le l lo)
  have HR := Aside0.mk hr
  have hw : wrap64 (hi - 1) = hi - 1 := by unfold wrap64; omega
  obtain ⟨i, hi'⟩ : ∃ i : Int, i = (atP l lo : Int) := ⟨_, rfl⟩
  unfold unifP
  rw [← hi'] at HAT ⊢
  rw [← Int.ofNat_le, ← hi'] at HLE
  have HI := Aside0.mk (show 0 ≤ i by omega)
  clear hr hs h0 h1 h2 hi'
  by_cases c1 : i = (l.length : Int)
  · rw [if_pos c1]
    have b1 : (i == (l.length : Int)) = true := by simpa using c1
    clear c1
    go_enter Try.func105, Try.ntmps105
    go_wp2_with (go_at_call 130; refine (HAT.out _ HR.out).mono ?_; rintro e w2 ⟨rfl, hb2⟩)
    refine bodyPost_ret (results_tmp2 rfl _ _ _) rfl ?_
    exact ⟨rfl, hb2⟩
  · rw [if_neg c1]
    have b1 : (i == (l.length : Int)) = false := by simpa using c1
    have m0 := HI.out
    have m1 : i < l.length := by have := HLE.out; omega
    have HZ := Aside0.mk (fun W hb => at_T98 (Kd.C_below (w1 := W) HR.out hb) i m0 m1)
    have g0 := eq_true m0
    have g1 := eq_true m1
    have d0 : decide (0 ≤ i) = true := decide_eq_true m0
    clear c1 m0 m1
    by_cases c2 : (rd_T98 l i).f0 ≥ hi
    · rw [if_pos c2]
      have b2 : decide ((rd_T98 l i).f0 ≥ hi) = true := decide_eq_true c2
      clear c2
      go_enter Try.func105, Try.ntmps105
      go_wp2_with (go_at_call 130; refine (HAT.out _ HR.out).mono ?_; rintro e w2 ⟨rfl, hb2⟩; obtain ⟨ad, e, z0, z1, z2⟩ := HZ.out w2 hb2; subst e)
      refine bodyPost_ret (results_tmp2 rfl _ _ _) rfl ?_
      exact ⟨rfl, hb2⟩
    · rw [if_neg c2]
      have b2 : decide ((rd_T98 l i).f0 ≥ hi) = false := decide_eq_false c2
      clear c2
      by_cases c3 : (rd_T98 l i).f0 ≤ lo
      · have b3 : decide ((rd_T98 l i).f0 ≤ lo) = true := decide_eq_true c3
        by_cases c4 : (rd_T98 l i).f1 ≥ hi - 1
        · rw [if_pos ⟨c3, c4⟩]
          have b4 : decide ((rd_T98 l i).f1 ≥ hi - 1) = true := decide_eq_true c4
          clear c3 c4
          go_enter Try.func105, Try.ntmps105
          go_wp2_with (go_at_call 130; refine (HAT.out _ HR.out).mono ?_; rintro e w2 ⟨rfl, hb2⟩; obtain ⟨ad, e, z0, z1, z2⟩ := HZ.out w2 hb2; subst e)
          refine bodyPost_ret (results_tmp2 rfl _ _ _) rfl ?_
          exact ⟨rfl, hb2⟩
        · rw [if_neg (fun h => c4 h.2)]
          have b4 : decide ((rd_T98 l i).f1 ≥ hi - 1) = false := decide_eq_false c4
          clear c3 c4
          go_enter Try.func105, Try.ntmps105
          go_wp2_with (go_at_call 130; refine (HAT.out _ HR.out).mono ?_; rintro e w2 ⟨rfl, hb2⟩; obtain ⟨ad, e, z0, z1, z2⟩ := HZ.out w2 hb2; subst e)
          refine bodyPost_ret (results_tmp2 rfl _ _ _) rfl ?_
          exact ⟨rfl, hb2⟩
      · rw [if_neg (fun h => c3 h.1)]
        have b3 : decide ((rd_T98 l i).f0 ≤ lo) = false := decide_eq_false c3
        clear c3
        go_enter Try.func105, Try.ntmps105
        go_wp2_with (go_at_call 130; refine (HAT.out _ HR.out).mono ?_; rintro e w2 ⟨rfl, hb2⟩; obtain ⟨ad, e, z0, z1, z2⟩ := HZ.out w2 hb2; subst e)
        refine bodyPost_ret (results_tmp2 rfl _ _ _) rfl ?_
        exact ⟨rfl, hb2⟩
end Go.Proofs.Ytdlijioedokgjaa.Q
/- Where the variables of multistage.Build's closures lie, and what holds of them. -/
namespace Go.Proofs.Ytdlijioedokgjaa.Q
open Go.RowKit Go.Proofs.YtdlijioedokgjaaW.PrintWords Go.Proofs.YtdlijioedokgjaaW.PrintLast Go.Proofs.YtdlijioedokgjaaW.PrintMore
set_option linter.unusedVariables false
set_option linter.unusedSimpArgs false

structure Lay where
  ls : List S98
  W : List Int
  Al : Option Addr
  cl : Nat
  Aw : Option Addr
  cw : Nat
  tw : Value
  bl : Nat
  bn : Nat
  bw : Nat
  bt : Nat
  bs : Nat
  ba : Nat
  bm : Nat
  bb : Nat
  gs : Nat
  ga : Nat
  gt : Nat
  m0 : Nat
def Lay.ms (Y : Lay) (i : Nat) : Nat := Y.m0 + 2 * i
def Lay.ma (Y : Lay) (i : Nat) : Nat := Y.m0 + 2 * i + 1
def ptr (b : Nat) : Value := .pointer (some ⟨b, 0, none⟩)
def Lay.caps (Y : Lay) : Array Value := #[ptr Y.bl, ptr Y.bn, ptr Y.ba, ptr Y.bw, ptr Y.bb, ptr Y.bs, ptr Y.bt]
def Lay.consts (Y : Lay) : List Nat := [Y.bl, Y.bn, Y.bw, Y.bt, Y.bs, Y.ba, Y.bm, Y.bb, Y.gs, Y.ga]
/-- What does not change. -/
structure Cs (Y : Lay) (W : World) : Prop where
  l : W.heap[Y.bl]? = some (.cells #[.slice Y.Al Y.ls.length Y.cl] 49 (0, 0))
  n : W.heap[Y.bn]? = some (.cells #[.int .i64 (Y.W.length : Int)] 3 (0, 0))
  w : W.heap[Y.bw]? = some (.cells #[.slice Y.Aw Y.W.length Y.cw] 26 (0, 0))
  t : W.heap[Y.bt]? = some (.cells #[Y.tw, .slice (some ⟨Y.gt, 0, none⟩) (Y.W.length + 1) (Y.W.length + 1)] 46 (0, 0))
  s : W.heap[Y.bs]? = some (.cells #[.slice (some ⟨Y.gs, 0, none⟩) (Y.W.length + 1) (Y.W.length + 1)] 109 (0, 0))
  a : W.heap[Y.ba]? = some (.cells #[.slice (some ⟨Y.ga, 0, none⟩) (Y.W.length + 1) (Y.W.length + 1)] 110 (0, 0))
  m : W.heap[Y.bm]? = some (.cells #[.func (.func 104) #[] Y.caps] 113 (0, 0))
  b : W.heap[Y.bb]? = some (.cells #[.func (.func 103) #[] #[ptr Y.bm]] 114 (0, 0))
  gs : W.heap[Y.gs]? = some (.cells ((List.range (Y.W.length + 1)).map fun i => Value.map (some (Y.ms i))).toArray 111 (0, 0))
  ga : W.heap[Y.ga]? = some (.cells ((List.range (Y.W.length + 1)).map fun i => Value.map (some (Y.ma i))).toArray 112 (0, 0))
theorem Cs.kp {Y : Lay} {W W' : World} {S : Nat → Prop} (h : Cs Y W) (k : Kp S W W') (hs : ∀ b ∈ Y.consts, ¬ S b) : Cs Y W' :=
  ⟨k.heap h.l (hs _ (by simp [Lay.consts])), k.heap h.n (hs _ (by simp [Lay.consts])), k.heap h.w (hs _ (by simp [Lay.consts])), k.heap h.t (hs _ (by simp [Lay.consts])), k.heap h.s (hs _ (by simp [Lay.consts])), k.heap h.a (hs _ (by simp [Lay.consts])), k.heap h.m (hs _ (by simp [Lay.consts])), k.heap h.b (hs _ (by simp [Lay.consts])), k.heap h.gs (hs _ (by simp [Lay.consts])), k.heap h.ga (hs _ (by simp [Lay.consts]))⟩
theorem Cs.lt {Y : Lay} {W : World} (h : Cs Y W) : ∀ b ∈ Y.consts, b < W.heap.size := by
  intro b hb
  simp only [Lay.consts, List.mem_cons, List.not_mem_nil, or_false] at hb
  rcases hb with rfl | rfl | rfl | rfl | rfl | rfl | rfl | rfl | rfl | rfl
  · exact blk_lt h.l
  · exact blk_lt h.n
  · exact blk_lt h.w
  · exact blk_lt h.t
  · exact blk_lt h.s
  · exact blk_lt h.a
  · exact blk_lt h.m
  · exact blk_lt h.b
  · exact blk_lt h.gs
  · exact blk_lt h.ga
/-- A row of one's own is no map. -/
theorem Row.ne_map {W : World} {B g : Nat} {v : Value} {xs : List Int} {es : Array MapEntry} {c : Nat} (h : Row W B v xs) (hg : W.heap[g]? = some (.map es c)) : some g ≠ v.ownBlock := by
  intro e
  obtain ⟨_, _, _, q, hq, cells, hc⟩ := (Kd.R_bound h).1 g e.symm
  rw [hg] at hc
  injection hc with h1
  cases h1
/-- Whose blocks lie in O. -/
structure InvD (Y : Lay) (w0 W : World) (rows : List (List Int)) (sd ad : List (Nat × DataW Unit)) (O : Nat → Prop) : Prop where
  bel : Below w0.heap.size w0 W
  cs : Cs Y W
  co : ∀ b ∈ Y.consts, ¬ O b
  hO : ∀ b, O b → w0.heap.size ≤ b
  og : O Y.gt
  om : ∀ i, i < Y.W.length → O (Y.ms (i + 1)) ∧ O (Y.ma (i + 1))
  len : rows.length = Y.W.length
  heads : ∃ h0 hs, hs.length = Y.W.length ∧ W.heap[Y.gt]? = some (.cells (h0 :: hs).toArray 26 (0, 0)) ∧ RowsAt W w0.heap.size (hs.zip rows) ∧ ∀ h ∈ hs, ∀ k, h.ownBlock = some k → O k
  seen : ∀ i p, sd[i]? = some p → i < Y.W.length ∧ W.ownsMap Try.prog 9 (plainElem Try.prog 3) (Y.ms (i + 1)) p.1 p.2
  alike : ∀ i p, ad[i]? = some p → i < Y.W.length ∧ W.ownsMap Try.prog 3 (plainElem Try.prog 3) (Y.ma (i + 1)) p.1 p.2
theorem Kp.heap' {S : Nat → Prop} {w w1 : World} (h : Kp S w w1) {g : Nat} {o : Obj} (hb : w.heap[g]? = some o) (hn : ¬ S g) : w1.heap[g]? = some o := (h.blk g (Array.getElem?_eq_some_iff.1 hb).1 hn).trans hb
theorem owns_same {W W' : World} {k : TypeId} {R : Value → Option (DataW Unit × List MemPlace)} {b n : Nat} {D : DataW Unit} (h : W.ownsMap Try.prog k R b n D) (e : W'.heap[b]? = W.heap[b]?) : W'.ownsMap Try.prog k R b n D := by
  obtain ⟨es, clock, hb, r⟩ := h
  exact ⟨es, clock, e.trans hb, r⟩
theorem RowsAt.kp {W W' : World} {B : Nat} {rs : List (Value × List Int)} {S O : Nat → Prop} (h : RowsAt W B rs) (k : Kp S W W') (hO : ∀ p ∈ rs, ∀ k, p.1.ownBlock = some k → O k) (hS : ∀ i, S i → ¬ O i) : RowsAt W' B rs :=
  ⟨fun i v xs hi => Row.of (R_kp ((h.row i v xs hi).ok (ok := O) (hO _ (List.mem_of_getElem? hi))) k (fun j hj => .inr (hS j hj))), h.apart⟩
theorem zip_own {hs : List Value} {rows : List (List Int)} {O : Nat → Prop} (h : ∀ v ∈ hs, ∀ k, v.ownBlock = some k → O k) : ∀ p ∈ hs.zip rows, ∀ k, p.1.ownBlock = some k → O k := fun p hp => h p.1 (List.of_mem_zip (a := p.1) (b := p.2) hp).1
theorem InvD.kp {Y : Lay} {w0 W W' : World} {rows : List (List Int)} {sd ad : List (Nat × DataW Unit)} {O S : Nat → Prop} (h : InvD Y w0 W rows sd ad O) (k : Kp S W W') (hS : ∀ b, S b → b ∉ Y.consts ∧ ¬ O b ∧ w0.heap.size ≤ b) : InvD Y w0 W' rows sd ad O := by
  obtain ⟨h0, hs, g1, g2, g3, g4⟩ := h.heads
  refine ⟨?_, h.cs.kp k (fun b hb hs => (hS b hs).1 hb), h.co, h.hO, h.og, h.om, h.len, ⟨h0, hs, g1, k.heap g2 (fun hs => (hS _ hs).2.1 h.og), g3.kp k (zip_own g4) (fun i hi => (hS i hi).2.1), g4⟩, ?_, ?_⟩
  · exact h.bel.trans (k.to_below h.bel.size (fun i hi => (hS i hi).2.2))
  · intro i p hi
    obtain ⟨a, b⟩ := h.seen i p hi
    exact ⟨a, owns_same b (k.blk _ b.lt (fun hs => (hS _ hs).2.1 (h.om i a).1))⟩
  · intro i p hi
    obtain ⟨a, b⟩ := h.alike i p hi
    exact ⟨a, owns_same b (k.blk _ b.lt (fun hs => (hS _ hs).2.1 (h.om i a).2))⟩
theorem InvD.mono {Y : Lay} {w0 W : World} {rows : List (List Int)} {sd ad : List (Nat × DataW Unit)} {O O' : Nat → Prop} (h : InvD Y w0 W rows sd ad O) (hs : ∀ b, O b → O' b) (hc : ∀ b ∈ Y.consts, ¬ O' b) (hO : ∀ b, O' b → w0.heap.size ≤ b) : InvD Y w0 W rows sd ad O' := by
  obtain ⟨h0, hs', g1, g2, g3, g4⟩ := h.heads
  exact ⟨h.bel, h.cs, hc, hO, hs _ h.og, fun i hi => ⟨hs _ (h.om i hi).1, hs _ (h.om i hi).2⟩, h.len, ⟨h0, hs', g1, g2, g3, fun v hv k hk => hs _ (g4 v hv k hk)⟩, h.seen, h.alike⟩
theorem Kp.of_turned {W W' : World} {b : Nat} (h : W.mapTurned W' b) : Kp (fun i => i = b) W W' := (Kp.of_grownBy h.grown).mono (fun i hi => Option.some.inj hi)
/-- A map is written. -/
theorem InvD.turned {Y : Lay} {w0 W W' : World} {rows : List (List Int)} {sd ad : List (Nat × DataW Unit)} {O : Nat → Prop} (h : InvD Y w0 W rows sd ad O) {b : Nat} (hb : O b) (ht : W.mapTurned W' b) : Below w0.heap.size w0 W' ∧ Cs Y W' ∧
    (∃ h0 hs, hs.length = Y.W.length ∧ W'.heap[Y.gt]? = some (.cells (h0 :: hs).toArray 26 (0, 0)) ∧ RowsAt W' w0.heap.size (hs.zip rows) ∧ ∀ h ∈ hs, ∀ k, h.ownBlock = some k → O k) := by
  obtain ⟨h0, hs, g1, g2, g3, g4⟩ := h.heads
  have k := Kp.of_turned ht
  obtain ⟨es, clock, _, _, hm, _⟩ := ht
  refine ⟨h.bel.trans (k.to_below h.bel.size (fun i hi => by subst hi; exact h.hO _ hb)), h.cs.kp k (fun c hc e => h.co c hc (by subst e; exact hb)), h0, hs, g1, ?_, ?_, g4⟩
  · refine k.heap g2 (fun e => ?_)
    rw [e, hm] at g2
    injection g2 with g2
    cases g2
  · exact ⟨fun i v xs hi => Row.of (R_kp ((g3.row i v xs hi).ok (ok := fun k => v.ownBlock = some k) (fun _ hk => hk)) k (fun j hj => .inr (fun e => by subst hj; exact (g3.row i v xs hi).ne_map hm e.symm))), g3.apart⟩
theorem set_at {α : Type} {l : List α} {i j : Nat} {x y : α} (h : (l.set i x)[j]? = some y) : (i = j ∧ x = y) ∨ (i ≠ j ∧ l[j]? = some y) := by
  rw [List.getElem?_set] at h
  split at h
  · rename_i e
    split at h
    · exact .inl ⟨e, Option.some.inj h⟩
    · cases h
  · rename_i e; exact .inr ⟨e, h⟩
theorem InvD.seenSet {Y : Lay} {w0 W W' : World} {rows : List (List Int)} {sd ad : List (Nat × DataW Unit)} {O : Nat → Prop} (h : InvD Y w0 W rows sd ad O) {i : Nat} (hi : i < Y.W.length) {p : Nat × DataW Unit} (hp : W'.ownsMap Try.prog 9 (plainElem Try.prog 3) (Y.ms (i + 1)) p.1 p.2) (ht : W.mapTurned W' (Y.ms (i + 1))) : InvD Y w0 W' rows (sd.set i p) ad O := by
  obtain ⟨t1, t2, t3⟩ := h.turned (h.om i hi).1 ht
  have k := Kp.of_turned ht
  refine ⟨t1, t2, h.co, h.hO, h.og, h.om, h.len, t3, ?_, ?_⟩
  · intro j q hq
    rcases set_at hq with ⟨rfl, rfl⟩ | ⟨hne, hq⟩
    · exact ⟨hi, hp⟩
    · obtain ⟨a, b⟩ := h.seen j q hq
      exact ⟨a, owns_same b (k.blk _ b.lt (fun e => by unfold Lay.ms at e; omega))⟩
  · intro j q hq
    obtain ⟨a, b⟩ := h.alike j q hq
    exact ⟨a, owns_same b (k.blk _ b.lt (fun e => by unfold Lay.ms Lay.ma at e; omega))⟩
theorem InvD.alikeSet {Y : Lay} {w0 W W' : World} {rows : List (List Int)} {sd ad : List (Nat × DataW Unit)} {O : Nat → Prop} (h : InvD Y w0 W rows sd ad O) {i : Nat} (hi : i < Y.W.length) {p : Nat × DataW Unit} (hp : W'.ownsMap Try.prog 3 (plainElem Try.prog 3) (Y.ma (i + 1)) p.1 p.2) (ht : W.mapTurned W' (Y.ma (i + 1))) : InvD Y w0 W' rows sd (ad.set i p) O := by
  obtain ⟨t1, t2, t3⟩ := h.turned (h.om i hi).2 ht
  have k := Kp.of_turned ht
  refine ⟨t1, t2, h.co, h.hO, h.og, h.om, h.len, t3, ?_, ?_⟩
  · intro j q hq
    obtain ⟨a, b⟩ := h.seen j q hq
    exact ⟨a, owns_same b (k.blk _ b.lt (fun e => by unfold Lay.ms Lay.ma at e; omega))⟩
  · intro j q hq
    rcases set_at hq with ⟨rfl, rfl⟩ | ⟨hne, hq⟩
    · exact ⟨hi, hp⟩
    · obtain ⟨a, b⟩ := h.alike j q hq
      exact ⟨a, owns_same b (k.blk _ b.lt (fun e => by unfold Lay.ma at e; omega))⟩
theorem zip_set {α β : Type} : ∀ (a : List α) (b : List β) (i : Nat) (x : α) (y : β), (a.set i x).zip (b.set i y) = (a.zip b).set i (x, y)
  | [], _, _, _, _ => by simp
  | _ :: _, [], _, _, _ => by simp
  | _ :: a, _ :: b, 0, x, y => rfl
  | u :: a, v :: b, i + 1, x, y => by simp [zip_set a b i x y]
/-- The head's cells: a row is written back. -/
theorem RowsAt.put1 {W : World} {B g : Nat} {rs : List (Value × List Int)} {cs : Array Value} (h : RowsAt W B rs) (hk : W.heap[g]? = some (.cells cs 26 (0, 0))) (i : Nat) (x : Value) : RowsAt (W.setCell ⟨g, i, none⟩ x) B rs :=
  ⟨fun j v xs hi => Row.of (Kd.R_step ((h.row j v xs hi).ok (ok := fun k => v.ownBlock = some k) (fun _ hk => hk)) (fun k hk1 hlt => Below.heap_setCell _ _ _ _ (fun e => by
      refine (h.row j v xs hi).ne hk (by decide) ?_
      rw [hk1]; exact congrArg some e.symm))), h.apart⟩
theorem InvD.rowSet {Y : Lay} {w0 W W2 : World} {rows : List (List Int)} {sd ad : List (Nat × DataW Unit)} {O : Nat → Prop} (h : InvD Y w0 W rows sd ad O) {i : Nat} {v v' : Value} {xs xs' : List Int} {ok : Nat → Prop} {h0 : Value} {hs : List Value} (hg : W.heap[Y.gt]? = some (.cells (h0 :: hs).toArray 26 (0, 0))) (hv : hs[i]? = some v) (hx : rows[i]? = some xs)
    (hgr : W.grownBy W2 v.ownBlock) (hR : Kd.R (Kd.int .i64) 3 W2 w0.heap.size ok v' xs') (hat : v'.ownBlock = v.ownBlock ∨ ∃ b, v'.ownBlock = some b ∧ W.heap.size ≤ b) :
    InvD Y w0 (W2.setCell ⟨Y.gt, i + 1, none⟩ v') (rows.set i xs') sd ad (fun b => O b ∨ W.heap.size ≤ b) := by
  obtain ⟨h0', hs', g1, g2, g3, g4⟩ := h.heads
  rw [hg] at g2
  injection g2 with g2
  injection g2 with g2 _ _
  have g2' := congrArg Array.toList g2
  simp only [List.cons.injEq] at g2'
  obtain ⟨rfl, rfl⟩ := g2'
  have hi : i < hs.length := by
    rcases Nat.lt_or_ge i hs.length with hlt | hge
    · exact hlt
    · rw [List.getElem?_eq_none hge] at hv; cases hv
  have hvo : ∀ k, v.ownBlock = some k → O k := g4 v (List.mem_of_getElem? hv)
  have hz : (hs.zip rows)[i]? = some (v, xs) := by rw [List.getElem?_zip_eq_some]; exact ⟨hv, hx⟩
  have hrow := g3.row i v xs hz
  have k1 := Kp.of_grownBy hgr
  have hgt : W2.heap[Y.gt]? = some (.cells (h0 :: hs).toArray 26 (0, 0)) := k1.heap hg (fun e => hrow.ne hg (by decide) e)
  have k2 : Kp (fun b => O b) W (W2.setCell ⟨Y.gt, i + 1, none⟩ v') := Kp.set (k1.mono (fun j hj => hvo j hj.symm)) (.inl h.og) _
  have hcn : ∀ b ∈ Y.consts, ¬ (O b ∨ W.heap.size ≤ b) := fun b hb e => e.elim (h.co b hb) (fun e => by have := h.cs.lt b hb; omega)
  refine ⟨h.bel.trans (k2.to_below h.bel.size h.hO), h.cs.kp k2 h.co, hcn, fun b hb => hb.elim (h.hO b) (fun e => by have := h.bel.size; omega), .inl h.og, fun j hj => ⟨.inl (h.om j hj).1, .inl (h.om j hj).2⟩, by rw [List.length_set]; exact h.len, ⟨h0, hs.set i v', by rw [List.length_set]; exact g1, ?_, ?_, ?_⟩, ?_, ?_⟩
  · exact blk_put hgt (i + 1) v' (by simp)
  · rw [zip_set]
    exact (g3.grow i hz hgr hR hat).put1 hgt _ _
  · intro u hu k hk
    rcases List.mem_or_eq_of_mem_set hu with hu | rfl
    · exact .inl (g4 u hu k hk)
    · rcases hat with e | ⟨b, e, hb⟩
      · rw [e] at hk; exact .inl (hvo k hk)
      · rw [e] at hk; injection hk with hk; subst hk; exact .inr hb
  · intro j p hj
    obtain ⟨a, b⟩ := h.seen j p hj
    obtain ⟨es, clock, hb, r⟩ := b
    have hm : Y.ms (j + 1) ≠ Y.gt := by intro e; rw [e, hg] at hb; injection hb with hb; cases hb
    refine ⟨a, es, clock, ?_, r⟩
    rw [Below.heap_setCell _ _ _ _ hm]
    exact k1.heap' hb (fun e => hrow.ne_map hb e)
  · intro j p hj
    obtain ⟨a, b⟩ := h.alike j p hj
    obtain ⟨es, clock, hb, r⟩ := b
    have hm : Y.ma (j + 1) ≠ Y.gt := by intro e; rw [e, hg] at hb; injection hb with hb; cases hb
    refine ⟨a, es, clock, ?_, r⟩
    rw [Below.heap_setCell _ _ _ _ hm]
    exact k1.heap' hb (fun e => hrow.ne_map hb e)
end Go.Proofs.Ytdlijioedokgjaa.Q
/- multistage.Build's closures by hand: block and number, which call each other. -/
namespace Go.Proofs.Ytdlijioedokgjaa.Q
open Go.RowKit Go.Proofs.YtdlijioedokgjaaW.PrintWords Go.Proofs.YtdlijioedokgjaaW.PrintLast Go.Proofs.YtdlijioedokgjaaW.PrintMore
set_option linter.unusedVariables false
set_option linter.unusedSimpArgs false

def Lay.U (Y : Lay) (lo hi : Nat) : Int × Bool := unifP Y.ls (lo : Int) (hi : Int)
def seenData (w : Int) (L : Lv) : Nat × DataW Unit := (L.rows.length / pw w, dataKV (seenKV (pw w) L.rows (L.rows.length / pw w)))
def evData (L : Lv) : Nat × DataW Unit := (L.ev.length, dataKV (evKV L.ev))
def InvL (Y : Lay) (w0 W : World) (Λ : List Lv) (O : Nat → Prop) : Prop := InvD Y w0 W (Λ.map Lv.rows) (List.zipWith seenData Y.W Λ) (Λ.map evData) O
theorem InvL.restrict {Y : Lay} {w0 W : World} {Λ : List Lv} {O : Nat → Prop} (h : InvL Y w0 W Λ O) : InvL Y w0 W Λ (fun b => O b ∧ b < W.heap.size) := by
  have hlen : Λ.length = Y.W.length := by have := h.len; rwa [List.length_map] at this
  obtain ⟨h0, hs, g1, g2, g3, g4⟩ := h.heads
  refine ⟨h.bel, h.cs, fun b hb hO => h.co b hb hO.1, fun b hb => h.hO b hb.1, ⟨h.og, blk_lt g2⟩, fun i hi => ?_, h.len, ⟨h0, hs, g1, g2, g3, fun v hv k hk => ⟨g4 v hv k hk, ?_⟩⟩, h.seen, h.alike⟩
  · have a := (h.seen i (seenData (Y.W[i]) (Λ[i]'(by omega))) (by rw [List.getElem?_zipWith]; simp [hi, show i < Λ.length by omega])).2.lt
    have b := (h.alike i (evData (Λ[i]'(by omega))) (by simp [show i < Λ.length by omega])).2.lt
    exact ⟨⟨(h.om i hi).1, a⟩, ⟨(h.om i hi).2, b⟩⟩
  · obtain ⟨n, hn, rfl⟩ := List.mem_iff_getElem.1 hv
    have hz : (hs.zip (Λ.map Lv.rows))[n]? = some (hs[n], (Λ[n]'(by omega)).rows) := by
      rw [List.getElem?_zip_eq_some]
      exact ⟨by simp [hn], by simp [show n < Λ.length by omega]⟩
    exact (g3.row n _ _ hz).lt hk
/-- Whose blocks are those of O and new ones, but for one. -/
def Ox (O : Nat → Prop) (n out : Nat) (W : World) : Nat → Prop := fun b => (O b ∨ n ≤ b) ∧ b ≠ out ∧ b < W.heap.size
def On (O : Nat → Prop) (n : Nat) (W : World) : Nat → Prop := fun b => (O b ∨ n ≤ b) ∧ b < W.heap.size
def NumC (Y : Lay) (w0 : World) (ws : List Int) : Prop :=
  ∀ (pre : List Lv) (ps : List Int) (σ : List Lv) (base : Nat) (O : Nat → Prop) (W : World), ps ++ ws = Y.W → pre.length = ps.length → InvL Y w0 W (pre ++ σ) O → (∀ b, O b → b < W.heap.size) → GoodS ws σ base → base + szW ws ≤ 1114112 →
    Calls Try.prog 104 #[.int .i64 ((pre.length : Int) + 1), .int .i64 (base : Int), .int .i64 (szW ws : Int), ptr Y.bl, ptr Y.bn, ptr Y.ba, ptr Y.bw, ptr Y.bb, ptr Y.bs, ptr Y.bt] W fun e W' => e = .returned (.int .i64 (numP Y.U ws base σ).1) ∧ InvL Y w0 W' (pre ++ (numP Y.U ws base σ).2) (On O W.heap.size W') ∧ Kp O W W'
/-- The new block holds these numbers. -/
def OutIs (W : World) (out many : Nat) (l : List Int) : Prop := ∃ cs, W.heap[out]? = some (.cells cs 3 (0, 0)) ∧ cs.size = many ∧ ∀ j < l.length, cs[j]? = some (.int .i64 (l.getD j 0))
theorem size_set (W : World) (a : Addr) (v : Value) : (W.setCell a v).heap.size = W.heap.size := by
  simp [World.setCell]
theorem OutIs.set {W : World} {out many : Nat} {l : List Int} {x : Int} (h : OutIs W out many l) (hl : l.length < many) : OutIs (W.setCell ⟨out, l.length, none⟩ (.int .i64 x)) out many (l ++ [x]) := by
  obtain ⟨cs, h1, h2, h3⟩ := h
  refine ⟨cs.setIfInBounds l.length (.int .i64 x), blk_put h1 _ _ rfl, by simp [h2], fun j hj => ?_⟩
  rw [List.length_append, List.length_singleton] at hj
  by_cases e : j = l.length
  · subst e
    rw [Array.getElem?_setIfInBounds]
    simp [h2, hl]
  · rw [Array.getElem?_setIfInBounds, if_neg (fun h => e h.symm), h3 j (by omega), getD_app (by omega)]
theorem block_step {Y : Lay} {w0 w wr w2 : World} {O : Nat → Prop} {out many : Nat} {x : Int} {l : List Int} {Λ : List Lv} (hout : out = w.heap.size) (hlt : ∀ b, O b → b < w.heap.size) (hCs : ∀ b ∈ Y.consts, b < w.heap.size) (hco : ∀ b ∈ Y.consts, ¬ O b) (hO : ∀ b, O b → w0.heap.size ≤ b) (hw0 : w0.heap.size ≤ w.heap.size)
    (hk : Kp O w wr) (hor : out < wr.heap.size) (hI2 : InvL Y w0 w2 Λ (On (Ox O w.heap.size out wr) wr.heap.size w2)) (hk2 : Kp (Ox O w.heap.size out wr) wr w2) (ho2 : OutIs w2 out many l) (hl : l.length < many) :
    InvL Y w0 (w2.setCell ⟨out, l.length, none⟩ (.int .i64 x)) Λ (Ox O w.heap.size out (w2.setCell ⟨out, l.length, none⟩ (.int .i64 x))) ∧ OutIs (w2.setCell ⟨out, l.length, none⟩ (.int .i64 x)) out many (l ++ [x]) ∧ Kp O w (w2.setCell ⟨out, l.length, none⟩ (.int .i64 x)) := by
  have hs := size_set w2 ⟨out, l.length, none⟩ (.int .i64 x)
  have hkw : Kp O w w2 := hk.then_ hk2 (fun i hi => hi.1)
  have hks : Kp (fun b => b = out) w2 (w2.setCell ⟨out, l.length, none⟩ (.int .i64 x)) := Kp.set (S := fun b => b = out) (p := ⟨out, l.length, none⟩) (Kp.refl _ w2) (.inl rfl) _
  refine ⟨?_, ho2.set hl, hkw.set (.inr (by show w.heap.size ≤ out; omega)) _⟩
  have hcn : ∀ b ∈ Y.consts, ¬ Ox O w.heap.size out w2 b := fun b hb h => by
    have h1 := hCs b hb
    rcases h.1 with h | h
    · exact hco b hb h
    · omega
  have hI3 : InvL Y w0 w2 Λ (Ox O w.heap.size out w2) := InvD.mono hI2 (fun b hb => by
    rcases hb.1 with h | h
    · exact ⟨h.1, h.2.1, hb.2⟩
    · exact ⟨.inr (by have := hk.size; omega), by omega, hb.2⟩) hcn (fun b hb => by
    rcases hb.1 with h | h
    · exact hO b h
    · omega)
  have hI4 : InvL Y w0 (w2.setCell ⟨out, l.length, none⟩ (.int .i64 x)) Λ (Ox O w.heap.size out w2) := InvD.kp hI3 hks (fun b hb => by
    subst hb
    exact ⟨fun h => by have := hCs _ h; omega, fun h => h.2.1 rfl, by omega⟩)
  have e : Ox O w.heap.size out (w2.setCell ⟨out, l.length, none⟩ (.int .i64 x)) = Ox O w.heap.size out w2 := by unfold Ox; rw [hs]
  rw [e]
  exact hI4
theorem blk_meas {many k : Nat} (h : k < many) : many - (k + 1) < many - k := by omega
theorem w_add1 (n : Nat) (h : n ≤ 2000000) : wrap64 ((n : Int) + 1) = ((n + 1 : Nat) : Int) := by unfold wrap64; omega
theorem w_add1' (n : Nat) (h : n ≤ 2000000) : wrap64 ((n : Int) + 1) = (n : Int) + 1 := by unfold wrap64; omega
theorem w_mul (k z q : Nat) (hq : q = k * z) (h : q ≤ 2000000) : wrap64 ((k : Int) * (z : Int)) = (q : Int) := by
  rw [← Int.natCast_mul, ← hq]; unfold wrap64; omega
theorem w_addn (a b c : Nat) (hc : c = a + b) (h : c ≤ 2000000) : wrap64 ((a : Int) + (b : Int)) = (c : Int) := by
  rw [hc, Int.natCast_add]; unfold wrap64; omega
theorem blk_bounds {many z q k base b2 : Nat} (hlt : k < many) (hq : q = k * z) (hb2 : b2 = base + q) (h : base + many * z ≤ 1114112) : q ≤ 2000000 ∧ b2 ≤ 2000000 ∧ base + k * z ≤ 1114112 ∧ base + k * z + z ≤ 1114112 := by
  have hle : q + z ≤ many * z := by rw [hq, ← Nat.succ_mul]; exact Nat.mul_le_mul_right z hlt
  rw [← hq]
  omega
set_option maxHeartbeats 4000000 in
set_option maxRecDepth 100000 in
theorem block_calls (Y : Lay) (w0 : World) (hU : ∀ a b, i64in (Y.U a b).1 = true) {ws : List Int} (hN : NumC Y w0 ws) (pre : List Lv) (ps : List Int) (σ : List Lv) (base many : Nat) (O : Nat → Prop) (w : World) (e1 : ps ++ ws = Y.W) (e2 : pre.length = ps.length) (hI : InvL Y w0 w (pre ++ σ) O) (hlt : ∀ b, O b → b < w.heap.size) (hG : GoodS ws σ base) (hm : 1 ≤ many) (hb : base + many * szW ws ≤ 1114112) (hp : pre.length ≤ 3) :
    Calls Try.prog 103 #[.int .i64 (pre.length : Int), .int .i64 (base : Int), .int .i64 (szW ws : Int), .int .i64 (many : Int), ptr Y.bm] w fun e W' => e = .returned (.slice (some ⟨w.heap.size, 0, none⟩) many many) ∧ OutIs W' w.heap.size many (manyP (fun k => numP Y.U ws (base + k * szW ws)) many σ).1 ∧
      InvL Y w0 W' (pre ++ (manyP (fun k => numP Y.U ws (base + k * szW ws)) many σ).2) (Ox O w.heap.size w.heap.size W') ∧ Kp O w W' := by
  have hcf := fun (args : Array Value) (w : World) => enters_ Try.func104 (by kernel_rfl) rfl args w
  obtain ⟨i3, hi3, hz3, hsz3, hb3⟩ := info_parts info3
  have hz := szW_pos ws
  have hmany : many ≤ 1114112 := by have := Nat.mul_le_mul_left many hz; omega
  have hmk : ∀ W : World, (Instr.makeSlice 26 (.int .i64 (many : Int)) (.int .i64 (many : Int))).run Try.prog W = .ok (.slice (some ⟨W.heap.size, 0, none⟩) many many) (W.alloc (.cells (madeCells (Value.int .i64 0).cells (many * i3.size)) 3)) := fun W => by
    have := run_make (P := Try.prog) W 26 3 i3 (.int .i64 0) Try.underlying26 hi3 hz3 .i64 .i64 (many : Int) (many : Int) (by omega) (by omega) (by rw [hb3]; omega) (by omega)
    simpa using this
  have hms : (madeCells (Value.int .i64 0).cells (many * i3.size)).size = many := by rw [hsz3]; simp [madeCells]
  generalize madeCells (Value.int .i64 0).cells (many * i3.size) = cs0 at hmk hms
  obtain ⟨out, hout⟩ : ∃ out, out = w.heap.size := ⟨_, rfl⟩
  have OUT := Aside0.mk hout
  obtain ⟨f, hf⟩ : ∃ f, f = fun k => numP Y.U ws (base + k * szW ws) := ⟨_, rfl⟩
  have HF := Aside0.mk hf
  obtain ⟨z, hzz⟩ : ∃ z, z = szW ws := ⟨_, rfl⟩
  have HZ := Aside0.mk hzz
  have HNUM := Aside0.mk hN
  have HG0 := Aside0.mk (And.intro hU hG)
  have HE := Aside0.mk (And.intro e1 e2)
  have HLT := Aside0.mk hlt
  have HM := Aside0.mk (And.intro hmany hm)
  have HBND := Aside0.mk hb
  have HPP := Aside0.mk hp
  have HCS := Aside0.mk hI.cs.lt
  have HCO := Aside0.mk (And.intro hI.co (And.intro hI.hO hI.bel.size))
  rw [← hf, ← hzz]
  unfold ptr
  have st : InvL Y w0 (w.alloc (.cells cs0 3)) (pre ++ (manyP f 0 σ).2) (Ox O w.heap.size out (w.alloc (.cells cs0 3))) ∧ OutIs (w.alloc (.cells cs0 3)) out many (manyP f 0 σ).1 ∧ Kp O w (w.alloc (.cells cs0 3)) := by
    have hk : Kp (fun _ => False) w (w.alloc (.cells cs0 3)) := (Kp.refl _ w).alloc _
    refine ⟨?_, ⟨cs0, ?_, hms, fun j hj => by simp [manyP] at hj⟩, hk.mono (fun _ h => h.elim)⟩
    · refine InvD.mono (InvD.kp hI hk (fun _ h => h.elim)) (fun b hb => ⟨.inl hb, ?_, ?_⟩) (fun b hb h => ?_) (fun b h => ?_)
      · have := hlt b hb; omega
      · have := hlt b hb; have := hk.size; omega
      · have h1 := hI.cs.lt b hb
        rcases h.1 with h | h
        · exact hI.co b hb h
        · omega
      · rcases h.1 with h | h
        · exact hI.hO b h
        · have := hI.bel.size; omega
    · rw [hout]; exact blk_new w _
  have ST := Aside0.mk st
  clear hout hf hzz hN hU hG e1 e2 hI hlt hm hb hp hz hmany hms st
  go_enter Try.func103, Try.ntmps103
  go_wp2
  go_loopw [15] (fun v15 wr => ∃ k : Nat, v15 = .int .i64 (k : Int) ∧ Aside0 (k ≤ many) ∧ Aside0 (InvL Y w0 wr (pre ++ (manyP f k σ).2) (Ox O w.heap.size out wr)) ∧ Aside0 (OutIs wr out many (manyP f k σ).1) ∧ Aside0 (Kp O w wr)) (fun v15 _ => many - (intOf v15).toNat)
  case atStart => exact ⟨0, rfl, ⟨Nat.zero_le _⟩, ⟨ST.out.1⟩, ⟨ST.out.2.1⟩, ⟨ST.out.2.2⟩⟩
  case round =>
    clear ST
    obtain ⟨k, rfl, HK, HI, HO, HKP⟩ := hrel
    by_cases hlt : k < many
    · have t1 : decide ((k : Int) < (many : Int)) = true := decide_eq_true (Int.ofNat_lt.2 hlt)
      have cm : wr.cell? ⟨Y.bm, 0, none⟩ = some (.func (.func 104) #[] #[.pointer (some ⟨Y.bl, 0, none⟩), .pointer (some ⟨Y.bn, 0, none⟩), .pointer (some ⟨Y.ba, 0, none⟩), .pointer (some ⟨Y.bw, 0, none⟩), .pointer (some ⟨Y.bb, 0, none⟩), .pointer (some ⟨Y.bs, 0, none⟩), .pointer (some ⟨Y.bt, 0, none⟩)]) := blk_cell HI.out.cs.m 0
      obtain ⟨q, hq⟩ : ∃ q, q = k * z := ⟨_, rfl⟩
      obtain ⟨b2, hb2⟩ : ∃ b2, b2 = base + q := ⟨_, rfl⟩
      have hbd := HBND.out
      rw [← HZ.out] at hbd
      obtain ⟨q1, q2, q3, q4⟩ := blk_bounds hlt hq hb2 hbd
      have m0 := w_add1' pre.length (by have := HPP.out; omega)
      have m1 := w_mul k z q hq q1
      have m2 := w_addn base q b2 hb2 q2
      have m3 := w_add1 k (by have := HM.out.1; omega)
      have HQ := Aside0.mk (And.intro hq hb2)
      have HLK := Aside0.mk hlt
      have hg := (many_good HG0.out.1 ws base σ HG0.out.2 k (by rw [← HZ.out]; exact q3)).2
      rw [← HF.out] at hg
      have hc := HNUM.out pre ps (manyP f k σ).2 (base + k * szW ws) (Ox O w.heap.size out wr) wr HE.out.1 HE.out.2 HI.out (fun b hb => hb.2.2) hg (by rw [← HZ.out]; exact q4)
      have hfk : numP Y.U ws (base + k * szW ws) (manyP f k σ).2 = f k (manyP f k σ).2 := by rw [HF.out]
      rw [hfk, ← HZ.out, ← hq, ← hb2] at hc
      unfold ptr at hc
      have HC := Aside0.mk hc
      have k1 := eq_true hlt
      have k2 : decide ((0 : Int) ≤ (k : Int)) = true := decide_eq_true (Int.natCast_nonneg k)
      have k3 := eq_true (Int.ofNat_lt.2 hlt)
      have HKO := Aside0.mk (show ∀ W', Kp (Ox O w.heap.size out wr) wr W' → OutIs W' out many (manyP f k σ).1 ∧ ∃ v, W'.cell? ⟨out, k, none⟩ = some v ∧ W'.frozen? ⟨out, k, none⟩ = false from fun W' hk => by
        obtain ⟨cs, h1, h2, h3⟩ := HO.out
        have h4 := hk.heap h1 (fun h => h.2.1 rfl)
        refine ⟨⟨cs, h4, h2, h3⟩, cs[k]'(by rw [h2]; exact hlt), ?_, blk_frozen h4 k⟩
        rw [blk_cell h4 k]
        exact Array.getElem?_eq_getElem (by rw [h2]; exact hlt))
      have HOL := Aside0.mk (show out < wr.heap.size from by obtain ⟨cs, h1, _⟩ := HO.out; exact blk_lt h1)
      clear hq hb2 hbd hlt hg hc hfk q1 q2 q3 q4
      rw [← OUT.out]
      go_wp2_with (go_at_call 104; refine HC.out.mono ?_; rintro e w2 ⟨rfl, hI2, hk2⟩; obtain ⟨ho2, v2, hv2, hf2⟩ := HKO.out w2 hk2)
      go_roundw
      case rel =>
        have hl := manyP_len f σ k
        have hs := block_step (x := (f k (manyP f k σ).2).1) OUT.out HLT.out HCS.out HCO.out.1 HCO.out.2.1 HCO.out.2.2 HKP.out HOL.out hI2 hk2 ho2 (by rw [hl]; exact HLK.out)
        rw [hl, ← OUT.out] at hs
        exact ⟨k + 1, (by rw [m3]), ⟨HLK.out⟩, ⟨hs.1⟩, ⟨hs.2.1⟩, ⟨hs.2.2⟩⟩
      case measure =>
        rw [m3]
        exact blk_meas HLK.out
    · have hk : k = many := Nat.le_antisymm HK.out (Nat.le_of_not_lt hlt)
      have t1 : decide (k < many) = false := decide_eq_false hlt
      have HKM := Aside0.mk hk
      clear hk hlt
      go_wp2
      go_ret
      have hk := HKM.out
      subst hk
      rw [← OUT.out]
      exact ⟨rfl, HO.out, OUT.out ▸ HI.out, HKP.out⟩
end Go.Proofs.Ytdlijioedokgjaa.Q
/- multistage.Build's closure number by hand. -/
namespace Go.Proofs.Ytdlijioedokgjaa.Q
open Go.RowKit Go.Proofs.YtdlijioedokgjaaW.PrintWords Go.Proofs.YtdlijioedokgjaaW.PrintLast Go.Proofs.YtdlijioedokgjaaW.PrintMore
set_option linter.unusedVariables false
set_option linter.unusedSimpArgs false

theorem wf_of_in {x : Int} (h : i64in x = true) : (Lit.int .i64 x).wf = true := by
  have := of_decide_eq_true h
  exact WalkArith.wf_i64 (by omega)
theorem zero3 (W : World) : (zeroValue 3).run Try.prog W = .ok (.int .i64 0) W := by kernel_rfl
theorem look_run {t k b n : Nat} {W : World} {D : DataW Unit} {kv : List (Lit × Int)} {key : Value} {kl : Lit} (ho : W.ownsMap Try.prog k (plainElem Try.prog 3) b n D) (hD : D = dataKV kv) (hkv : ∀ p ∈ kv, WideAt.IsKeyLit p.1) (K : Maps.Keyed Try.prog k) (ht : Try.prog.underlying t = some (.map k 3)) (hkey : keyOf Try.prog k key = some kl) :
    (Instr.lookup t (.map (some b)) key true).run Try.prog W = .ok (.tuple #[.int .i64 ((lookKV kv kl).getD 0), .bool (lookKV kv kl).isSome]) W := by
  obtain ⟨u, ps, hrun, hv⟩ := ho.look_ok K ht (zero3 W) (plainElem_int Try.underlying3 (by decide)) hkey
  obtain ⟨c, rfl, hc, _⟩ := plainElem_int_inv Try.underlying3 hv
  have hc := congrArg Prod.fst hc
  simp only at hc
  subst hD
  rw [hrun, has_KV kv kl hkv]
  have e : c = (lookKV kv kl).getD 0 := by
    cases hl : lookKV kv kl with
    | some x =>
      rw [at_KV kv kl x _ hkv hl] at hc
      exact ((Lit.int.inj (DataW.lit.inj hc)).2).symm
    | none =>
      rw [Maps.atKey_of_not_has (by rw [has_KV kv kl hkv, hl]; rfl)] at hc
      exact ((Lit.int.inj (DataW.lit.inj hc)).2).symm
  rw [e]
theorem InvL.below {Y : Lay} {w0 W W' : World} {Λ : List Lv} {O : Nat → Prop} (h : InvL Y w0 W Λ O) (hb : Below W.heap.size W W') : InvL Y w0 W' Λ O := InvD.kp h (Kp.of_below (S := fun _ => False) hb) (fun _ h => h.elim)
theorem map_mid {α β : Type} (f : α → β) (L' : α) : ∀ (pre : List α) (L : α) (σ : List α), ((pre ++ L :: σ).map f).set pre.length (f L') = (pre ++ L' :: σ).map f
  | [], L, σ => rfl
  | x :: pre, L, σ => by
    rw [List.cons_append, List.map_cons, List.length_cons, List.set_cons_succ, map_mid f L' pre L σ]
    rfl
theorem zw_mid {α β γ : Type} (g : α → β → γ) (w : α) (L' : β) : ∀ (ys : List α) (pre : List β) (L : β) (σ : List β), ys[pre.length]? = some w → (List.zipWith g ys (pre ++ L :: σ)).set pre.length (g w L') = List.zipWith g ys (pre ++ L' :: σ)
  | [], pre, L, σ, h => by simp at h
  | y :: ys, [], L, σ, h => by
    simp at h
    subst h
    rfl
  | y :: ys, x :: pre, L, σ, h => by
    have h' : ys[pre.length]? = some w := by simpa using h
    have ih := zw_mid g w L' ys pre L σ h'
    simp only [List.cons_append, List.zipWith_cons_cons, List.length_cons, List.set_cons_succ, ih]
theorem map_at {α β : Type} (f : α → β) (pre : List α) (L : α) (σ : List α) : ((pre ++ L :: σ).map f)[pre.length]? = some (f L) := by simp
theorem zw_at {α β γ : Type} (g : α → β → γ) {ys : List α} {w : α} (pre : List β) (L : β) (σ : List β) (h : ys[pre.length]? = some w) : (List.zipWith g ys (pre ++ L :: σ))[pre.length]? = some (g w L) := by
  rw [List.getElem?_zipWith]; simp [h]
theorem alike_run {Y : Lay} {w0 W : World} {pre σ : List Lv} {L : Lv} {O : Nat → Prop} (h : InvL Y w0 W (pre ++ L :: σ) O) {v : Int} (hv : i64in v = true) :
    (Instr.lookup 112 (.map (some (Y.ma (pre.length + 1)))) (.int .i64 v) true).run Try.prog W = .ok (.tuple #[.int .i64 ((L.ev.lookup v).getD 0), .bool (L.ev.lookup v).isSome]) W := by
  have := look_run (h.alike pre.length (evData L) (map_at evData pre L σ)).2 (kv := evKV L.ev) rfl (evKV_keys _) (Maps.int_keyed Try.underlying3) Try.underlying112 (Maps.keyOf_int_mk Try.underlying3 (wf_of_in hv))
  rw [ev_look] at this
  exact this
theorem key_size (c : List Int) : (strOfNums (keyB c)).size = 8 * c.length := by rw [sN_size, keyB_len]
theorem key_of {c : List Int} (hc : c.length ≤ 1000000000) : keyOf Try.prog 9 (.string (strOfNums (keyB c))) = some (litOf c) := WideMaps.keyOf_string_mk Try.underlying9 (by rw [key_size]; unfold maxLen; omega)
theorem seen_run {Y : Lay} {w0 W : World} {pre σ : List Lv} {L : Lv} {O : Nat → Prop} {w : Int} {b : Nat} (h : InvL Y w0 W (pre ++ L :: σ) O) (hw : Y.W[pre.length]? = some w) (hL : GoodL (pw w) b L) {c : List Int} (hc : c.length = pw w) (hcs : c.length ≤ 1000000000) (hci : c.all i64in = true) :
    (Instr.lookup 111 (.map (some (Y.ms (pre.length + 1)))) (.string (strOfNums (keyB c))) true).run Try.prog W = .ok (.tuple #[.int .i64 ((Option.map (fun (j : Nat) => (j : Int)) (findP (pw w) L.rows c)).getD 0), .bool (findP (pw w) L.rows c).isSome]) W := by
  have := look_run (h.seen pre.length (seenData w L) (zw_at seenData pre L σ hw)).2 (kv := seenKV (pw w) L.rows (L.rows.length / pw w)) rfl (seenKV_keys _ _ _) (Maps.string_keyed Try.underlying9) Try.underlying111 (key_of hcs)
  rw [seen_look hL.whole hL.nums hL.apart hc hci] at this
  rw [this]
  simp
theorem seen_len {Y : Lay} {w0 W : World} {pre σ : List Lv} {L : Lv} {O : Nat → Prop} {w : Int} {b : Nat} (h : InvL Y w0 W (pre ++ L :: σ) O) (hw : Y.W[pre.length]? = some w) (hL : GoodL (pw w) b L) :
    (Builtin.len_ #[111] 3 #[.map (some (Y.ms (pre.length + 1)))]).run Try.prog W = .ok (.int .i64 ((L.rows.length / pw w : Nat) : Int)) W := by
  have := (h.seen pre.length (seenData w L) (zw_at seenData pre L σ hw)).2.len (t := 111) Try.underlying111 3
  rw [this]
  have e := seen_size_KV (whole_eq hL.whole) hL.nums hL.apart
  show Result.ok (Value.int .i64 (Maps.size (dataKV (seenKV (pw w) L.rows (L.rows.length / pw w))) : Nat)) W = _
  rw [e]
theorem alike_store {Y : Lay} {w0 W : World} {pre σ : List Lv} {L : Lv} {O : Nat → Prop} {rows : List (List Int)} {sd : List (Nat × DataW Unit)} (h : InvD Y w0 W rows sd ((pre ++ L :: σ).map evData) O) (hp : pre.length < Y.W.length) (hev : L.ev.length ≤ 1000000000) {v k : Int} (hv : i64in v = true) (hk : i64in k = true) (rws : List Int) :
    ∃ W', (Instr.mapUpdate 112 (.map (some (Y.ma (pre.length + 1)))) (.int .i64 v) (.int .i64 k)).run Try.prog W = .ok () W' ∧ W.mapTurned W' (Y.ma (pre.length + 1)) ∧ InvD Y w0 W' rows sd ((pre ++ ⟨rws, (v, k) :: L.ev⟩ :: σ).map evData) O := by
  obtain ⟨W', h1, h2, h3⟩ := (h.alike pre.length (evData L) (map_at evData pre L σ)).2.store (Maps.int_keyed Try.underlying3) Try.underlying112 (by show L.ev.length < maxLen; unfold maxLen; omega) (Maps.keyOf_int_mk Try.underlying3 (wf_of_in hv)) (plainElem_int Try.underlying3 (wf_of_in hk))
  refine ⟨W', h1, h3, ?_⟩
  have := h.alikeSet hp (p := evData ⟨rws, (v, k) :: L.ev⟩) h2 h3
  rw [map_mid] at this
  exact this
theorem seen_store {Y : Lay} {w0 W : World} {pre σ : List Lv} {L : Lv} {O : Nat → Prop} {w : Int} {b : Nat} (h : InvL Y w0 W (pre ++ L :: σ) O) (hw : Y.W[pre.length]? = some w) (hp : pre.length < Y.W.length) (hL : GoodL (pw w) b L) (hb : b ≤ 1000000000) {c : List Int} (hc : c.length = pw w) (hcs : c.length ≤ 1000000000) (ev : List (Int × Int)) :
    ∃ W', (Instr.mapUpdate 111 (.map (some (Y.ms (pre.length + 1)))) (.string (strOfNums (keyB c))) (.int .i64 ((L.rows.length / pw w : Nat) : Int))).run Try.prog W = .ok () W' ∧ W.mapTurned W' (Y.ms (pre.length + 1)) ∧
      InvD Y w0 W' ((pre ++ L :: σ).map Lv.rows) (List.zipWith seenData Y.W (pre ++ ⟨L.rows ++ c, ev⟩ :: σ)) ((pre ++ L :: σ).map evData) O := by
  have hq : L.rows.length / pw w ≤ L.rows.length := Nat.div_le_self _ _
  have hs := hL.short
  obtain ⟨W', h1, h2, h3⟩ := (h.seen pre.length (seenData w L) (zw_at seenData pre L σ hw)).2.store (Maps.string_keyed Try.underlying9) Try.underlying111 (by show L.rows.length / pw w < maxLen; unfold maxLen; omega) (key_of hcs) (plainElem_int Try.underlying3 (wf_of_in (i64in_nat (n := L.rows.length / pw w) (by omega))))
  refine ⟨W', h1, h3, ?_⟩
  have e : seenData w ⟨L.rows ++ c, ev⟩ = ((seenData w L).1 + 1, (seenData w L).2.put (litOf c) (.lit (.int .i64 ((L.rows.length / pw w : Nat) : Int)))) := by
    unfold seenData
    simp only
    rw [← seen_put (pw_pos w) hL.whole hc, List.length_append, hc, Nat.add_div_right _ (pw_pos w)]
  have := h.seenSet hp (p := seenData w ⟨L.rows ++ c, ev⟩) (by rw [e]; exact h2) h3
  rw [zw_mid _ _ _ _ _ _ _ hw] at this
  exact this
theorem rowSet_mid {Y : Lay} {w0 W W2 : World} {pre σ : List Lv} {L : Lv} {sd ad : List (Nat × DataW Unit)} {O : Nat → Prop} (h : InvD Y w0 W ((pre ++ L :: σ).map Lv.rows) sd ad O) {v v' : Value} {c : List Int} {ok : Nat → Prop} {h0 : Value} {hs : List Value} (hg : W.heap[Y.gt]? = some (.cells (h0 :: hs).toArray 26 (0, 0))) (hv : hs[pre.length]? = some v)
    (hgr : W.grownBy W2 v.ownBlock) (hR : Kd.R (Kd.int .i64) 3 W2 w0.heap.size ok v' (L.rows ++ c)) (hat : v'.ownBlock = v.ownBlock ∨ ∃ b, v'.ownBlock = some b ∧ W.heap.size ≤ b) (ev : List (Int × Int)) :
    InvD Y w0 (W2.setCell ⟨Y.gt, pre.length + 1, none⟩ v') ((pre ++ ⟨L.rows ++ c, ev⟩ :: σ).map Lv.rows) sd ad (fun b => O b ∨ W.heap.size ≤ b) := by
  have := h.rowSet hg hv (map_at Lv.rows pre L σ) hgr hR hat
  rw [show L.rows ++ c = Lv.rows ⟨L.rows ++ c, ev⟩ from rfl, map_mid] at this
  exact this
end Go.Proofs.Ytdlijioedokgjaa.Q
/- multistage.Build's closure number by hand: its walk. -/
namespace Go.Proofs.Ytdlijioedokgjaa.Q
open Go.RowKit Go.Proofs.YtdlijioedokgjaaW.PrintWords Go.Proofs.YtdlijioedokgjaaW.PrintLast Go.Proofs.YtdlijioedokgjaaW.PrintMore
set_option linter.unusedVariables false
set_option linter.unusedSimpArgs false

structure Ctx (Y : Lay) (w0 : World) : Prop where
  ok : SpansOk Y.ls
  arg : Kd.C k98 w0 Y.Al Y.ls.length Y.ls
  argc : Y.ls.length ≤ Y.cl
  wrg : Kd.C (Kd.int .i64) w0 Y.Aw Y.W.length Y.W
  wrgc : Y.W.length ≤ Y.cw
  ws : ∀ w ∈ Y.W, 1 ≤ w ∧ w ≤ 12
  n3 : Y.W.length ≤ 3
  hU : ∀ a b, i64in (Y.U a b).1 = true
theorem Ctx.unif {Y : Lay} {w0 : World} (h : Ctx Y w0) {W : World} (hb : Below w0.heap.size w0 W) {base e : Nat} (h1 : base < e) (h2 : e ≤ 1114112) :
    Calls Try.prog 105 #[.slice Y.Al Y.ls.length Y.cl, .int .i64 (base : Int), .int .i64 (e : Int)] W fun x w' => x = .returned (.tuple #[.int .i64 (Y.U base e).1, .bool (Y.U base e).2]) ∧ Below W.heap.size W w' :=
  uniform_calls Y.Al Y.cl Y.ls base e W (Kd.C_below h.arg hb) h.argc h.ok (by omega) (by omega) (by omega)
theorem On.of_lt {O : Nat → Prop} {n : Nat} {Y : Lay} {w0 W W' : World} {Λ : List Lv} (h : InvL Y w0 W' Λ O) (hn : n = W.heap.size) (hc : ∀ b ∈ Y.consts, b < W.heap.size) (hO : ∀ b, O b → b < W.heap.size) (hs : W.heap.size ≤ W'.heap.size) (hw : w0.heap.size ≤ W.heap.size) : InvL Y w0 W' Λ (On O n W') :=
  InvD.mono h (fun b hb => ⟨.inl hb, by have := hO b hb; omega⟩) (fun b hb h' => by
    rcases h'.1 with h1 | h1
    · exact h.co b hb h1
    · have := hc b hb; omega) (fun b hb => by
    rcases hb.1 with h1 | h1
    · exact h.hO b h1
    · omega)
set_option maxHeartbeats 4000000 in
set_option maxRecDepth 100000 in
theorem number_leaf {Y : Lay} {w0 : World} (hx : Ctx Y w0) : NumC Y w0 [] := by
  intro pre ps σ base O W e1 e2 hI hlt hG hb
  cases σ with
  | cons _ _ => exact hG.elim
  | nil =>
  obtain ⟨s, hs⟩ : ∃ s, s = pre.length + 1 := ⟨_, rfl⟩
  obtain ⟨e, he⟩ : ∃ e, e = base + 1 := ⟨_, rfl⟩
  have hcast : (pre.length : Int) + 1 = (s : Int) := by omega
  have hps : pre.length = Y.W.length := by rw [e2, ← e1, List.append_nil]
  simp only [szW] at hb ⊢
  rw [hcast, numP, ← he]
  unfold ptr
  have HUN := Aside0.mk (hx.unif hI.bel (base := base) (e := e) (by omega) (by omega))
  have HI := Aside0.mk hI
  have HF := Aside0.mk (And.intro hlt (And.intro hI.cs.lt hI.bel.size))
  have m1 : wrap64 ((base : Int) + ((1 : Nat) : Int)) = (e : Int) := w_addn base 1 e he (by omega)
  have m2 : wrap64 ((base : Int) + 1) = (e : Int) := m1
  have t1 : decide (Y.W.length < s) = true := decide_eq_true (by omega)
  have t2 : decide ((Y.W.length : Int) < (s : Int)) = true := decide_eq_true (by omega)
  have cl : W.cell? ⟨Y.bl, 0, none⟩ = some (.slice Y.Al Y.ls.length Y.cl) := blk_cell hI.cs.l 0
  clear hs he hcast hps hlt hI e1 e2 hb hG hx
  go_enter Try.func104, Try.ntmps104
  go_wp2_with (go_at_call 105; refine HUN.out.mono ?_; rintro x w1 ⟨rfl, hb1⟩; have hI1 := HI.out.below hb1; have cn : w1.cell? ⟨Y.bn, 0, none⟩ = some (.int .i64 (Y.W.length : Int)) := blk_cell hI1.cs.n 0)
  go_ret
  exact ⟨rfl, On.of_lt hI1 rfl HF.out.2.1 HF.out.1 hb1.size HF.out.2.2, Kp.of_below hb1⟩
theorem cells_map {W : World} {g n : Nat} {t : TypeId} {f : Nat → Nat} (h : W.heap[g]? = some (.cells ((List.range n).map fun i => Value.map (some (f i))).toArray t (0, 0))) {i : Nat} (hi : i < n) : W.cell? ⟨g, i, none⟩ = some (.map (some (f i))) := by
  rw [blk_cell h i]
  simp [hi]
theorem hitP_true {v : Int} {ev : List (Int × Int)} : hitP (v, true) ev = ev.lookup v := rfl
theorem hitP_false {v : Int} {ev : List (Int × Int)} : hitP (v, false) ev = none := rfl
theorem at_mid {ps ws W : List Int} {w : Int} (e1 : ps ++ w :: ws = W) {n : Nat} (e2 : n = ps.length) : W[n]? = some w ∧ n < W.length ∧ rd W (n : Int) = w := by
  subst e1 e2
  refine ⟨by simp, by simp, ?_⟩
  unfold rd
  simp
set_option maxHeartbeats 4000000 in
set_option maxRecDepth 100000 in
theorem number_hit {Y : Lay} {w0 : World} (hx : Ctx Y w0) {w : Int} {ws : List Int} {pre : List Lv} {σ : List Lv} {L : Lv} {base : Nat} {O : Nat → Prop} {W : World} (hp : pre.length < Y.W.length) (hI : InvL Y w0 W (pre ++ L :: σ) O) (hlt : ∀ b, O b → b < W.heap.size) (hb : base + szW (w :: ws) ≤ 1114112) {k : Int} (hu : (Y.U base (base + szW (w :: ws))).2 = true) (hh : L.ev.lookup (Y.U base (base + szW (w :: ws))).1 = some k) :
    Calls Try.prog 104 #[.int .i64 ((pre.length : Int) + 1), .int .i64 (base : Int), .int .i64 (szW (w :: ws) : Int), ptr Y.bl, ptr Y.bn, ptr Y.ba, ptr Y.bw, ptr Y.bb, ptr Y.bs, ptr Y.bt] W fun e W' => e = .returned (.int .i64 k) ∧ InvL Y w0 W' (pre ++ L :: σ) (On O W.heap.size W') ∧ Kp O W W' := by
  obtain ⟨s, hs⟩ : ∃ s, s = pre.length + 1 := ⟨_, rfl⟩
  obtain ⟨n1, hn1⟩ : ∃ n1, n1 = Y.W.length + 1 := ⟨_, rfl⟩
  have hzp := szW_pos (w :: ws)
  generalize szW (w :: ws) = z at hb hu hh hzp ⊢
  obtain ⟨e, he⟩ : ∃ e, e = base + z := ⟨_, rfl⟩
  have hcast : (pre.length : Int) + 1 = (s : Int) := by omega
  rw [hcast]
  rw [← he] at hu hh
  unfold ptr
  have huu := hx.unif hI.bel (base := base) (e := e) (by omega) (by omega)
  have hv := hx.hU base e
  rw [hu] at huu
  generalize (Y.U base e).1 = v at huu hv hh
  have HUN := Aside0.mk huu
  have HI := Aside0.mk hI
  have HF := Aside0.mk (And.intro hlt (And.intro hI.cs.lt hI.bel.size))
  have m1 : wrap64 ((base : Int) + (z : Int)) = (e : Int) := w_addn base z e he (by omega)
  have t1 : decide (Y.W.length < s) = false := decide_eq_false (by omega)
  have cl : W.cell? ⟨Y.bl, 0, none⟩ = some (.slice Y.Al Y.ls.length Y.cl) := blk_cell hI.cs.l 0
  have k1 := eq_true (show s < n1 by omega)
  have k2 : decide ((0 : Int) ≤ (s : Int)) = true := decide_eq_true (Int.natCast_nonneg s)
  have k3 := eq_true (show (s : Int) < (n1 : Int) by omega)
  have HFA := Aside0.mk (show ∀ w1, InvL Y w0 w1 (pre ++ L :: σ) O → w1.cell? ⟨Y.ba, 0, none⟩ = some (.slice (some ⟨Y.ga, 0, none⟩) n1 n1) ∧ w1.cell? ⟨Y.ga, s, none⟩ = some (.map (some (Y.ma s))) ∧ (Instr.lookup 112 (.map (some (Y.ma s))) (.int .i64 v) true).run Try.prog w1 = .ok (.tuple #[.int .i64 k, .bool true]) w1 from fun w1 h1 => by
    refine ⟨by rw [hn1]; exact blk_cell h1.cs.a 0, cells_map h1.cs.ga (by omega), ?_⟩
    rw [hs, alike_run h1 hv, hh]; rfl)
  clear hs hn1 he hcast hlt hI hb hx huu hzp hp hu hh hv
  go_enter Try.func104, Try.ntmps104
  go_wp2_with (go_at_call 105; refine HUN.out.mono ?_; rintro x w1 ⟨rfl, hb1⟩; have hI1 := HI.out.below hb1; have cn : w1.cell? ⟨Y.bn, 0, none⟩ = some (.int .i64 (Y.W.length : Int)) := blk_cell hI1.cs.n 0; obtain ⟨ca, cga, hlk⟩ := HFA.out w1 hI1)
  go_ret
  exact ⟨rfl, On.of_lt hI1 rfl HF.out.2.1 HF.out.1 hb1.size HF.out.2.2, Kp.of_below hb1⟩
theorem w_sub1 (s n : Nat) (h : (n : Int) + 1 = (s : Int)) (hn : n ≤ 1000000) : wrap64 ((s : Int) - 1) = (n : Int) := by rw [← h]; unfold wrap64; omega
theorem quo_facts {z zz m : Nat} (h : z = m * zz) (hm : 0 < m) (hz : z ≤ 1114112) : ((m : Int) == 0) = false ∧ Int.tdiv (z : Int) (m : Int) = (zz : Int) ∧ IntKind.i64.wrap (zz : Int) = (zz : Int) ∧ wrap64 (zz : Int) = (zz : Int) := by
  have h1 : zz ≤ m * zz := Nat.le_mul_of_pos_left zz hm
  refine ⟨by simp; omega, ?_, wrap_small _ (by omega) (by omega), by unfold wrap64; omega⟩
  rw [h, Int.natCast_mul]
  exact Int.mul_tdiv_cancel_left _ (by omega)
theorem shl_raw {w : Int} (h0 : 1 ≤ w) (h1 : w ≤ 12) : wrap64 (2 ^ min w.toNat 64) = (pw w : Int) := by
  have h := shl_w h0 h1
  simpa [shl, IntKind.bits, i64_w] using h
theorem OutIs.C {W : World} {out many : Nat} {l : List Int} (h : OutIs W out many l) (hl : l.length = many) (hm : many ≤ 9223372036854775807) : Kd.C (Kd.int .i64) W (some ⟨out, 0, none⟩) many l := by
  obtain ⟨cs, h1, h2, h3⟩ := h
  refine Kd.C_of_reads (enc := Value.int .i64) (d := (0 : Int)) ⟨hl, hm, fun _ => ⟨_, rfl, fun j hj => ?_⟩⟩
  have : (⟨out, 0, none⟩ : Addr).add j = ⟨out, j, none⟩ := by simp [Addr.add]; intro h; exact h.symm
  rw [this, blk_cell h1 j, h3 j (by omega)]
theorem zw_same {α β γ : Type} (g : α → β → γ) {a b : β} (h : ∀ y, g y a = g y b) (σ : List β) : ∀ (ys : List α) (pre : List β), List.zipWith g ys (pre ++ a :: σ) = List.zipWith g ys (pre ++ b :: σ)
  | [], pre => by simp
  | y :: ys, [] => by simp [h y]
  | y :: ys, x :: pre => by simp [zw_same g h σ ys pre]
theorem InvL.of {Y : Lay} {w0 W : World} {pre σ : List Lv} {L1 L2 L3 L' : Lv} {P : Nat → Prop} (h : InvD Y w0 W ((pre ++ L1 :: σ).map Lv.rows) (List.zipWith seenData Y.W (pre ++ L2 :: σ)) ((pre ++ L3 :: σ).map evData) P) (h1 : L1.rows = L'.rows) (h2 : L2.rows = L'.rows) (h3 : L3.ev = L'.ev) : InvL Y w0 W (pre ++ L' :: σ) P := by
  unfold InvL
  have e1 : (pre ++ L' :: σ).map Lv.rows = (pre ++ L1 :: σ).map Lv.rows := by simp [h1]
  have e2 : (pre ++ L' :: σ).map evData = (pre ++ L3 :: σ).map evData := by simp [evData, h3]
  rw [e1, e2, zw_same seenData (a := L') (b := L2) (fun y => by unfold seenData; rw [h2]) σ Y.W pre]
  exact h
theorem InvD.below {Y : Lay} {w0 W W' : World} {rows : List (List Int)} {sd ad : List (Nat × DataW Unit)} {O : Nat → Prop} (h : InvD Y w0 W rows sd ad O) (hb : Below W.heap.size W W') : InvD Y w0 W' rows sd ad O := InvD.kp h (Kp.of_below (S := fun _ => False) hb) (fun _ h => h.elim)
theorem OutIs.below {W W' : World} {out many : Nat} {l : List Int} (h : OutIs W out many l) (hb : Below W.heap.size W W') : OutIs W' out many l := by
  obtain ⟨cs, h1, h2, h3⟩ := h
  exact ⟨cs, (Kp.of_below (S := fun _ => False) hb).heap h1 (fun h => h.elim), h2, h3⟩
theorem OutIs.turned {W W' : World} {out many b : Nat} {l : List Int} (h : OutIs W out many l) (ht : W.mapTurned W' b) : OutIs W' out many l := by
  obtain ⟨cs, h1, h2, h3⟩ := h
  refine ⟨cs, (Kp.of_turned ht).heap h1 (fun e => ?_), h2, h3⟩
  obtain ⟨es, clock, _, _, hm, _⟩ := ht
  rw [e, hm] at h1
  injection h1 with h1
  cases h1
/-- The head of the row at work. -/
theorem head_at {Y : Lay} {w0 W : World} {pre σ : List Lv} {L : Lv} {sd ad : List (Nat × DataW Unit)} {O : Nat → Prop} (h : InvD Y w0 W ((pre ++ L :: σ).map Lv.rows) sd ad O) (hp : pre.length < Y.W.length) :
    ∃ (A : Option Addr) (c : Nat) (h0 : Value) (hs : List Value), W.heap[Y.gt]? = some (.cells (h0 :: hs).toArray 26 (0, 0)) ∧ hs[pre.length]? = some (.slice A L.rows.length c) ∧ Row W w0.heap.size (.slice A L.rows.length c) L.rows ∧ W.cell? ⟨Y.gt, pre.length + 1, none⟩ = some (.slice A L.rows.length c) ∧
      W.cell? ⟨Y.bt, 1, none⟩ = some (.slice (some ⟨Y.gt, 0, none⟩) (Y.W.length + 1) (Y.W.length + 1)) ∧ (∀ k, (Value.slice A L.rows.length c).ownBlock = some k → O k) := by
  obtain ⟨h0, hs, g1, g2, g3, g4⟩ := h.heads
  have hlt : pre.length < hs.length := by omega
  have hz : (hs.zip ((pre ++ L :: σ).map Lv.rows))[pre.length]? = some (hs[pre.length], L.rows) := by
    rw [List.getElem?_zip_eq_some]
    exact ⟨List.getElem?_eq_getElem hlt, map_at Lv.rows pre L σ⟩
  have hr := g3.row pre.length _ _ hz
  obtain ⟨A, c, e⟩ := hr.slice
  rw [e] at hr
  have hat : hs[pre.length]? = some (.slice A L.rows.length c) := by rw [List.getElem?_eq_getElem hlt, e]
  exact ⟨A, c, h0, hs, g2, hat, hr, by rw [blk_cell g2 (pre.length + 1)]; simpa using hat, blk_cell h.cs.t 1, g4 _ (List.mem_of_getElem? hat)⟩
/-- Behind the append: the head can be written. -/
theorem head_put {Y : Lay} {W W2 : World} {B i : Nat} {v : Value} {xs : List Int} {cs : Array Value} (hr : Row W B v xs) (hg : W.heap[Y.gt]? = some (.cells cs 26 (0, 0))) (hc : cs[i]? = some v) (hgr : W.grownBy W2 v.ownBlock) : W2.cell? ⟨Y.gt, i, none⟩ = some v ∧ W2.frozen? ⟨Y.gt, i, none⟩ = false := by
  have h2 := (Kp.of_grownBy hgr).heap hg (fun e => hr.ne hg (by decide) e)
  exact ⟨by rw [blk_cell h2 i]; exact hc, blk_frozen h2 i⟩
theorem Below.kp {W W' : World} (h : Below W.heap.size W W') : Kp (fun _ => False) W W' := Kp.of_below h
/-- What is left to say at the end. -/
theorem num_fin {Y : Lay} {w0 W w2 w3 w5 : World} {O P : Nat → Prop} {Λ : List Lv} (hs2 : Below W.heap.size W w2) (hF : (∀ b, O b → b < W.heap.size) ∧ (∀ b ∈ Y.consts, b < W.heap.size) ∧ w0.heap.size ≤ W.heap.size) (hO : ∀ b, O b → w0.heap.size ≤ b) (hco : ∀ b ∈ Y.consts, ¬ O b) (hk3 : Kp O w2 w3) (S : Nat → Prop) (hk5 : Kp S w3 w5) (hS : ∀ b, S b → O b ∨ w2.heap.size ≤ b) (hI : InvL Y w0 w5 Λ P) (hP : ∀ b, P b → (O b ∨ w2.heap.size ≤ b) ∧ b < w5.heap.size) :
    InvL Y w0 w5 Λ (On O W.heap.size w5) ∧ Kp O W w5 := by
  have h2 := hs2.size
  refine ⟨InvD.mono hI (fun b hb => ⟨(hP b hb).1.imp (fun h => h) (fun h => by omega), (hP b hb).2⟩) (fun b hb h => ?_) (fun b hb => ?_), ?_⟩
  · rcases h.1 with h | h
    · exact hco b hb h
    · have := hF.2.1 b hb; omega
  · rcases hb.1 with h | h
    · exact hO b h
    · have := hF.2.2; omega
  · exact ((Kp.of_below (S := O) hs2).then_ hk3 (fun i hi => .inl hi)).then_ hk5 (fun i hi => (hS i hi).imp (fun h => h) (fun h => by omega))
end Go.Proofs.Ytdlijioedokgjaa.Q

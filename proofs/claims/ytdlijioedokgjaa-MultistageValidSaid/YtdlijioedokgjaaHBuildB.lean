/- Several texts in one file (mergeq.py): HClone, HBuildA, HBuildB. -/
import Derived.Test.YtdlijioedokgjaaHRows
import Derived.WalkKit
import Derived.Lib.SliceRun
import Derived.Test.YtdlijioedokgjaaHNumC
import Derived.Test.YtdlijioedokgjaaQF72
import Derived.Laws.EntriesVeiled
/- slices.Clone of numbers by hand. -/
namespace Go.Proofs.Ytdlijioedokgjaa.Q
open Go.RowKit Go.Proofs.YtdlijioedokgjaaW.PrintWords Go.Proofs.YtdlijioedokgjaaW.PrintLast Go.Proofs.YtdlijioedokgjaaW.PrintMore
set_option linter.unusedVariables false
set_option linter.unusedSimpArgs false

set_option maxHeartbeats 4000000 in
set_option maxRecDepth 100000 in
theorem clone_calls (A : Option Addr) (n c : Nat) (xs : List Int) (w : World) (hr : Kd.C (Kd.int .i64) w A n xs) (hn : n ≤ 1000000000) :
    Calls Try.prog 102 #[.slice A n c] w fun e w' => ∃ A' c', e = .returned (.slice A' xs.length c') ∧ Row w' w.heap.size (.slice A' xs.length c') xs ∧ Below w.heap.size w w' := by
  have hl : xs.length = n := hr.1
  have HR := Aside0.mk hr
  have HN := Aside0.mk (And.intro hl hn)
  have heq := fun (W : World) (a : Option Addr) (m k : Nat) => Go.Lib.run_eql_slice_nil (P := Try.prog) W 26 3 a m k 0 0 Try.underlying26
  cases A with
  | none =>
    have hn0 : n = 0 := by
      rcases Nat.eq_zero_or_pos n with h | h
      · exact h
      · obtain ⟨ad, e, _⟩ := hr.2.2 h; cases e
    have hx : xs = [] := List.eq_nil_of_length_eq_zero (by omega)
    clear hr hl
    subst hx hn0
    go_enter Try.func102, Try.ntmps102
    go_wp2
    go_ret
    exact ⟨none, 0, rfl, Row.nil _ _, Below.refl _ _⟩
  | some ad =>
    clear hr hl
    go_enter Try.func102, Try.ntmps102
    go_wp2_with (first | ((with_reducible refine gate_dst (N := 5) rfl ?_); refine Kd.R_lit (Kd.int .i64) _ 3 ?hg (N := 5) ?hd (xs := ([] : List Int)) (inner := []) (ok := fun _ => True) (okp := fun _ => True) ?hr ?hp (fun _ hk => hk) trivial (Below.refl _ _) (Nat.le_refl _) (by simp) ?_; (case hd => rfl); (case hg => rfl); (case hr => first | (go_simp; done) | (go_simp; rfl)); (case hp => exact Reps.none _ _); intro v4 w4 ho hb hg hat; obtain ⟨A4, c4, rfl⟩ := Kd.R_slice ho; have HL := Aside0.mk ho; have HB4 := Aside0.mk hb; have HC4 := Aside0.mk (Kd.C_below HR.out hb); clear ho hb hg hat) | ((with_reducible refine gate_builtin (b := .append) (xs := #[.tmp 5, .tmp 6]) rfl ?_); refine Kd.R_append_row (w0 := w) (Value.int .i64) (0 : Int) (h1 := fun _ => rfl) w.heap.size ?ag (.tmp 5) (.tmp 6) 26 3 (.int .i64 0) 8 ?ao Try.underlying26 info3 ?az (by decide) (.slice A4 ([] : List Int).length c4) ([] : List Int) xs (some ad) n c (fun _ => True) ?av ?ax (fun _ _ => trivial) HL.out HC4.out HB4.out HB4.out.size ?aL ?_; (case ag => rfl); (case ao => rfl); (case az => rfl); (case av => rfl); (case ax => rfl); (case aL => have h1 := HN.out.2; simp; omega); intro v5 w5 ho hb hg hat; obtain ⟨A5, c5, rfl⟩ := Kd.R_slice ho; have HR5 := Aside0.mk ho; have HB5 := Aside0.mk hb; clear ho hb hg hat))
    go_ret
    exact ⟨A5, c5, rfl, Row.of HR5.out, HB5.out⟩
end Go.Proofs.Ytdlijioedokgjaa.Q
/- multistage.Build by hand: what holds of the heap on the way. -/
namespace Go.Proofs.Ytdlijioedokgjaa.Q
open Go.RowKit Go.Proofs.YtdlijioedokgjaaW.PrintWords Go.Proofs.YtdlijioedokgjaaW.PrintLast Go.Proofs.YtdlijioedokgjaaW.PrintMore
set_option linter.unusedVariables false
set_option linter.unusedSimpArgs false

def BuildPost (l : List S98) (W : List Int) (w : World) (x : Ending) (w' : World) : Prop :=
  ∃ v0 v1 : Value, x = .returned (.tuple #[.agg #[v0, v1], .int .i64 0]) ∧ Kd.R (Kd.int .i64) 3 w' w.heap.size (fun _ => True) v0 W ∧ Kd.S (Kd.slice 3 (Kd.int .i64)) 26 w' w.heap.size (fun k_ => some k_ ≠ v0.ownBlock) v1 (stagesB (fun a b => unifP l a b) W) ∧ Below w.heap.size w w'
theorem Row.lower {W : World} {B B' : Nat} {v : Value} {xs : List Int} (h : Row W B v xs) (hB : B' ≤ B) : Row W B' v xs := Kd.R_lower h hB
theorem info111 : (Try.prog.info? 111).map (fun i => (i.zero, i.size, i.bytes)) = some (some (.map none), 1, 8) := by kernel_rfl
theorem info112 : (Try.prog.info? 112).map (fun i => (i.zero, i.size, i.bytes)) = some (some (.map none), 1, 8) := by kernel_rfl
theorem madeCells_one (v : Value) (n : Nat) : madeCells #[v] n = Array.replicate n v := by
  unfold madeCells
  apply Array.ext
  · simp
  · intro i h1 h2
    simp [Nat.mod_one]
theorem make35 (n1 : Nat) (h : n1 ≤ 1000) (W : World) : (Instr.makeSlice 35 (.int .i64 (n1 : Int)) (.int .i64 (n1 : Int))).run Try.prog W = .ok (.slice (some ⟨W.heap.size, 0, none⟩) n1 n1) (W.alloc (.cells (Array.replicate n1 (.slice none 0 0)) 26)) := by
  obtain ⟨i3, hi3, hz3, hsz3, hb3⟩ := info_parts info26
  have := run_make (P := Try.prog) W 35 26 i3 (.slice none 0 0) Try.underlying35 hi3 hz3 .i64 .i64 (n1 : Int) (n1 : Int) (by omega) (by omega) (by rw [hb3]; omega) (by omega)
  rw [this, hsz3, Nat.mul_one, Int.toNat_natCast]
  show Result.ok _ (W.alloc (.cells (madeCells #[.slice none 0 0] n1) 26)) = _
  rw [madeCells_one]
theorem make109 (n1 : Nat) (h : n1 ≤ 1000) (W : World) : (Instr.makeSlice 109 (.int .i64 (n1 : Int)) (.int .i64 (n1 : Int))).run Try.prog W = .ok (.slice (some ⟨W.heap.size, 0, none⟩) n1 n1) (W.alloc (.cells (Array.replicate n1 (.map none)) 111)) := by
  obtain ⟨i3, hi3, hz3, hsz3, hb3⟩ := info_parts info111
  have := run_make (P := Try.prog) W 109 111 i3 (.map none) Try.underlying109 hi3 hz3 .i64 .i64 (n1 : Int) (n1 : Int) (by omega) (by omega) (by rw [hb3]; omega) (by omega)
  rw [this, hsz3, Nat.mul_one, Int.toNat_natCast]
  show Result.ok _ (W.alloc (.cells (madeCells #[.map none] n1) 111)) = _
  rw [madeCells_one]
theorem make110 (n1 : Nat) (h : n1 ≤ 1000) (W : World) : (Instr.makeSlice 110 (.int .i64 (n1 : Int)) (.int .i64 (n1 : Int))).run Try.prog W = .ok (.slice (some ⟨W.heap.size, 0, none⟩) n1 n1) (W.alloc (.cells (Array.replicate n1 (.map none)) 112)) := by
  obtain ⟨i3, hi3, hz3, hsz3, hb3⟩ := info_parts info112
  have := run_make (P := Try.prog) W 110 112 i3 (.map none) Try.underlying110 hi3 hz3 .i64 .i64 (n1 : Int) (n1 : Int) (by omega) (by omega) (by rw [hb3]; omega) (by omega)
  rw [this, hsz3, Nat.mul_one, Int.toNat_natCast]
  show Result.ok _ (W.alloc (.cells (madeCells #[.map none] n1) 112)) = _
  rw [madeCells_one]
theorem size_alloc' (W : World) (o : Obj) : (W.alloc o).heap.size = W.heap.size + 1 := by
  unfold World.alloc
  exact Array.size_push _
/-- Behind the check of the arguments. -/
structure Ph1 (A0 : Option Addr) (c0 : Nat) (l : List S98) (A1 : Option Addr) (c1 : Nat) (W : List Int) (w w2 : World) : Prop where
  bel : Below w.heap.size w w2
  big : w.heap.size + 3 ≤ w2.heap.size
  f1 : w2.heap[w.heap.size]? = some (.cells #[.slice A0 l.length c0] 49 (0, 0))
  f2 : w2.heap[w.heap.size + 1]? = some (.cells #[.slice A1 W.length c1] 26 (0, 0))
  f3 : w2.heap[w.heap.size + 1 + 1]? = some (.cells #[.slice none 0 0, .slice none 0 0] 46 (0, 0))
theorem ph0 {A0 : Option Addr} {c0 : Nat} {l : List S98} {A1 : Option Addr} {c1 : Nat} {W : List Int} {w w2 : World}
    (hb : Below (((w.alloc (.cells #[.slice A0 l.length c0] 49)).alloc (.cells #[.slice A1 W.length c1] 26)).alloc (.cells #[.slice none 0 0, .slice none 0 0] 46)).heap.size (((w.alloc (.cells #[.slice A0 l.length c0] 49)).alloc (.cells #[.slice A1 W.length c1] 26)).alloc (.cells #[.slice none 0 0, .slice none 0 0] 46)) w2) :
    Ph1 A0 c0 l A1 c1 W w w2 ∧ w.heap.size + 3 ≤ w2.heap.size := by
  have h1 := blk_new w (.cells #[.slice A0 l.length c0] 49 (0, 0))
  have h2 := blk_new (w.alloc (.cells #[.slice A0 l.length c0] 49)) (.cells #[.slice A1 W.length c1] 26 (0, 0))
  have h3 := blk_new ((w.alloc (.cells #[.slice A0 l.length c0] 49)).alloc (.cells #[.slice A1 W.length c1] 26)) (.cells #[.slice none 0 0, .slice none 0 0] 46 (0, 0))
  have hs1 : (w.alloc (.cells #[.slice A0 l.length c0] 49)).heap.size = w.heap.size + 1 := size_alloc' _ _
  have hs2 : ((w.alloc (.cells #[.slice A0 l.length c0] 49)).alloc (.cells #[.slice A1 W.length c1] 26)).heap.size = w.heap.size + 1 + 1 := by rw [size_alloc', hs1]
  have hs3 : (((w.alloc (.cells #[.slice A0 l.length c0] 49)).alloc (.cells #[.slice A1 W.length c1] 26)).alloc (.cells #[.slice none 0 0, .slice none 0 0] 46)).heap.size = w.heap.size + 1 + 1 + 1 := by rw [size_alloc', hs2]
  rw [hs1] at h2
  rw [hs2] at h3
  have kb := Kp.of_below (S := fun _ => False) hb
  have hsz := hb.size
  rw [hs3] at hsz
  have bel : Below w.heap.size w w2 := (below_alloc (below_alloc (below_alloc (Below.refl _ _) _) _) _).trans (hb.mono (by rw [hs3]; omega))
  have a1 := alloc_old (alloc_old h1 (.cells #[.slice A1 W.length c1] 26)) (.cells #[.slice none 0 0, .slice none 0 0] 46)
  have a2 := alloc_old h2 (.cells #[.slice none 0 0, .slice none 0 0] 46)
  exact ⟨⟨bel, by omega, kb.heap a1 (fun h => h), kb.heap a2 (fun h => h), kb.heap h3 (fun h => h)⟩, by omega⟩
structure Ph1n (A0 : Option Addr) (c0 : Nat) (l : List S98) (A1 : Option Addr) (c1 : Nat) (W : List Int) (w w2 : World) (gn : Nat) : Prop where
  bel : Below w.heap.size w w2
  big : w.heap.size + 3 ≤ w2.heap.size
  f1 : w2.heap[w.heap.size]? = some (.cells #[.slice A0 l.length c0] 49 (0, 0))
  f2 : w2.heap[w.heap.size + 1]? = some (.cells #[.slice A1 W.length c1] 26 (0, 0))
  f3 : w2.heap[w.heap.size + 1 + 1]? = some (.cells #[.slice none 0 0, .slice none 0 0] 46 (0, 0))
  f4 : w2.heap[gn]? = some (.cells #[.int .i64 (W.length : Int)] 3 (0, 0))
  ge : w.heap.size + 3 ≤ gn
theorem Ph1n.below {A0 : Option Addr} {c0 : Nat} {l : List S98} {A1 : Option Addr} {c1 : Nat} {W : List Int} {w w2 w3 : World} {gn : Nat} (h : Ph1n A0 c0 l A1 c1 W w w2 gn) (hb : Below w2.heap.size w2 w3) : Ph1n A0 c0 l A1 c1 W w w3 gn := by
  have k := Kp.of_below (S := fun _ => False) hb
  exact ⟨h.bel.trans (hb.mono h.bel.size), Nat.le_trans h.big hb.size, k.heap h.f1 (fun h => h), k.heap h.f2 (fun h => h), k.heap h.f3 (fun h => h), k.heap h.f4 (fun h => h), h.ge⟩
theorem ph1 {A0 : Option Addr} {c0 : Nat} {l : List S98} {A1 : Option Addr} {c1 : Nat} {W : List Int} {w w2 : World} (h : Ph1 A0 c0 l A1 c1 W w w2) (hs : w.heap.size + 3 ≤ w2.heap.size) :
    Ph1n A0 c0 l A1 c1 W w (w2.alloc (.cells #[.int .i64 (W.length : Int)] 3)) w2.heap.size := by
  have hn := blk_new w2 (.cells #[.int .i64 (W.length : Int)] 3 (0, 0))
  have k : Kp (fun _ => False) w2 (w2.alloc (.cells #[.int .i64 (W.length : Int)] 3)) := (Kp.refl _ w2).alloc _
  exact ⟨h.bel.trans (k.to_below h.bel.size (fun i hi => hi.elim)), Nat.le_trans hs k.size, k.heap h.f1 (fun h => h), k.heap h.f2 (fun h => h), k.heap h.f3 (fun h => h), hn, hs⟩
/-- Behind the making of the table. -/
structure Ph2 (A0 : Option Addr) (c0 : Nat) (l : List S98) (A1 : Option Addr) (c1 : Nat) (W : List Int) (w w8 : World) (gn : Nat) (At : Option Addr) (ct gt bt n1 : Nat) : Prop where
  p : Ph1n A0 c0 l A1 c1 W w w8 gn
  row : Row w8 w.heap.size (.slice At W.length ct) W
  g : w8.heap[gt]? = some (.cells (Array.replicate n1 (.slice none 0 0)) 26 (0, 0))
  t : w8.heap[bt]? = some (.cells #[.slice At W.length ct, .slice (some ⟨gt, 0, none⟩) n1 n1] 46 (0, 0))
  gg : w.heap.size + 3 ≤ gt
  gb : w.heap.size + 3 ≤ bt
theorem ph2 {A0 : Option Addr} {c0 : Nat} {l : List S98} {A1 : Option Addr} {c1 : Nat} {W : List Int} {w w8 : World} {gn : Nat} {At : Option Addr} {ct gt bt n1 : Nat} (h : Ph1n A0 c0 l A1 c1 W w w8 gn) (hr : Row w8 w.heap.size (.slice At W.length ct) W) (hg : w8.heap[gt]? = some (.cells (Array.replicate n1 (.slice none 0 0)) 26 (0, 0)) ∧ w.heap.size + 3 ≤ gt) (ht : w8.heap[bt]? = some (.cells #[.slice none 0 0, .slice none 0 0] 46 (0, 0)) ∧ w.heap.size + 3 ≤ bt) :
    Ph2 A0 c0 l A1 c1 W w ((w8.setCell ⟨bt, 0, none⟩ (.slice At W.length ct)).setCell ⟨bt, 1, none⟩ (.slice (some ⟨gt, 0, none⟩) n1 n1)) gn At ct gt bt n1 := by
  have k : Kp (fun b => b = bt) w8 ((w8.setCell ⟨bt, 0, none⟩ (.slice At W.length ct)).setCell ⟨bt, 1, none⟩ (.slice (some ⟨gt, 0, none⟩) n1 n1)) := Kp.set (S := fun b => b = bt) (p := ⟨bt, 1, none⟩) (Kp.set (S := fun b => b = bt) (p := ⟨bt, 0, none⟩) (Kp.refl _ w8) (.inl rfl) _) (.inl rfl) _
  have hne : ∀ {g : Nat} {cs : Array Value} {t : TypeId}, w8.heap[g]? = some (.cells cs t (0, 0)) → t ≠ 46 → g ≠ bt := fun hg2 ht2 e => by
    rw [e, ht.1] at hg2
    injection hg2 with hg2
    injection hg2 with _ hg2 _
    exact ht2 hg2.symm
  refine ⟨⟨h.bel.trans (k.to_below h.bel.size (fun i hi => by omega)), Nat.le_trans h.big k.size, k.heap h.f1 (hne h.f1 (by decide)), k.heap h.f2 (hne h.f2 (by decide)), k.heap h.f3 (by omega), k.heap h.f4 (hne h.f4 (by decide)), h.ge⟩, ?_, k.heap hg.1 (hne hg.1 (by decide)), blk_put (blk_put ht.1 0 _ rfl) 1 _ rfl, hg.2, ht.2⟩
  exact Row.of (R_kp (hr.ok (ok := fun k => (Value.slice At W.length ct).ownBlock = some k) (fun _ h => h)) k (fun i hi => .inr (fun e => hr.ne ht.1 (by decide) (by rw [e, hi]))))
theorem Ph2.below {A0 : Option Addr} {c0 : Nat} {l : List S98} {A1 : Option Addr} {c1 : Nat} {W : List Int} {w w8 w9 : World} {gn : Nat} {At : Option Addr} {ct gt bt n1 : Nat} (h : Ph2 A0 c0 l A1 c1 W w w8 gn At ct gt bt n1) (hb : Below w8.heap.size w8 w9) : Ph2 A0 c0 l A1 c1 W w w9 gn At ct gt bt n1 := by
  have k := Kp.of_below (S := fun _ => False) hb
  exact ⟨h.p.below hb, h.row.below hb, k.heap h.g (fun h => h), k.heap h.t (fun h => h), h.gg, h.gb⟩
def upTo (n i : Nat) (f : Nat → Nat) : Array Value := ((List.range n).map fun j => if j < i then Value.map (some (f j)) else .map none).toArray
theorem alloc_map_new (W : World) : (W.alloc (.map #[] 0)).heap[W.heap.size]? = some (.map #[] 0) := by
  unfold World.alloc
  simp
theorem upTo_zero (n : Nat) (f : Nat → Nat) : upTo n 0 f = Array.replicate n (.map none) := by
  unfold upTo
  apply Array.ext
  · simp
  · intro i h1 h2
    simp
theorem upTo_get {n i : Nat} (h : i < n) (f : Nat → Nat) : (upTo n i f)[i]? = some (.map none) := by
  unfold upTo
  simp [h]
theorem upTo_set {n i : Nat} (f : Nat → Nat) : (upTo n i f).setIfInBounds i (.map (some (f i))) = upTo n (i + 1) f := by
  unfold upTo
  apply Array.ext
  · simp
  · intro j h1 h2
    simp only [List.size_toArray, List.length_map, List.length_range] at h2
    rw [Array.getElem_setIfInBounds (by simpa using h2)]
    by_cases e : i = j
    · subst e; simp
    · rw [if_neg e]
      simp only [List.getElem_toArray, List.getElem_map, List.getElem_range]
      by_cases h3 : j < i
      · rw [if_pos h3, if_pos (by omega)]
      · rw [if_neg h3, if_neg (by omega)]
theorem upTo_all {n i : Nat} (h : n ≤ i) (f : Nat → Nat) : upTo n i f = ((List.range n).map fun j => Value.map (some (f j))).toArray := by
  unfold upTo
  congr 1
  apply List.map_congr_left
  intro j hj
  rw [if_pos (by have := List.mem_range.1 hj; omega)]
/-- While the maps are made. -/
structure Ph3 (A0 : Option Addr) (c0 : Nat) (l : List S98) (A1 : Option Addr) (c1 : Nat) (W : List Int) (w : World) (b0 : Nat) (wr : World) (gn : Nat) (At : Option Addr) (ct gt bt n1 i : Nat) : Prop where
  p : Ph2 A0 c0 l A1 c1 W w wr gn At ct gt bt n1
  s : wr.heap[b0 + 1]? = some (.cells #[.slice (some ⟨b0, 0, none⟩) n1 n1] 109 (0, 0))
  a : wr.heap[b0 + 1 + 1 + 1]? = some (.cells #[.slice (some ⟨b0 + 1 + 1, 0, none⟩) n1 n1] 110 (0, 0))
  gs : wr.heap[b0]? = some (.cells (upTo n1 i fun j => b0 + 4 + 2 * j) 111 (0, 0))
  ga : wr.heap[b0 + 1 + 1]? = some (.cells (upTo n1 i fun j => b0 + 4 + 2 * j + 1) 112 (0, 0))
  ms : ∀ j < i, wr.heap[b0 + 4 + 2 * j]? = some (.map #[] 0)
  ma : ∀ j < i, wr.heap[b0 + 4 + 2 * j + 1]? = some (.map #[] 0)
  sz : wr.heap.size = b0 + 4 + 2 * i
  lo : gt < b0 ∧ bt < b0 ∧ gn < b0 ∧ w.heap.size + 3 ≤ b0
theorem ph3_start {A0 : Option Addr} {c0 : Nat} {l : List S98} {A1 : Option Addr} {c1 : Nat} {W : List Int} {w w8 : World} {gn : Nat} {At : Option Addr} {ct gt bt n1 : Nat} (h : Ph2 A0 c0 l A1 c1 W w w8 gn At ct gt bt n1) :
    Ph3 A0 c0 l A1 c1 W w w8.heap.size ((((w8.alloc (.cells (Array.replicate n1 (.map none)) 111)).alloc (.cells #[.slice (some ⟨w8.heap.size, 0, none⟩) n1 n1] 109)).alloc (.cells (Array.replicate n1 (.map none)) 112)).alloc (.cells #[.slice (some ⟨w8.heap.size + 1 + 1, 0, none⟩) n1 n1] 110)) gn At ct gt bt n1 0 := by
  have h1 := blk_new w8 (.cells (Array.replicate n1 (.map none)) 111 (0, 0))
  obtain ⟨W1, hW1⟩ : ∃ W1, W1 = w8.alloc (.cells (Array.replicate n1 (.map none)) 111 (0, 0)) := ⟨_, rfl⟩
  have s1 : W1.heap.size = w8.heap.size + 1 := by rw [hW1]; exact size_alloc' _ _
  rw [← hW1] at h1 ⊢
  have h2 := blk_new W1 (.cells #[.slice (some ⟨w8.heap.size, 0, none⟩) n1 n1] 109 (0, 0))
  rw [s1] at h2
  have h12 := alloc_old h1 (.cells #[.slice (some ⟨w8.heap.size, 0, none⟩) n1 n1] 109 (0, 0))
  obtain ⟨W2, hW2⟩ : ∃ W2, W2 = W1.alloc (.cells #[.slice (some ⟨w8.heap.size, 0, none⟩) n1 n1] 109 (0, 0)) := ⟨_, rfl⟩
  have s2 : W2.heap.size = w8.heap.size + 1 + 1 := by rw [hW2, size_alloc', s1]
  rw [← hW2] at h2 h12 ⊢
  have h3 := blk_new W2 (.cells (Array.replicate n1 (.map none)) 112 (0, 0))
  rw [s2] at h3
  have h13 := alloc_old h12 (.cells (Array.replicate n1 (.map none)) 112 (0, 0))
  have h23 := alloc_old h2 (.cells (Array.replicate n1 (.map none)) 112 (0, 0))
  obtain ⟨W3, hW3⟩ : ∃ W3, W3 = W2.alloc (.cells (Array.replicate n1 (.map none)) 112 (0, 0)) := ⟨_, rfl⟩
  have s3 : W3.heap.size = w8.heap.size + 1 + 1 + 1 := by rw [hW3, size_alloc', s2]
  rw [← hW3] at h3 h13 h23 ⊢
  have h4 := blk_new W3 (.cells #[.slice (some ⟨w8.heap.size + 1 + 1, 0, none⟩) n1 n1] 110 (0, 0))
  rw [s3] at h4
  have hbel : Below w8.heap.size w8 (W3.alloc (.cells #[.slice (some ⟨w8.heap.size + 1 + 1, 0, none⟩) n1 n1] 110 (0, 0))) := by
    rw [hW3, hW2, hW1]
    exact below_alloc (below_alloc (below_alloc (below_alloc (Below.refl _ _) _) _) _) _
  refine ⟨h.below hbel, alloc_old h23 _, h4, by rw [upTo_zero]; exact alloc_old h13 _, by rw [upTo_zero]; exact alloc_old h3 _, fun j hj => by omega, fun j hj => by omega, by rw [size_alloc', s3], ?_⟩
  exact ⟨blk_lt h.g, blk_lt h.t, blk_lt h.p.f4, h.p.big⟩
theorem Ph3.mid {A0 : Option Addr} {c0 : Nat} {l : List S98} {A1 : Option Addr} {c1 : Nat} {W : List Int} {w wr : World} {b0 gn : Nat} {At : Option Addr} {ct gt bt n1 i : Nat} (h : Ph3 A0 c0 l A1 c1 W w b0 wr gn At ct gt bt n1 i) (hi : i < n1) :
    wr.cell? ⟨b0 + 1, 0, none⟩ = some (.slice (some ⟨b0, 0, none⟩) n1 n1) ∧ (∀ o, (wr.alloc o).cell? ⟨b0, i, none⟩ = some (.map none)) ∧ (∀ o, (wr.alloc o).frozen? ⟨b0, i, none⟩ = false) ∧
      ((wr.alloc (.map #[] 0)).setCell ⟨b0, i, none⟩ (.map (some wr.heap.size))).cell? ⟨b0 + 1 + 1 + 1, 0, none⟩ = some (.slice (some ⟨b0 + 1 + 1, 0, none⟩) n1 n1) ∧ (∀ o, (((wr.alloc (.map #[] 0)).setCell ⟨b0, i, none⟩ (.map (some wr.heap.size))).alloc o).cell? ⟨b0 + 1 + 1, i, none⟩ = some (.map none)) ∧ (∀ o, (((wr.alloc (.map #[] 0)).setCell ⟨b0, i, none⟩ (.map (some wr.heap.size))).alloc o).frozen? ⟨b0 + 1 + 1, i, none⟩ = false) := by
  have k : Kp (fun b => b = b0) wr ((wr.alloc (.map #[] 0)).setCell ⟨b0, i, none⟩ (.map (some wr.heap.size))) := Kp.set (S := fun b => b = b0) (p := ⟨b0, i, none⟩) ((Kp.refl _ wr).alloc _) (.inl rfl) _
  have a2 := k.heap h.a (by omega)
  have g2 := k.heap h.ga (by omega)
  refine ⟨blk_cell h.s 0, fun o => ?_, fun o => blk_frozen (alloc_old h.gs o) i, blk_cell a2 0, fun o => ?_, fun o => blk_frozen (alloc_old g2 o) i⟩
  · rw [blk_cell (alloc_old h.gs o) i]; exact upTo_get hi _
  · rw [blk_cell (alloc_old g2 o) i]; exact upTo_get hi _
theorem Ph3.step {A0 : Option Addr} {c0 : Nat} {l : List S98} {A1 : Option Addr} {c1 : Nat} {W : List Int} {w wr : World} {b0 gn : Nat} {At : Option Addr} {ct gt bt n1 i : Nat} (h : Ph3 A0 c0 l A1 c1 W w b0 wr gn At ct gt bt n1 i) (hi : i < n1) :
    Ph3 A0 c0 l A1 c1 W w b0 ((((wr.alloc (.map #[] 0)).setCell ⟨b0, i, none⟩ (.map (some wr.heap.size))).alloc (.map #[] 0)).setCell ⟨b0 + 1 + 1, i, none⟩ (.map (some (wr.heap.size + 1)))) gn At ct gt bt n1 (i + 1) := by
  obtain ⟨p, s, a, gs, ga, ms, ma, sz, lo⟩ := h
  have n1' := alloc_map_new wr
  have k1 : Kp (fun b => b = b0) wr ((wr.alloc (.map #[] 0)).setCell ⟨b0, i, none⟩ (.map (some wr.heap.size))) := Kp.set (S := fun b => b = b0) (p := ⟨b0, i, none⟩) ((Kp.refl _ wr).alloc _) (.inl rfl) _
  have gs1 : ((wr.alloc (.map #[] 0)).setCell ⟨b0, i, none⟩ (.map (some wr.heap.size))).heap[b0]? = some (.cells (upTo n1 (i + 1) fun j => b0 + 4 + 2 * j) 111 (0, 0)) := by
    refine blk_put (alloc_old gs _) i _ ?_
    rw [sz]
    exact upTo_set _
  have m1 : ((wr.alloc (.map #[] 0)).setCell ⟨b0, i, none⟩ (.map (some wr.heap.size))).heap[b0 + 4 + 2 * i]? = some (.map #[] 0) := by
    rw [Below.heap_setCell _ _ _ _ (show b0 + 4 + 2 * i ≠ b0 by omega), ← sz]
    exact n1'
  have z1 : ((wr.alloc (.map #[] 0)).setCell ⟨b0, i, none⟩ (.map (some wr.heap.size))).heap.size = wr.heap.size + 1 := by rw [size_set, size_alloc']
  generalize (wr.alloc (.map #[] 0)).setCell ⟨b0, i, none⟩ (.map (some wr.heap.size)) = w1 at k1 gs1 m1 z1 ⊢
  have n2' := alloc_map_new w1
  have k2 : Kp (fun b => b = b0 + 1 + 1) w1 ((w1.alloc (.map #[] 0)).setCell ⟨b0 + 1 + 1, i, none⟩ (.map (some (wr.heap.size + 1)))) := Kp.set (S := fun b => b = b0 + 1 + 1) (p := ⟨b0 + 1 + 1, i, none⟩) ((Kp.refl _ w1).alloc _) (.inl rfl) _
  have ga1 := k1.heap ga (by omega)
  have ga2 : ((w1.alloc (.map #[] 0)).setCell ⟨b0 + 1 + 1, i, none⟩ (.map (some (wr.heap.size + 1)))).heap[b0 + 1 + 1]? = some (.cells (upTo n1 (i + 1) fun j => b0 + 4 + 2 * j + 1) 112 (0, 0)) := by
    refine blk_put (alloc_old ga1 _) i _ ?_
    rw [sz, show b0 + 4 + 2 * i + 1 = (fun j => b0 + 4 + 2 * j + 1) i from rfl]
    exact upTo_set _
  have m2 : ((w1.alloc (.map #[] 0)).setCell ⟨b0 + 1 + 1, i, none⟩ (.map (some (wr.heap.size + 1)))).heap[b0 + 4 + 2 * i + 1]? = some (.map #[] 0) := by
    rw [Below.heap_setCell _ _ _ _ (show b0 + 4 + 2 * i + 1 ≠ b0 + 1 + 1 by omega), ← sz, ← z1]
    exact n2'
  have z2 : ((w1.alloc (.map #[] 0)).setCell ⟨b0 + 1 + 1, i, none⟩ (.map (some (wr.heap.size + 1)))).heap.size = w1.heap.size + 1 := by rw [size_set, size_alloc']
  generalize (w1.alloc (.map #[] 0)).setCell ⟨b0 + 1 + 1, i, none⟩ (.map (some (wr.heap.size + 1))) = w2 at k2 ga2 m2 z2 ⊢
  have hk : Kp (fun b => b = b0 ∨ b = b0 + 1 + 1) wr w2 := (k1.mono (fun b hb => .inl hb)).then_ k2 (fun b hb => .inl (.inr hb))
  refine ⟨?_, hk.heap s (by omega), hk.heap a (by omega), k2.heap gs1 (by omega), ga2, fun j hj => ?_, fun j hj => ?_, by omega, lo⟩
  · obtain ⟨⟨q1, q2, q3, q4, q5, q6, q7⟩, r, g, t, gg, gb⟩ := p
    have hne : ∀ {b : Nat}, b < b0 → ¬ (b = b0 ∨ b = b0 + 1 + 1) := fun h => by omega
    refine ⟨⟨q1.trans (hk.to_below q1.size (fun b hb => by omega)), Nat.le_trans q2 hk.size, hk.heap q3 (by omega), hk.heap q4 (by omega), hk.heap q5 (by omega), hk.heap q6 (by omega), q7⟩, ?_, hk.heap g (by omega), hk.heap t (by omega), gg, gb⟩
    refine Row.of (R_kp (r.ok (ok := fun k => (Value.slice At W.length ct).ownBlock = some k) (fun _ h => h)) hk (fun b hb => .inr (fun e => ?_)))
    rcases hb with rfl | rfl
    · exact r.ne gs (by decide) e.symm
    · exact r.ne ga (by decide) e.symm
  · by_cases e : j = i
    · subst e; exact k2.heap' m1 (by omega)
    · exact hk.heap' (ms j (by omega)) (by omega)
  · by_cases e : j = i
    · subst e; exact m2
    · exact hk.heap' (ma j (by omega)) (by omega)
def layOf (A0 : Option Addr) (c0 : Nat) (l : List S98) (A1 : Option Addr) (c1 : Nat) (W : List Int) (B b0 m gn : Nat) (At : Option Addr) (ct gt bt : Nat) : Lay :=
  { ls := l, W := W, Al := A0, cl := c0, Aw := A1, cw := c1, tw := .slice At W.length ct, bl := B, bn := gn, bw := B + 1, bt := bt, bs := b0 + 1, ba := b0 + 1 + 1 + 1, bm := m, bb := m + 1, gs := b0, ga := b0 + 1 + 1, gt := gt, m0 := b0 + 4 }
def o104 (B b0 m gn bt : Nat) : Obj := .cells #[.func (.func 104) #[] #[.pointer (some ⟨B, 0, none⟩), .pointer (some ⟨gn, 0, none⟩), .pointer (some ⟨b0 + 1 + 1 + 1, 0, none⟩), .pointer (some ⟨B + 1, 0, none⟩), .pointer (some ⟨m + 1, 0, none⟩), .pointer (some ⟨b0 + 1, 0, none⟩), .pointer (some ⟨bt, 0, none⟩)]] 113
def o103 (m : Nat) : Obj := .cells #[.func (.func 103) #[] #[.pointer (some ⟨m, 0, none⟩)]] 114
/-- The blocks at which the closures write. -/
def ownOf (gt b0 n1 : Nat) : Nat → Prop := fun b => b = gt ∨ ∃ j, j < n1 ∧ (b = b0 + 4 + 2 * j ∨ b = b0 + 4 + 2 * j + 1)
theorem rows_nil (w : World) (B : Nat) : ∀ (n : Nat) (ls : List (List Int)), (∀ l ∈ ls, l = []) → RowsAt w B ((List.replicate n (Value.slice none 0 0)).zip ls) := by
  intro n ls hl
  have key : ∀ (i : Nat) (p : Value × List Int), ((List.replicate n (Value.slice none 0 0)).zip ls)[i]? = some p → p = (.slice none 0 0, []) := fun i p h => by
    obtain ⟨h1, h2⟩ := List.getElem?_zip_eq_some.1 h
    have e1 := List.mem_of_getElem? h1
    have e2 := hl _ (List.mem_of_getElem? h2)
    obtain ⟨a, b⟩ := p
    simp only at e1 e2
    rw [List.eq_of_mem_replicate e1, e2]
  constructor
  · intro i v xs h
    have := key i _ h
    injection this with h1 h2
    subst h1 h2
    exact Row.nil w B
  · intro i j p q _ h _ k hk
    have := key i p h
    subst this
    simp [Value.ownBlock] at hk
theorem map_owns {W : World} {k : TypeId} {R : Value → Option (DataW Unit × List MemPlace)} {b : Nat} (h : W.heap[b]? = some (.map #[] 0)) : W.ownsMap Try.prog k R b 0 (.map []) :=
  ⟨#[], 0, h, ⟨by simp, MapKept.stamped_empty 0, by simp⟩, Nat.le_refl _, rfl⟩
theorem ph4 {A0 : Option Addr} {c0 : Nat} {l : List S98} {A1 : Option Addr} {c1 : Nat} {W : List Int} {w wr w9 : World} {b0 gn : Nat} {At : Option Addr} {ct gt bt n1 : Nat} (h : Ph3 A0 c0 l A1 c1 W w b0 wr gn At ct gt bt n1 n1) (hn1 : n1 = W.length + 1)
    (hb : Below ((wr.alloc (o104 w.heap.size b0 wr.heap.size gn bt)).alloc (o103 wr.heap.size)).heap.size ((wr.alloc (o104 w.heap.size b0 wr.heap.size gn bt)).alloc (o103 wr.heap.size)) w9) :
    InvL (layOf A0 c0 l A1 c1 W w.heap.size b0 wr.heap.size gn At ct gt bt) w w9 (W.map fun _ => ⟨[], []⟩) (ownOf gt b0 n1) ∧ (∀ b, ownOf gt b0 n1 b → b < w9.heap.size) ∧ Row w9 w.heap.size (.slice At W.length ct) W ∧ w9.heap[w.heap.size + 1 + 1]? = some (.cells #[.slice none 0 0, .slice none 0 0] 46 (0, 0)) ∧ (∀ k, (Value.slice At W.length ct).ownBlock = some k → ¬ ownOf gt b0 n1 k) := by
  have hbl : Below wr.heap.size wr w9 := (below_alloc (below_alloc (Below.refl _ _) _) _).trans (hb.mono (by rw [size_alloc', size_alloc']; omega))
  have e4 : w9.heap[wr.heap.size]? = some (o104 w.heap.size b0 wr.heap.size gn bt) := (Kp.of_below (S := fun _ => False) hb).heap' (by
    have := blk_new wr (o104 w.heap.size b0 wr.heap.size gn bt)
    exact alloc_old this _) (fun h => h)
  have e3 : w9.heap[wr.heap.size + 1]? = some (o103 wr.heap.size) := (Kp.of_below (S := fun _ => False) hb).heap' (by
    have := blk_new (wr.alloc (o104 w.heap.size b0 wr.heap.size gn bt)) (o103 wr.heap.size)
    rw [size_alloc'] at this
    exact this) (fun h => h)
  have k := Kp.of_below (S := fun _ => False) hbl
  have hF : ∀ {g : Nat} {o : Obj}, wr.heap[g]? = some o → w9.heap[g]? = some o := fun hg => k.heap' hg (fun h => h)
  have p := h.p.below hbl
  have hsz := h.sz
  obtain ⟨lo1, lo2, lo3, lo4⟩ := h.lo
  have hs9 := hbl.size
  have hgt : gt ≠ w.heap.size ∧ gt ≠ gn ∧ gt ≠ w.heap.size + 1 ∧ gt ≠ bt := by
    have hne : ∀ {g : Nat} {cs : Array Value} {t : TypeId}, w9.heap[g]? = some (.cells cs t (0, 0)) → t ≠ 26 → gt ≠ g := fun hg2 ht2 e => by
      have hg := p.g
      rw [e, hg2] at hg
      injection hg with hg
      injection hg with _ hg _
      exact ht2 hg
    exact ⟨hne p.p.f1 (by decide), hne p.p.f4 (by decide), by have := p.gg; omega, hne p.t (by decide)⟩
  have hgnlo := p.p.ge
  have hbtlo := p.gb
  have hco : ∀ b ∈ (layOf A0 c0 l A1 c1 W w.heap.size b0 wr.heap.size gn At ct gt bt).consts, ¬ ownOf gt b0 n1 b := by
    intro b hbm ho
    simp only [Lay.consts, layOf, List.mem_cons, List.not_mem_nil, or_false] at hbm
    unfold ownOf at ho
    obtain ⟨g1, g2, g3, g4⟩ := hgt
    rcases ho with ho | ⟨j, hj, ho⟩
    · omega
    · omega
  have hlow : ∀ b, ownOf gt b0 n1 b → w.heap.size ≤ b := fun b hb => by
    rcases hb with hb | ⟨j, hj, hb⟩
    · have := p.gg; omega
    · omega
  refine ⟨⟨p.p.bel, ?_, hco, hlow, .inl rfl, fun i hi => ?_, by simp [layOf], ?_, ?_, ?_⟩, fun b hb => ?_, p.row, p.p.f3, fun k hk ho => ?_⟩
  · refine ⟨p.p.f1, p.p.f4, p.p.f2, ?_, ?_, ?_, e4, e3, ?_, ?_⟩
    · have := p.t; rw [hn1] at this; exact this
    · have := hF h.s; rw [hn1] at this; exact this
    · have := hF h.a; rw [hn1] at this; exact this
    · have := hF h.gs; rw [upTo_all (Nat.le_refl _), hn1] at this; exact this
    · have := hF h.ga; rw [upTo_all (Nat.le_refl _), hn1] at this; exact this
  · have hi' : i < W.length := hi
    exact ⟨.inr ⟨i + 1, by omega, .inl rfl⟩, .inr ⟨i + 1, by omega, .inr rfl⟩⟩
  · refine ⟨.slice none 0 0, List.replicate W.length (.slice none 0 0), by simp [layOf], ?_, rows_nil _ _ _ _ (fun l hl => by simp at hl; exact hl.2), fun v hv k hk => ?_⟩
    · have := p.g
      rw [hn1] at this
      have e : (Value.slice none 0 0 :: List.replicate W.length (Value.slice none 0 0)).toArray = Array.replicate (W.length + 1) (.slice none 0 0) := by
        rw [← List.replicate_succ]
        simp
      rw [e]; exact this
    · rw [List.eq_of_mem_replicate hv] at hk
      simp [Value.ownBlock] at hk
  · intro i q hq
    rw [List.getElem?_zipWith] at hq
    have hi : i < W.length := by
      rcases Nat.lt_or_ge i W.length with h1 | h1
      · exact h1
      · rw [List.getElem?_eq_none (show (layOf A0 c0 l A1 c1 W w.heap.size b0 wr.heap.size gn At ct gt bt).W.length ≤ i from h1)] at hq; simp at hq
    refine ⟨hi, ?_⟩
    have hW : (layOf A0 c0 l A1 c1 W w.heap.size b0 wr.heap.size gn At ct gt bt).W[i]? = some (W[i]) := List.getElem?_eq_getElem hi
    rw [hW, show (W.map fun _ => (⟨[], []⟩ : Lv))[i]? = some ⟨[], []⟩ by simp [hi]] at hq
    have hq' : q = seenData (W[i]) ⟨[], []⟩ := by simpa using hq.symm
    have hm := map_owns (k := 9) (R := plainElem Try.prog 3) (hF (h.ms (i + 1) (by omega)))
    rw [hq']
    simpa [seenData, seenKV, dataKV, Lay.ms, layOf] using hm
  · intro i q hq
    have hi : i < W.length := by
      rcases Nat.lt_or_ge i W.length with h1 | h1
      · exact h1
      · rw [List.getElem?_eq_none (by simp; exact h1)] at hq; cases hq
    refine ⟨hi, ?_⟩
    have hq' : q = evData ⟨[], []⟩ := by
      rw [List.map_map, List.getElem?_map, List.getElem?_eq_getElem hi] at hq
      simpa using hq.symm
    have hm := map_owns (k := 3) (R := plainElem Try.prog 3) (hF (h.ma (i + 1) (by omega)))
    rw [hq']
    simpa [evData, evKV, dataKV, Lay.ma, layOf] using hm
  · rcases hb with hb | ⟨j, hj, hb⟩
    · omega
    · omega
  · rcases ho with rfl | ⟨j, hj, ho⟩
    · exact p.row.ne p.g (by decide) hk.symm
    · rcases ho with rfl | rfl
      · exact p.row.ne_map (hF (h.ms j hj)) hk.symm
      · exact p.row.ne_map (hF (h.ma j hj)) hk.symm
theorem S_mk {W : World} {B gt : Nat} {hs : List Value} {ls : List (List Int)} {ok : Nat → Prop} (hg : W.heap[gt]? = some (.cells hs.toArray 26 (0, 0))) (hB : B ≤ gt) (hr : RowsAt W B (hs.zip ls)) (hl : hs.length = ls.length) (h0 : ls.length ≤ 1000000) (hgo : ok gt) (ho : ∀ v ∈ hs, ∀ k, v.ownBlock = some k → ok k ∧ k ≠ gt) :
    Kd.S (Kd.slice 3 (Kd.int .i64)) 26 W B ok (.slice (some ⟨gt, 0, none⟩) ls.length ls.length) ls := by
  refine ⟨fun k => hs.findIdx (fun v => decide (v.ownBlock = some k)), fun k hk => ?_, hs, ⟨?_, .inr ⟨gt, ls.length, hs.toArray, ?_, hB, hg, ?_, ?_, ?_, ?_⟩⟩, ?_, fun j p hj => ?_⟩
  · have : k = gt := by simpa [Value.ownBlock] using hk.symm
    rw [this]; exact hgo
  · rw [List.length_zipIdx, hl]; show ls.length = ls.length * 1; omega
  · rw [List.length_zipIdx]
  · rw [List.length_zipIdx]; exact Nat.le_refl _
  · unfold maxLen; omega
  · show hs.toArray.size = ls.length * 1
    rw [List.size_toArray]; omega
  · rw [List.length_zipIdx]
    show List.take (ls.length * 1) hs = hs
    rw [List.take_of_length_le (by omega)]
  · rw [List.length_zipIdx]; show hs.length = ls.length * 1; omega
  · rw [List.getElem?_zipIdx] at hj
    obtain ⟨x, hx, hp⟩ := Option.map_eq_some_iff.1 hj
    have hlt : j < ls.length := by
      rcases Nat.lt_or_ge j ls.length with h | h
      · exact h
      · rw [List.getElem?_eq_none h] at hx; cases hx
    have hz : (hs.zip ls)[j]? = some (hs[j], x) := by
      rw [List.getElem?_zip_eq_some]
      exact ⟨List.getElem?_eq_getElem (by omega), hx⟩
    subst hp
    have hd : (hs.drop (j * 1)).take 1 = [hs[j]] := by
      rw [Nat.mul_one, List.drop_eq_getElem_cons (by omega)]
      rfl
    show Kd.M (Kd.tag _ (Kd.slice 3 (Kd.int .i64))) _ _ _ _ ((hs.drop (j * 1)).take 1)
    rw [hd]
    refine ⟨hs[j], rfl, (hr.row j _ _ hz).ok (fun k hk => ?_)⟩
    have hmem : hs[j] ∈ hs := List.getElem_mem _
    obtain ⟨o1, o2⟩ := ho _ hmem k hk
    refine ⟨⟨o1, fun e => o2 (by simpa [Value.ownBlock] using e)⟩, ?_⟩
    have hfi : hs.findIdx (fun v => decide (v.ownBlock = some k)) = j := by
      rw [List.findIdx_eq (by omega)]
      refine ⟨decide_eq_true hk, fun i hi => ?_⟩
      refine decide_eq_false (fun e => ?_)
      have hz2 : (hs.zip ls)[i]? = some (hs[i]'(by omega), ls[i]'(by omega)) := by
        rw [List.getElem?_zip_eq_some]
        exact ⟨List.getElem?_eq_getElem (by omega), List.getElem?_eq_getElem (by omega)⟩
      exact hr.apart i j _ _ (by omega) hz2 hz k e hk
    exact hfi.trans (Nat.zero_add j).symm
section
variable {P : Program} {md : Region.Mode} {ops : Array Oper} {Q : Exit → Act → World → Prop}
theorem goesC_ {oi : Oper} {N : Option Tmp} {a : Act} {w : World} {K : Act → World → Prop} {f : FuncId} {fn : Func} {ag : Array Operand} {ts : Array TypeId} {x : Operand} (hf : P.funcs[f]? = some fn) (hname : (fn.name == "runtime.NumGoroutine") = false) (hb : fn.body.isSome = true) (args caps : Array Value)
    (hw : Region.wanted oi (yielded ops a.tmps) = true) (hN : oi.dst = N) (hop : oi.op = .call { callee := .value x, args := ag, argTypes := ts }) (hx : a.eval x = .func (.func f) #[] caps) (hargs : ag.map a.eval = args)
    (h : Calls P f (args ++ caps) w fun e w' => ∃ v, e = .returned v ∧ K (a.put N v) w') : if Region.wanted oi (yielded ops a.tmps) = true then Oper.wp P oi a w K Q else K (a.put N undef) w := by
  refine call_ f (args ++ caps) hw hN ?_ h
  have he := enters_ hf hname hb (args ++ caps) w
  unfold execOp
  simp [hop, resolve, Deferred.ofValue, invoke, hx, hargs, he]
end
theorem tdiv_codes {z : Nat} (hz : 0 < z) : Int.tdiv 1114112 (z : Int) = ((1114112 / z : Nat) : Int) := by
  rw [Int.tdiv_eq_ediv_of_nonneg (by omega)]
  exact (Int.natCast_ediv 1114112 z).symm
theorem shl_bits {b : Int} (h0 : 9 ≤ b) (h1 : b ≤ 16) : wrap64 (2 ^ min b.toNat 64) = (pw b : Int) := by
  have : b = 9 ∨ b = 10 ∨ b = 11 ∨ b = 12 ∨ b = 13 ∨ b = 14 ∨ b = 15 ∨ b = 16 := by omega
  have e : shl .i64 1 b = (pw b : Int) := by
    rcases this with rfl | rfl | rfl | rfl | rfl | rfl | rfl | rfl <;> decide
  simpa [shl, IntKind.bits, i64_w] using e
end Go.Proofs.Ytdlijioedokgjaa.Q
/- multistage.Build by hand: its end. -/
namespace Go.Proofs.Ytdlijioedokgjaa.Q
open Go.RowKit Go.Proofs.YtdlijioedokgjaaW.PrintWords Go.Proofs.YtdlijioedokgjaaW.PrintLast Go.Proofs.YtdlijioedokgjaaW.PrintMore
set_option linter.unusedVariables false
set_option linter.unusedSimpArgs false

structure Ph5 (Y : Lay) (w w9 : World) (O : Nat → Prop) : Prop where
  inv : InvL Y w w9 (Y.W.map fun _ => ⟨[], []⟩) O
  lt : ∀ b, O b → b < w9.heap.size
  row : Row w9 w.heap.size Y.tw Y.W
  f3 : w9.heap[w.heap.size + 1 + 1]? = some (.cells #[.slice none 0 0, .slice none 0 0] 46 (0, 0))
  no : ∀ k, Y.tw.ownBlock = some k → ¬ O k
  rb : ¬ O (w.heap.size + 1 + 1)
theorem Ph5.below {Y : Lay} {w w9 w10 : World} {O : Nat → Prop} (h : Ph5 Y w w9 O) (hb : Below w9.heap.size w9 w10) : Ph5 Y w w10 O :=
  ⟨InvL.below h.inv hb, fun b hO => Nat.lt_of_lt_of_le (h.lt b hO) hb.size, h.row.below hb, (Kp.of_below (S := fun _ => False) hb).heap h.f3 (fun h => h), h.no, h.rb⟩
theorem OutIs.row {W : World} {B out many : Nat} {l : List Int} (h : OutIs W out many l) (hl : l.length = many) (hB : B ≤ out) (hm : many ≤ 1000000000) : Row W B (.slice (some ⟨out, 0, none⟩) many many) l := by
  obtain ⟨cs, h1, h2, h3⟩ := h
  refine Kd.R_of_own (enc := Value.int .i64) (h1 := fun _ => rfl) ?_ (fun _ _ => trivial)
  refine ⟨by simp [encs], .inr ⟨out, many, cs, by rw [hl], hB, h1, by omega, by unfold maxLen; omega, by omega, ?_⟩⟩
  rw [Nat.mul_one, hl]
  apply List.ext_getElem?
  intro j
  rcases Nat.lt_or_ge j many with hj | hj
  · rw [List.getElem?_take_of_lt hj, Array.getElem?_toList, h3 j (by omega)]
    simp only [encs, List.getElem?_map]
    rw [List.getElem?_eq_getElem (by omega), List.getD_eq_getElem?_getD, List.getElem?_eq_getElem (by omega)]
    rfl
  · rw [List.getElem?_eq_none (by rw [List.length_take]; omega), List.getElem?_eq_none (by simp [encs]; omega)]
theorem RowsAt.cons {W : World} {B : Nat} {rs : List (Value × List Int)} {v : Value} {xs : List Int} (h : RowsAt W B rs) (hr : Row W B v xs) (ha : ∀ p ∈ rs, Apart v p.1) : RowsAt W B ((v, xs) :: rs) := by
  constructor
  · intro i u ys hi
    cases i with
    | zero => injection hi with e; injection e with e1 e2; subst e1 e2; exact hr
    | succ i => exact h.row i u ys hi
  · intro i j p q hne hi hj
    cases i with
    | zero =>
      injection hi with e; subst e
      cases j with
      | zero => exact absurd rfl hne
      | succ j => exact ha q (List.mem_of_getElem? hj)
    | succ i =>
      cases j with
      | zero => injection hj with e; subst e; exact (ha p (List.mem_of_getElem? hi)).symm
      | succ j => exact h.apart i j p q (by omega) hi hj
structure End13 (Y : Lay) (w : World) (ls : List (List Int)) (W13 : World) : Prop where
  r : Kd.R (Kd.int .i64) 3 W13 w.heap.size (fun _ => True) Y.tw Y.W
  s : Kd.S (Kd.slice 3 (Kd.int .i64)) 26 W13 w.heap.size (fun k_ => some k_ ≠ Y.tw.ownBlock) (.slice (some ⟨Y.gt, 0, none⟩) ls.length ls.length) ls
  b : Below w.heap.size w W13
  z0 : W13.cell? ⟨w.heap.size + 1 + 1, 0, none⟩ = some Y.tw
  z1 : W13.cell? ⟨w.heap.size + 1 + 1, 1, none⟩ = some (.slice (some ⟨Y.gt, 0, none⟩) (Y.W.length + 1) (Y.W.length + 1))
  n : ls.length = Y.W.length + 1
structure End12 (Y : Lay) (w W12 : World) : Prop where
  c0 : W12.cell? ⟨Y.bt, 0, none⟩ = some Y.tw
  c1 : W12.cell? ⟨Y.bt, 1, none⟩ = some (.slice (some ⟨Y.gt, 0, none⟩) (Y.W.length + 1) (Y.W.length + 1))
  r0 : W12.cell? ⟨w.heap.size + 1 + 1, 0, none⟩ = some (.slice none 0 0)
  r1 : W12.cell? ⟨w.heap.size + 1 + 1, 1, none⟩ = some (.slice none 0 0)
  q0 : W12.frozen? ⟨w.heap.size + 1 + 1, 0, none⟩ = false
  q1 : W12.frozen? ⟨w.heap.size + 1 + 1, 1, none⟩ = false
theorem build_end {Y : Lay} {w w10 w11 : World} {O : Nat → Prop} {many : Nat} {st0 : List Int} {σ : List Lv} (h5 : Ph5 Y w w10 O) (hlen : st0.length = many) (hm : many ≤ 1000000) (hn : Y.W.length ≤ 3) (hO : OutIs w11 w10.heap.size many st0) (hI : InvL Y w w11 σ (Ox O w10.heap.size w10.heap.size w11)) (hk : Kp O w10 w11) :
    (∃ h0, w11.cell? ⟨Y.gt, 0, none⟩ = some h0) ∧ w11.frozen? ⟨Y.gt, 0, none⟩ = false ∧ End12 Y w (w11.setCell ⟨Y.gt, 0, none⟩ (.slice (some ⟨w10.heap.size, 0, none⟩) many many)) ∧
      End13 Y w (st0 :: σ.map Lv.rows) (((w11.setCell ⟨Y.gt, 0, none⟩ (.slice (some ⟨w10.heap.size, 0, none⟩) many many)).setCell ⟨w.heap.size + 1 + 1, 0, none⟩ Y.tw).setCell ⟨w.heap.size + 1 + 1, 1, none⟩ (.slice (some ⟨Y.gt, 0, none⟩) (Y.W.length + 1) (Y.W.length + 1))) := by
  obtain ⟨h0, hs, g1, g2, g3, g4⟩ := hI.heads
  have hlσ : σ.length = Y.W.length := by have := hI.len; rwa [List.length_map] at this
  have hf3 := hk.heap h5.f3 h5.rb
  have hrow11 : Row w11 w.heap.size Y.tw Y.W := Row.of (R_kp (h5.row.ok (ok := fun k => Y.tw.ownBlock = some k) (fun _ h => h)) hk (fun i hi => .inr (fun e => h5.no i e hi)))
  have hrbgt : Y.gt ≠ w.heap.size + 1 + 1 := by
    intro e
    rw [e, hf3] at g2
    injection g2 with g2
    injection g2 with _ g2 _
    exact absurd g2 (by decide)
  have hbtgt : Y.gt ≠ Y.bt := by
    intro e
    have h1 := hI.cs.t
    rw [← e, g2] at h1
    injection h1 with h1
    injection h1 with _ h1 _
    exact absurd h1 (by decide)
  have hout : OutIs w11 w10.heap.size many st0 := hO
  have hB10 := h5.inv.bel.size
  obtain ⟨cs, hcs, hcs2, hcs3⟩ := hO
  have hgtout : Y.gt ≠ w10.heap.size := by
    intro e
    rw [e, hcs] at g2
    injection g2 with g2
    injection g2 with _ g2 _
    exact absurd g2 (by decide)
  -- the head of stage 0
  have k12 : Kp (fun b => b = Y.gt) w11 (w11.setCell ⟨Y.gt, 0, none⟩ (.slice (some ⟨w10.heap.size, 0, none⟩) many many)) := Kp.set (S := fun b => b = Y.gt) (p := ⟨Y.gt, 0, none⟩) (Kp.refl _ w11) (.inl rfl) _
  have g12 : (w11.setCell ⟨Y.gt, 0, none⟩ (.slice (some ⟨w10.heap.size, 0, none⟩) many many)).heap[Y.gt]? = some (.cells (.slice (some ⟨w10.heap.size, 0, none⟩) many many :: hs).toArray 26 (0, 0)) := blk_put g2 0 _ (by simp)
  have rows12 : RowsAt (w11.setCell ⟨Y.gt, 0, none⟩ (.slice (some ⟨w10.heap.size, 0, none⟩) many many)) w.heap.size ((.slice (some ⟨w10.heap.size, 0, none⟩) many many :: hs).zip (st0 :: σ.map Lv.rows)) := by
    rw [List.zip_cons_cons]
    refine RowsAt.put1 (RowsAt.cons g3 (hout.row hlen hB10 (by omega)) (fun p hp k h1 h2 => ?_)) g2 0 _
    have e1 : w10.heap.size = k := by simpa [Value.ownBlock] using h1
    have := g4 p.1 (List.of_mem_zip (a := p.1) (b := p.2) hp).1 k h2
    exact this.2.1 e1.symm
  have b12 : Below w.heap.size w (w11.setCell ⟨Y.gt, 0, none⟩ (.slice (some ⟨w10.heap.size, 0, none⟩) many many)) := hI.bel.trans (k12.to_below hI.bel.size (fun i hi => by subst hi; exact hI.hO _ hI.og))
  have f12 := k12.heap hf3 (fun e => hrbgt e.symm)
  have t12 := k12.heap hI.cs.t (fun e => hbtgt e.symm)
  have row12 : Row (w11.setCell ⟨Y.gt, 0, none⟩ (.slice (some ⟨w10.heap.size, 0, none⟩) many many)) w.heap.size Y.tw Y.W := Row.of (R_kp (hrow11.ok (ok := fun k => Y.tw.ownBlock = some k) (fun _ h => h)) k12 (fun i hi => .inr (fun e => hrow11.ne g2 (by decide) (by rw [e, hi]))))
  refine ⟨⟨h0, by rw [blk_cell g2 0]; simp⟩, blk_frozen g2 0, ⟨blk_cell t12 0, blk_cell t12 1, blk_cell f12 0, blk_cell f12 1, blk_frozen f12 0, blk_frozen f12 1⟩, ?_⟩
  clear k12 g3 g2
  generalize w11.setCell ⟨Y.gt, 0, none⟩ (.slice (some ⟨w10.heap.size, 0, none⟩) many many) = w12 at g12 rows12 b12 f12 t12 row12 ⊢
  have k13 : Kp (fun b => b = w.heap.size + 1 + 1) w12 ((w12.setCell ⟨w.heap.size + 1 + 1, 0, none⟩ Y.tw).setCell ⟨w.heap.size + 1 + 1, 1, none⟩ (.slice (some ⟨Y.gt, 0, none⟩) (Y.W.length + 1) (Y.W.length + 1))) := Kp.set (S := fun b => b = w.heap.size + 1 + 1) (p := ⟨w.heap.size + 1 + 1, 1, none⟩) (Kp.set (S := fun b => b = w.heap.size + 1 + 1) (p := ⟨w.heap.size + 1 + 1, 0, none⟩) (Kp.refl _ w12) (.inl rfl) _) (.inl rfl) _
  have f13 := blk_put (blk_put f12 0 Y.tw rfl) 1 (.slice (some ⟨Y.gt, 0, none⟩) (Y.W.length + 1) (Y.W.length + 1)) rfl
  have rows13 := rows12.kp (S := fun b => b = w.heap.size + 1 + 1) (O := fun k => k ≠ w.heap.size + 1 + 1) k13 (fun p hp k hk e => by
    obtain ⟨i, hi, rfl⟩ := List.mem_iff_getElem.1 hp
    have hr := rows12.row i _ _ (by rw [List.getElem?_eq_getElem hi])
    exact hr.ne f12 (by decide) (by rw [← e]; exact hk.symm)) (fun i hi h => h hi)
  have row13 : Row _ w.heap.size Y.tw Y.W := Row.of (R_kp (row12.ok (ok := fun k => Y.tw.ownBlock = some k) (fun _ h => h)) k13 (fun i hi => .inr (fun e => row12.ne f12 (by decide) (by rw [e, hi]))))
  refine ⟨row13, S_mk (k13.heap g12 hrbgt) (hI.hO _ hI.og) rows13 (by simp; omega) (by simp; omega) (fun e => ?_) (fun v hv k hkk => ?_), b12.trans (k13.to_below b12.size (fun i hi => by omega)), (blk_cell f13 0).trans rfl, (blk_cell f13 1).trans rfl, by simp [hlσ]⟩
  · exact row12.ne g12 (by decide) e
  · rcases List.mem_cons.1 hv with rfl | hv
    · have e1 : w10.heap.size = k := by simpa [Value.ownBlock] using hkk
      subst e1
      refine ⟨fun e => ?_, fun e => hgtout e.symm⟩
      have := h5.row.lt e.symm
      omega
    · have hx := g4 v hv k hkk
      refine ⟨fun e => ?_, fun e => ?_⟩
      · have h1 := h5.row.lt e.symm
        rcases hx.1 with h2 | h2
        · exact h5.no k e.symm h2
        · omega
      · subst e
        have hz : ∃ i : Nat, ∃ xs, ((.slice (some ⟨w10.heap.size, 0, none⟩) many many :: hs).zip (st0 :: σ.map Lv.rows))[i]? = some (v, xs) := by
          obtain ⟨i, hi, rfl⟩ := List.mem_iff_getElem.1 hv
          refine ⟨i + 1, (σ[i]'(by omega)).rows, ?_⟩
          rw [List.zip_cons_cons, List.getElem?_cons_succ, List.getElem?_zip_eq_some]
          exact ⟨List.getElem?_eq_getElem hi, by simp [show i < σ.length by omega]⟩
        obtain ⟨i, xs, hz⟩ := hz
        exact (rows12.row i v xs hz).ne g12 (by decide) hkk.symm
theorem w_small {n : Nat} (h : n ≤ 1114112) : wrap64 (n : Int) = (n : Int) := by unfold wrap64; omega
theorem nums50 {W : List Int} (hW : bitsP W ≠ 0) : ∃ (z many : Nat) (bw : Int), bw = bitsP W ∧ decide (0 ≤ bw) = true ∧ ((0 ≤ bw) = True) ∧ decide (bw < 0) = false ∧ wrap64 (2 ^ min bw.toNat 64) = (z : Int) ∧ Int.tdiv 1114112 (z : Int) = (many : Int) ∧ ((z = 0) = False) ∧ wrap64 (many : Int) = (many : Int) ∧ z = szW W ∧ many = 1114112 / z ∧ 0 + 1114112 / szW W * szW W = 1114112 ∧ 17 ≤ 1114112 / szW W ∧ many ≤ 1000000 := by
  obtain ⟨sz1, sz2, sz3, sz4⟩ := sz_cover hW
  have hb := (bitsP_ne hW).2.2.2
  refine ⟨szW W, 1114112 / szW W, bitsP W, rfl, decide_eq_true (by omega), eq_true (by omega), decide_eq_false (by omega), ?_, tdiv_codes (by omega), eq_false (by omega), w_small (Nat.div_le_self _ _), rfl, rfl, sz3, sz4, Nat.le_trans (Nat.div_le_div_left sz1 (by decide)) (by decide)⟩
  rw [← bitsP_sz hW]
  exact shl_bits (bitsP_ne hW).2.2.2.1 (bitsP_ne hW).2.2.2.2
theorem drawn_below {w w' : World} (h : Drawn0 w w') : Below w.heap.size w w' := by
  obtain ⟨n, rfl⟩ := h
  exact pw_below_drewN (Below.refl _ _) n
theorem ph5_of {A0 : Option Addr} {c0 : Nat} {l : List S98} {A1 : Option Addr} {c1 : Nat} {W : List Int} {w wr w9 : World} {b0 gn : Nat} {At : Option Addr} {ct gt bt n1 : Nat} (h : Ph3 A0 c0 l A1 c1 W w b0 wr gn At ct gt bt n1 n1) (hn1 : n1 = W.length + 1)
    (hb : Below ((wr.alloc (o104 w.heap.size b0 wr.heap.size gn bt)).alloc (o103 wr.heap.size)).heap.size ((wr.alloc (o104 w.heap.size b0 wr.heap.size gn bt)).alloc (o103 wr.heap.size)) w9) :
    Ph5 (layOf A0 c0 l A1 c1 W w.heap.size b0 wr.heap.size gn At ct gt bt) w w9 (ownOf gt b0 n1) := by
  obtain ⟨h1, h2, h3, h4, h5⟩ := ph4 h hn1 hb
  have hgg := h.p.gg
  have hlo := h.lo
  refine ⟨h1, h2, h3, h4, h5, fun e => ?_⟩
  rcases e with e | ⟨j, hj, e⟩
  · omega
  · omega
/-- The call of block for stage 0. -/
theorem blk0 {Y : Lay} {w w10 : World} {O : Nat → Prop} (hx : Ctx Y w) (h5 : Ph5 Y w w10 O) {z many : Nat} (hz : z = szW Y.W) (hmany : many = 1114112 / z) (hc : 0 + 1114112 / szW Y.W * szW Y.W = 1114112) (h17 : 17 ≤ 1114112 / szW Y.W) :
    Calls Try.prog 103 #[.int .i64 0, .int .i64 0, .int .i64 (z : Int), .int .i64 (many : Int), .pointer (some ⟨Y.bm, 0, none⟩)] w10 fun e w11 => e = .returned (.slice (some ⟨w10.heap.size, 0, none⟩) many many) ∧ ∃ (r1 : List Int) (r2 : List Lv), r1 :: r2.map Lv.rows = stagesB Y.U Y.W ∧ r1.length = many ∧ OutIs w11 w10.heap.size many r1 ∧
      InvL Y w w11 r2 (Ox O w10.heap.size w10.heap.size w11) ∧ Kp O w10 w11 := by
  subst hz hmany
  refine (block_calls Y w hx.hU (number_all hx Y.W) [] [] (Y.W.map fun _ => ⟨[], []⟩) 0 (1114112 / szW Y.W) O w10 rfl rfl h5.inv h5.lt (GoodS.empty _ _) (by omega) (by omega) (by simp)).mono ?_
  rintro e w11 ⟨rfl, h1, h2, h3⟩
  exact ⟨rfl, _, _, rfl, manyP_len _ _ _, h1, h2, h3⟩
end Go.Proofs.Ytdlijioedokgjaa.Q

/- seqpool.part and seqpool.copied by hand. -/
import Derived.Test.YtdlijioedokgjaaHFrame
import Derived.Laws.CopyOwn
namespace Go.Proofs.Ytdlijioedokgjaa.Q
open Go.RowKit Go.Proofs.YtdlijioedokgjaaW.PrintWords Go.Proofs.YtdlijioedokgjaaW.PrintLast Go.Proofs.YtdlijioedokgjaaW.PrintMore
set_option linter.unusedVariables false
set_option linter.unusedSimpArgs false

def cut (xs : List Int) (s m : Int) : List Int := (xs.drop s.toNat).take m.toNat
theorem cut_length {xs : List Int} {s m : Int} (h0 : 0 ≤ s) (hm : 0 ≤ m) (h : s + m ≤ xs.length) : (cut xs s m).length = m.toNat := by unfold cut; rw [List.length_take, List.length_drop]; omega
theorem C_cut {A : Option Addr} {xs : List Int} {w : World} (hC : Kd.C (Kd.int .i64) w A xs.length xs) {s m : Int} (h0 : 0 ≤ s) (hm : 0 < m) (h : s + m ≤ xs.length) : Kd.C (Kd.int .i64) w (A.map (·.add s.toNat)) m.toNat (cut xs s m) := by
  have h1 := (Kd.reads_of_C (d := (0 : Int)) hC).drop_ (c := xs.length) s.toNat (by omega) (Nat.le_refl _)
  rw [if_neg (by omega)] at h1
  have h2 := h1.take_ m.toNat (by omega)
  exact Kd.C_of_reads (h1 := fun _ => rfl) h2
theorem C_none (w : World) (A : Option Addr) : Kd.C (Kd.int .i64) w A 0 [] := ⟨rfl, by simp, fun h => absurd h (Nat.lt_irrefl 0)⟩
def PartPost (w : World) (xs : List Int) (s m : Int) (e : Ending) (w' : World) : Prop := ∃ A', e = .returned (.slice A' m.toNat m.toNat) ∧ Kd.C (Kd.int .i64) w A' m.toNat (cut xs s m) ∧ w = w'

set_option maxHeartbeats 1000000 in
theorem part_calls (A : Option Addr) (n c : Nat) (xs : List Int) (s m : Int) (w : World) (hn : n = xs.length) (hC : Kd.C (Kd.int .i64) w A xs.length xs) (hc : xs.length ≤ c) (h0 : 0 ≤ s) (hm : 0 ≤ m) (h : s + m ≤ xs.length) :
    Calls Try.prog 108 #[.slice A n c, .int .i64 s, .int .i64 m] w (PartPost w xs s m) := by
  subst hn
  have hx : xs.length ≤ 9223372036854775807 := Kd.C_max hC
  by_cases hz : m = 0
  · subst hz
    have fin : ∀ A' : Option Addr, PartPost w xs s 0 (.returned (.slice A' 0 0)) w := fun A' => ⟨A', rfl, by simpa [cut] using C_none w A', rfl⟩
    have FIN := Aside0.mk fin
    clear fin hC
    have h1 : s ≤ c := by omega
    have h3 : s ≤ 9223372036854775807 := by omega
    go_enter Try.func108, Try.ntmps108
    go_wp2
    all_goals
      go_ret
      exact FIN.out _
  · have fin : PartPost w xs s m (.returned (.slice (A.map (·.add s.toNat)) m.toNat m.toNat)) w := ⟨_, rfl, C_cut hC h0 (by omega) h, rfl⟩
    have e1 : (s + m).toNat - s.toNat = m.toNat := by omega
    have e2 : ¬ (s + m).toNat = s.toNat := by omega
    rw [← e1] at fin
    have FIN := Aside0.mk fin
    clear fin hC e1
    have h1 : s + m ≤ c := by omega
    have h2 : s ≤ s + m := by omega
    have h3 : s + m ≤ 9223372036854775807 := by omega
    go_enter Try.func108, Try.ntmps108
    go_wp2
    all_goals
      go_ret
      exact FIN.out

theorem C_cells {A : Option Addr} {n : Nat} {xs : List Int} {w : World} (hC : Kd.C (Kd.int .i64) w A n xs) (hp : 0 < xs.length) : ∃ ad, A = some ad ∧ ∀ j v, (nums .i64 xs)[j]? = some v → w.cell? (ad.add j) = some v := by
  obtain ⟨hl, hm, hc⟩ := hC
  obtain ⟨ad, rfl, hcell⟩ := hc (by omega)
  refine ⟨ad, rfl, fun j v hv => ?_⟩
  unfold nums at hv
  rw [List.getElem?_map, Option.map_eq_some_iff] at hv
  obtain ⟨x, hx, rfl⟩ := hv
  obtain ⟨c, _, hk, h⟩ := hcell j x hx
  have hk' : c = [.int .i64 x] := hk
  subst hk'
  have := h 0 (.int .i64 x) rfl
  simpa [Kd.int, Kd.scalar] using this
theorem nums_one (k : IntKind) (xs : List Int) : ∀ v ∈ nums k xs, v.oneCell' = true := by
  intro v hv
  obtain ⟨x, _, rfl⟩ := List.mem_map.1 hv
  rfl

set_option maxRecDepth 100000 in
/-- copy over the whole of a row of the call's own. -/
theorem copy_run (A : Option Addr) (c cap g B : Nat) (xs : List Int) (cur : Array Value) (w1 : World) (hC : Kd.C (Kd.int .i64) w1 A xs.length xs) (hg : w1.heap[g]? = some (.cells cur 3 (0, 0))) (hB : B ≤ g) (hcap : xs.length ≤ cap) (hmax : cap ≤ maxLen) (hcur : cur.size = cap * 1) :
    ∃ w2, (Builtin.copy_ #[26, 26] 3 #[.slice (some ⟨g, 0, none⟩) xs.length cap, .slice A xs.length c]).run Try.prog w1 = .ok (goInt xs.length) w2 ∧ Kd.R (Kd.int .i64) 3 w2 B (fun _ => True) (.slice (some ⟨g, 0, none⟩) xs.length cap) xs ∧ Below B w1 w2 := by
  have hsz : (Try.prog.info? 3).map (·.size) = some 1 := by
    obtain ⟨i0, hi, _, hz1, _⟩ := info_parts info3
    rw [hi]; exact congrArg some hz1
  have hlen : (nums .i64 xs).length = xs.length := nums_length _ _
  by_cases hp : 0 < xs.length
  · obtain ⟨ad, rfl, hcell⟩ := C_cells hC hp
    refine ⟨_, run_copy_row Try.prog w1 26 26 3 3 g 0 xs.length cap ad xs.length c cur 3 (nums .i64 xs) Try.underlying26 hsz hg (by rw [hlen]; simp) hcell (by rw [hlen]; omega) (nums_one _ _) |>.trans (by rw [hlen]), ?_, below_setRow (Below.refl _ _) hB _⟩
    refine Kd.R_of_own ⟨by simp [Kd.int, Kd.scalar, encs], .inr ⟨g, cap, _, rfl, hB, setRow_heap _ _ _ _ _ _ hg, hcap, hmax, ?_, ?_⟩⟩ (fun _ _ => trivial)
    · simp [hlen]; omega
    · simp [nums, encs]
  · have hx : xs = [] := List.eq_nil_of_length_eq_zero (by omega)
    subst hx
    refine ⟨w1, run_copy_none w1 26 26 3 3 _ _ _ _ _ _ Try.underlying26 hsz (by simp), ?_, Below.refl _ _⟩
    exact Kd.R_of_own ⟨by simp [encs], .inr ⟨g, cap, cur, rfl, hB, hg, hcap, hmax, hcur, by simp [encs]⟩⟩ (fun _ _ => trivial)

set_option maxHeartbeats 1000000 in
set_option maxRecDepth 100000 in
theorem copied_calls (A : Option Addr) (n c : Nat) (xs : List Int) (w : World) (hn : n = xs.length) (hC : Kd.C (Kd.int .i64) w A xs.length xs) (hc : xs.length ≤ c) (hb : xs.length ≤ 1000000000) :
    Calls Try.prog 110 #[.slice A n c] w fun e w' => ∃ v, e = .returned v ∧ Kd.R (Kd.int .i64) 3 w' w.heap.size (fun _ => True) v xs ∧ Below w.heap.size w w' := by
  subst hn
  have HC := Aside0.mk hC
  clear hC
  go_enter Try.func110, Try.ntmps110
  go_wp2_with (at_make; refine Kd.R_make (Kd.int .i64) (w0 := w) w.heap.size 3 rfl rfl 26 (.tmp 5) (.tmp 5) rfl (xs.length : Int) rfl rfl Try.underlying26 (.int .i64 0) 8 info3 rfl (by decide) (by omega) (0 : Int) (ok := fun _ => True) (okp := fun _ => False) rfl (fun _ h => h.elim) trivial (by omega) (by omega) (Below.refl _ _) (Nat.le_refl _) ?_; intro v1 w1 hR hb1 hg1 hat; obtain ⟨hlen, hv | ⟨g, cap, cur, rfl, hBg, hheap, hcap, hmax, hcur, _⟩⟩ := Kd.own_of_R hR; (exfalso; obtain ⟨rfl, _⟩ := hv; obtain ⟨b, hb2, _⟩ := hat; simp [Value.ownBlock] at hb2); simp only [List.length_replicate, Int.toNat_natCast] at hcap; obtain ⟨w2, hrun, hR2, hb2⟩ := copy_run A c cap g w.heap.size xs cur w1 (Kd.C_below HC.out hb1) hheap hBg hcap hmax hcur; have HR2 := Aside0.mk hR2; have HB2 := Aside0.mk (hb1.trans hb2); clear hR hb1 hg1 hat hlen hheap hcap hmax hcur hR2 hb2 hBg; simp only [List.length_replicate, Int.toNat_natCast])
  go_ret
  exact ⟨_, rfl, HR2.out, HB2.out⟩
end Go.Proofs.Ytdlijioedokgjaa.Q

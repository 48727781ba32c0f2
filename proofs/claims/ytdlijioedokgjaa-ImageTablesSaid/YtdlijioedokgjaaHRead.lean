import Derived.Test.YtdlijioedokgjaaHRdList
namespace Go.Proofs.Ytdlijioedokgjaa.Q
open Go.RowKit Go.Proofs.YtdlijioedokgjaaW.PrintWords Go.Proofs.YtdlijioedokgjaaW.PrintLast Go.Proofs.YtdlijioedokgjaaW.PrintMore
set_option linter.unusedVariables false
set_option linter.unusedSimpArgs false

theorem tmps126 (a b c : Value) : #[a, b] ++ ((Array.replicate 15 undef).setIfInBounds 3 c).setIfInBounds 0 c = #[a, b, c, undef, undef, c, undef, undef, undef, undef, undef, undef, undef, undef, undef, undef, undef] := rfl
set_option maxRecDepth 100000 in
theorem catch_idle (p q : Addr) (w : World) :
    CallsD Try.prog 126 #[.pointer (some p), .pointer (some q)] .returning w fun e u' w' => e = .returned (.tuple #[]) ∧ u' = .returning ∧ w' = w := by
  refine callsD_of_wpS Try.func126 rfl fun c₀ cs hu => ?_
  apply wpS_seq
  apply wpS_region
  simp [wpOpsS, go_sem, recoverD, hu, Try.ntmps126, Exit.thenS]
  refine wpS_of_wp ?_
  rw [tmps126]
  go_wp2
  cases c₀
  simp_all [bodyPostS, results, Try.results126]
set_option maxRecDepth 100000 in
theorem catch_panicking (p q : Addr) (x y : Int) (c : Int) (older : List PanicEntry) (w : World) (hc : w.cell? p = some (.int .i64 x)) (hz : w.frozen? p = false)
    (hc2 : w.cell? q = some (.int .i64 y)) (hz2 : w.frozen? q = false) (hne : p.block ≠ q.block) :
    CallsD Try.prog 126 #[.pointer (some p), .pointer (some q)] (.panicking ({ v := .iface 30 (.int .i64 c), recovered := false } :: older)) w fun e u' w' =>
      e = .returned (.tuple #[]) ∧ u' = .panicking ({ v := .iface 30 (.int .i64 c), recovered := true } :: older) ∧ w' = (w.setCell p (.int .i64 0)).setCell q (.int .i64 c) := by
  refine callsD_of_wpS Try.func126 rfl fun c₀ cs hu => ?_
  apply wpS_seq
  apply wpS_region
  simp [wpOpsS, go_sem, recoverD, hu, Try.ntmps126, Exit.thenS]
  refine wpS_of_wp ?_
  rw [tmps126]
  have hta : ∀ (v : Value) (W : World), (Instr.typeAssert (.iface 30 v) 20 30 true).run Try.prog W = .ok (.tuple #[v, .bool true]) W := fun v W => by rfl
  have hq : (w.setCell p (.int .i64 0)).cell? q = some (.int .i64 y) := (World.cell?_of_block (Below.heap_setCell w p _ _ (Ne.symm hne))).trans hc2
  have hqf : (w.setCell p (.int .i64 0)).frozen? q = false := (World.frozen?_of_block (Below.heap_setCell w p _ _ (Ne.symm hne))).trans hz2
  go_wp2
  simp [bodyPostS, results, Try.results126]

/-- The world in which image.read calls its function. -/
def readWorld (w : World) (s : ByteArray) : World := ((w.alloc (.cells #[.int .i64 0] 3)).alloc (.cells #[.int .i64 0] 30)).alloc (.cells #[.string s, .int .i64 0] 137)

set_option maxHeartbeats 2000000 in
set_option maxRecDepth 100000 in
theorem read_ok (s : ByteArray) (F : Nat) (caps : Array Value) (x : Int) (w : World) (Post : World → Prop)
    (hcf : ∀ (args : Array Value) (w : World), (callFunc F args).run Try.prog w = .ok (.enter F args) w)
    (HF : Calls Try.prog F (#[.pointer (some ⟨w.heap.size + 2, 0, none⟩)] ++ caps) (readWorld w s) fun e w2 => e = .returned (.tuple #[]) ∧ RdAt w2 (w.heap.size + 2) s x ∧ w2.heap[w.heap.size]? = some (.cells #[.int .i64 0] 3 (0, 0)) ∧ w2.heap[w.heap.size + 1]? = some (.cells #[.int .i64 0] 30 (0, 0)) ∧ Post w2) :
    Calls Try.prog 90 #[.string s, .func (.func F) #[] caps] w fun e w' => e = .returned (.tuple #[.int .i64 x, .int .i64 0]) ∧ ∃ w2, Post w2 ∧ w' = (w2.setCell ⟨w.heap.size, 0, none⟩ (.int .i64 x)).setCell ⟨w.heap.size + 1, 0, none⟩ (.int .i64 0) := by
  have hmf : ∀ (fn : Fn) (first cap : Array Value) (w : World), (Instr.makeFunc fn first cap).run Try.prog w = .ok (.func fn first cap) w := fun _ _ _ _ => rfl
  have HF' := Aside0.mk HF
  clear HF
  go_enter_defers Try.func90, Try.ntmps90
  go_wp2_with (fail)
  refine HF'.out.mono ?_
  rintro e w2 ⟨rfl, hrd, hp, hq, hpost⟩
  have c0 : w2.cell? ⟨w.heap.size + 1 + 1, 1, none⟩ = some (.int .i64 x) := blk_cell hrd 1
  have c1 : w2.cell? ⟨w.heap.size, 0, none⟩ = some (.int .i64 0) := blk_cell hp 0
  have f1 : w2.frozen? ⟨w.heap.size, 0, none⟩ = false := blk_frozen hp 0
  have c2 : w2.cell? ⟨w.heap.size + 1, 0, none⟩ = some (.int .i64 0) := blk_cell hq 0
  have f2 : w2.frozen? ⟨w.heap.size + 1, 0, none⟩ = false := blk_frozen hq 0
  go_wp2
  refine leaves_cons (f := 126) (args := #[.pointer (some ⟨w.heap.size, 0, none⟩), .pointer (some ⟨w.heap.size + 1, 0, none⟩)]) (by simp) (by simp [go_sem]) ?_
  refine (catch_idle ⟨w.heap.size, 0, none⟩ ⟨w.heap.size + 1, 0, none⟩ _).mono ?_
  rintro e u' w'' ⟨rfl, rfl, rfl⟩
  have g1 : ((w2.setCell ⟨w.heap.size, 0, none⟩ (.int .i64 x)).setCell ⟨w.heap.size + 1, 0, none⟩ (.int .i64 0)).cell? ⟨w.heap.size, 0, none⟩ = some (.int .i64 x) := by
    have h1 := blk_set hp 0 (.int .i64 x)
    exact blk_cell (blk_far h1 (p := ⟨w.heap.size + 1, 0, none⟩) (by simp) (.int .i64 0)) 0
  have g2 : ((w2.setCell ⟨w.heap.size, 0, none⟩ (.int .i64 x)).setCell ⟨w.heap.size + 1, 0, none⟩ (.int .i64 0)).cell? ⟨w.heap.size + 1, 0, none⟩ = some (.int .i64 0) := by
    have h1 := blk_far hq (p := ⟨w.heap.size, 0, none⟩) (by simp) (.int .i64 x)
    exact blk_cell (blk_set h1 0 (.int .i64 0)) 0
  simp [Leaves, settle, results, Try.results90, go_sem, g1, g2]
  exact ⟨w2, hpost, rfl⟩

set_option maxHeartbeats 2000000 in
set_option maxRecDepth 100000 in
theorem read_err (s : ByteArray) (F : Nat) (caps : Array Value) (c : Int) (w : World) (Post : World → Prop)
    (hcf : ∀ (args : Array Value) (w : World), (callFunc F args).run Try.prog w = .ok (.enter F args) w)
    (HF : Calls Try.prog F (#[.pointer (some ⟨w.heap.size + 2, 0, none⟩)] ++ caps) (readWorld w s) fun e w2 => e = .panicked [{ v := .iface 30 (.int .i64 c), recovered := false }] ∧ w2.heap[w.heap.size]? = some (.cells #[.int .i64 0] 3 (0, 0)) ∧ w2.heap[w.heap.size + 1]? = some (.cells #[.int .i64 0] 30 (0, 0)) ∧ Post w2) :
    Calls Try.prog 90 #[.string s, .func (.func F) #[] caps] w fun e w' => e = .returned (.tuple #[.int .i64 0, .int .i64 c]) ∧ ∃ w2, Post w2 ∧ w' = (w2.setCell ⟨w.heap.size, 0, none⟩ (.int .i64 0)).setCell ⟨w.heap.size + 1, 0, none⟩ (.int .i64 c) := by
  have hmf : ∀ (fn : Fn) (first cap : Array Value) (w : World), (Instr.makeFunc fn first cap).run Try.prog w = .ok (.func fn first cap) w := fun _ _ _ _ => rfl
  have HF' := Aside0.mk HF
  clear HF
  go_enter_defers Try.func90, Try.ntmps90
  go_wp2_with (fail)
  refine HF'.out.mono ?_
  rintro e w2 ⟨rfl, hp, hq, hpost⟩
  refine leaves_cons (f := 126) (args := #[.pointer (some ⟨w.heap.size, 0, none⟩), .pointer (some ⟨w.heap.size + 1, 0, none⟩)]) (by simp) (by simp [go_sem]) ?_
  refine (catch_panicking ⟨w.heap.size, 0, none⟩ ⟨w.heap.size + 1, 0, none⟩ 0 0 c [] _ (blk_cell hp 0) (blk_frozen hp 0) (blk_cell hq 0) (blk_frozen hq 0) (by simp)).mono ?_
  rintro e u' w'' ⟨rfl, rfl, rfl⟩
  have g1 : ((w2.setCell ⟨w.heap.size, 0, none⟩ (.int .i64 0)).setCell ⟨w.heap.size + 1, 0, none⟩ (.int .i64 c)).cell? ⟨w.heap.size, 0, none⟩ = some (.int .i64 0) := by
    have h1 := blk_set hp 0 (.int .i64 0)
    exact blk_cell (blk_far h1 (p := ⟨w.heap.size + 1, 0, none⟩) (by simp) (.int .i64 c)) 0
  have g2 : ((w2.setCell ⟨w.heap.size, 0, none⟩ (.int .i64 0)).setCell ⟨w.heap.size + 1, 0, none⟩ (.int .i64 c)).cell? ⟨w.heap.size + 1, 0, none⟩ = some (.int .i64 c) := by
    have h1 := blk_far hq (p := ⟨w.heap.size, 0, none⟩) (by simp) (.int .i64 0)
    exact blk_cell (blk_set h1 0 (.int .i64 c)) 0
  simp [Leaves, settle, results, Try.results90, go_sem, g1, g2]
  exact ⟨w2, hpost, rfl⟩
end Go.Proofs.Ytdlijioedokgjaa.Q

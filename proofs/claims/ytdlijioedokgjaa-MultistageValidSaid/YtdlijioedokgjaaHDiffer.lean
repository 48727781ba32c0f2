/- Several texts in one file (mergeq.py): HKey, HChunk, HDiffer. -/
import Derived.Test.YtdlijioedokgjaaHFrame
import Derived.Test.YtdlijioedokgjaaMEv
import Derived.Test.YtdlijioedokgjaaMStr
import Derived.Test.YtdlijioedokgjaaHPart
import Derived.RangeFuncWrites
import Derived.RangeFuncLeaves
import Derived.RangeFuncCalls
import Derived.Shelf.Abstract
import Derived.WalkKit
import Derived.OwnWalkIn
import Derived.TacticsInMore
import Derived.LoopNIn
import Derived.LoopIn
import Derived.Maps.OwnIn
import Derived.Sort.QuietIn
import Derived.OrdersIn
/- multistage.key by hand: the bytes of a list of numbers, eight for each. -/
namespace Go.Proofs.Ytdlijioedokgjaa.Q
open Go.RowKit Go.Proofs.YtdlijioedokgjaaW.PrintWords Go.Proofs.YtdlijioedokgjaaW.PrintLast Go.Proofs.YtdlijioedokgjaaW.PrintMore
set_option linter.unusedVariables false
set_option linter.unusedSimpArgs false

/-- The eight bytes of a number. -/
def le8 (n : Int) : List Int := [n % 256, n / 256 % 256, n / 65536 % 256, n / 16777216 % 256, n / 4294967296 % 256, n / 1099511627776 % 256, n / 281474976710656 % 256, n / 72057594037927936 % 256]
def keyB (l : List Int) : List Int := l.flatMap le8
theorem keyB_snoc (l : List Int) (x : Int) : keyB (l ++ [x]) = keyB l ++ le8 x := by simp [keyB]
theorem keyB_len (l : List Int) : (keyB l).length = 8 * l.length := by
  induction l with
  | nil => rfl
  | cons x l ih => simp only [keyB, List.flatMap_cons, List.length_append] at ih ⊢; rw [ih]; simp [le8]; omega
theorem take_next {l : List Int} {j : Int} {x : Int} (hx : l.getD j.toNat 0 = x) (h0 : 0 ≤ j) (h1 : j < l.length) : l.take (j + 1).toNat = l.take j.toNat ++ [x] := by
  rw [show (j + 1).toNat = j.toNat + 1 by omega, List.take_add_one, ← hx, List.getD_eq_getElem?_getD, List.getElem?_eq_getElem (show j.toNat < l.length by omega)]
  rfl
theorem made_row (W : World) (cs : Array Value) (cap : Nat) (hs : cs.size = cap) (hm : cap ≤ 9223372036854775807) : Kd.R (Kd.int .u8) 5 (W.alloc (.cells cs 5)) W.heap.size (fun _ => True) (.slice (some ⟨W.heap.size, 0, none⟩) 0 cap) (keyB (([] : List Int))) :=
  Kd.R_of_own (enc := Value.int .u8) (h1 := fun _ => rfl) (World.ownsRow_made W cs cap (Nat.le_refl _) (by simpa [maxLen] using hm) (by omega)) (fun _ _ => trivial)
theorem reps_bytes (W : World) (B : Nat) (ok : Nat → Prop) (l : List Int) : Reps ((Kd.int .u8).M W B ok) (Kd.int .u8).sz l (l.map (Value.int .u8)) := by
  induction l with
  | nil => exact Reps.none _ _
  | cons x l ih => exact Reps.one (show Kd.M (Kd.int .u8) _ _ _ x [.int .u8 x] from rfl) ih
set_option maxHeartbeats 4000000 in
set_option maxRecDepth 100000 in
theorem key_calls (A0 : Option Addr) (c0 : Nat) (l0 : List Int) (w : World) (hr0 : Kd.C (Kd.int .i64) w A0 l0.length l0) (hc0 : l0.length ≤ c0) (hlen : l0.length ≤ 1000000000) :
    Calls Try.prog 106 #[.slice A0 l0.length c0] w fun e w' => e = .returned (.string (strOfNums (keyB l0))) ∧ Below w.heap.size w w' := by
  have HB := Aside0.mk (Below.refl w.heap.size w)
  have HR0 := Aside0.mk hr0
  have HLN := Aside0.mk hlen
  obtain ⟨i5, hi5, hz5, hsz5, hb5⟩ := info_parts info5
  have hmk := fun (W : World) => run_make (P := Try.prog) (w := W) 70 5 i5 (.int .u8 0) Try.underlying70 hi5 hz5 .i64 .i64 0 (8 * (l0.length : Int)) (by omega) (by omega) (by rw [hb5]; omega) (by omega)
  have hw8 : wrap64 (8 * (l0.length : Int)) = 8 * (l0.length : Int) := by unfold wrap64; omega
  clear hr0
  go_enter Try.func106, Try.ntmps106
  go_wp2
  go_loopw [3, 12] (fun v3 v12 wr => ∃ j : Int, v12 = .int .i64 j ∧ Aside0 (0 ≤ j ∧ j ≤ l0.length) ∧ Aside0 (Kd.R (Kd.int .u8) 5 wr w.heap.size (fun _ => True) v3 (keyB (l0.take j.toNat))) ∧ Aside0 (Below w.heap.size w wr)) (fun _ v12 _ => ((l0.length : Int) - intOf v12).toNat)
  case atStart => exact ⟨0, rfl, ⟨by omega, by omega⟩, ⟨made_row w _ _ (by simp [madeCells]) (by omega)⟩, ⟨below_alloc (Below.refl _ _) _⟩⟩
  case round =>
    clear HB
    obtain ⟨j, rfl, HJ, HRW, HB⟩ := hrel
    by_cases hj : j < (l0.length : Int)
    · have t1 : decide (j < (l0.length : Int)) = true := decide_eq_true hj
      have t0 := HJ.out.1
      have t2 : decide (0 ≤ j) = true := decide_eq_true t0
      have b2 := eq_true t0
      have b3 := eq_true hj
      obtain ⟨ad, cs, e, hl, hK, hcell⟩ := Kd.C_get (Kd.C_below HR0.out HB.out) 0 j t0 hj
      obtain rfl := e
      obtain rfl : cs = [.int .i64 (l0.getD j.toNat 0)] := hK
      have hz := hcell 0 _ rfl
      have hz2 : wr.cell? (ad.add j.toNat) = some (.int .i64 (l0.getD j.toNat 0)) := by simpa [Kd.int, Kd.scalar] using hz
      obtain ⟨x, hx⟩ : ∃ x, l0.getD j.toNat 0 = x := ⟨_, rfl⟩
      rw [hx] at hz2
      have HX := Aside0.mk hx
      have HJ2 := Aside0.mk hj
      have hj1 : wrap64 (j + 1) = j + 1 := by unfold wrap64; omega
      clear hcell hz hl hj t0 hx
      go_wp2_with (first | ((with_reducible refine gate_dst (N := 40) rfl ?_); refine Kd.R_lit (Kd.int .u8) _ 5 ?hg (N := 40) ?hd (xs := [x % 256, x / 256 % 256, x / 65536 % 256, x / 16777216 % 256, x / 4294967296 % 256, x / 1099511627776 % 256, x / 281474976710656 % 256, x / 72057594037927936 % 256]) (inner := [.int .u8 (x % 256), .int .u8 (x / 256 % 256), .int .u8 (x / 65536 % 256), .int .u8 (x / 16777216 % 256), .int .u8 (x / 4294967296 % 256), .int .u8 (x / 1099511627776 % 256), .int .u8 (x / 281474976710656 % 256), .int .u8 (x / 72057594037927936 % 256)]) (ok := fun _ => True) (okp := fun _ => True) ?hr ?hp (fun _ hk => hk) trivial (Below.refl _ _) (Nat.le_refl _) (by simp) ?_; (case hd => rfl); (case hg => rfl); (case hr => first | (go_simp; done) | (go_simp; rfl)); (case hp => exact reps_bytes _ _ _ (le8 x)); intro v4 w4 ho hb hg hat; obtain ⟨A4, c4, e4⟩ := Kd.R_slice ho; obtain rfl : v4 = .slice A4 8 c4 := e4; have LB := Aside0.mk (show Kd.R (Kd.int .u8) 5 w4 wr.heap.size (fun _ => True) (.slice A4 8 c4) (le8 x) from ho); have N1 := Aside0.mk (Kd.R_below HRW.out hb); have N2 := Aside0.mk (below_step HB.out hb); clear HRW HB ho hb hg hat; have HRW := N1; have HB := N2; clear N1 N2) | ((with_reducible refine gate_builtin (b := .append) (xs := #[.tmp 16, .tmp 40]) rfl ?_); refine Kd.R_append_row (w0 := w) (Value.int .u8) (0 : Int) (h1 := fun _ => rfl) w.heap.size ?ag (.tmp 16) (.tmp 40) 70 5 (.int .u8 0) 1 ?ao Try.underlying70 info5 ?az (by decide) u3 (keyB (l0.take j.toNat)) (le8 x) A4 8 c4 (fun _ => True) ?av ?ax (fun _ _ => trivial) HRW.out (Kd.R_reads' LB.out).2.2 HB.out HB.out.size ?aL ?_; (case ag => rfl); (case ao => rfl); (case az => rfl); (case av => rfl); (case ax => rfl); (case aL => have h1 := HLN.out; have h2 := HJ.out; rw [keyB_len, List.length_take]; omega); intro v5 w5 ho hb hg hat))
      go_roundw
      case rel => exact ⟨j + 1, (by rw [hj1]), ⟨by have := HJ.out; omega, by have := HJ2.out; omega⟩, ⟨by rw [take_next HX.out HJ.out.1 HJ2.out, keyB_snoc]; exact ho⟩, ⟨hb⟩⟩
      case measure => simp [intOf]; have := HJ2.out; omega
    · have t1 : decide (j < (l0.length : Int)) = false := decide_eq_false hj
      obtain ⟨A3, q3, rfl⟩ := Kd.R_slice HRW.out
      have hcv := Kd.C_string (P := Try.prog) (src := 70) (dst := 9) Try.underlying70 Try.underlying5 Try.underlying9 (Kd.R_reads' HRW.out).2.2 (c := q3)
      have HJ2 := Aside0.mk hj
      clear hj
      go_wp2
      go_ret
      rw [List.take_of_length_le (by have := HJ2.out; omega)]
      exact ⟨rfl, HB.out⟩
theorem key_calls' (A0 : Option Addr) (n c0 : Nat) (l0 : List Int) (w : World) (hn : n = l0.length) (hr0 : Kd.C (Kd.int .i64) w A0 n l0) (hc0 : n ≤ c0) (hlen : n ≤ 1000000000) :
    Calls Try.prog 106 #[.slice A0 n c0] w fun e w' => e = .returned (.string (strOfNums (keyB l0))) ∧ Below w.heap.size w w' := by
  subst hn
  exact key_calls A0 c0 l0 w hr0 hc0 hlen
end Go.Proofs.Ytdlijioedokgjaa.Q
/- slices.Chunk's closure by hand: an iterator over a row's parts of one length. -/
namespace Go.Proofs.Ytdlijioedokgjaa.Q
open Go.RowKit Go.Proofs.YtdlijioedokgjaaW.PrintWords Go.Proofs.YtdlijioedokgjaaW.PrintLast Go.Proofs.YtdlijioedokgjaaW.PrintMore Go.Shelf
set_option linter.unusedVariables false
set_option linter.unusedSimpArgs false
attribute [local go_sem] max2_int min2_int max_two min_two
attribute [local go_sem] Oper.semAt_some

/-- A part's header: the k-th part of sz numbers. -/
def partV (A : Option Addr) (sz k : Nat) : Value := .slice (A.map (·.add (k * sz))) sz sz
/-- Two blocks lie as they lay. -/
def KB (s n : Nat) (W W' : World) : Prop := W'.heap[s]? = W.heap[s]? ∧ W'.heap[n]? = W.heap[n]?
theorem KB.refl (s n : Nat) (W : World) : KB s n W W := ⟨rfl, rfl⟩
theorem KB.trans {s n : Nat} {A B C : World} (h : KB s n A B) (k : KB s n B C) : KB s n A C := ⟨k.1.trans h.1, k.2.trans h.2⟩
set_option maxRecDepth 100000 in
set_option maxHeartbeats 4000000 in
theorem chunk1_in (n : Nat) (hn : 1 ≤ n) (l Bs Bn : Nat) (A : Option Addr) (len cap sz m : Nat) (hlen : len = m * sz) (hsz : 0 < sz) (hcap : len ≤ cap) (hmax : len ≤ 1000000000) (J Jx : List (Fin m) → World → Prop)
    (hY : ∀ pre (x : Fin m) W, J pre W → pre.length < m → YieldAt Fence.wide (n - 1) Try.prog l #[partV A sz x.1] W fun e W' =>
      (e = .returned (.bool true) ∧ J (pre ++ [x]) W' ∧ KB Bs Bn W W') ∨ (e = .returned (.bool false) ∧ Jx (pre ++ [x]) W'))
    (hJd : ∀ pre W d, J pre W → J pre (W.drewN d)) (W : World) (hs : W.heap[Bs]? = some (.cells #[.slice A len cap] 26 (0, 0))) (hnn : W.heap[Bn]? = some (.cells #[.int .i64 (sz : Int)] 3 (0, 0))) (h0 : J [] W) :
    CallsIn Fence.wide n Try.prog 139 #[.func (.yield l) #[] #[], .pointer (some ⟨Bs, 0, none⟩), .pointer (some ⟨Bn, 0, none⟩)] W fun e W' => (∃ v, e = .returned v) ∧
      ((∃ ys : List (Fin m), ys.map (·.1) = List.range m ∧ J ys W') ∨ (∃ pre, True ∧ Jx pre W')) := by
  refine callsIn_of_wp Try.func139 rfl trivial ?_ rfl
  simp only [Try.ntmps139, List.size_toArray, List.length_cons, List.length_nil, Nat.reduceAdd, Nat.reduceSub, Array.replicate_succ, Array.replicate_zero, List.push_toArray, List.append_toArray, List.nil_append, List.cons_append]
  gi_wp2
  gi_loopw [4] (fun i wr => ∃ (k : Nat) (pre : List (Fin m)), k ≤ m ∧ i = .int .i64 ((k * sz : Nat) : Int) ∧ pre.map (·.1) = List.range k ∧ J pre wr ∧ KB Bs Bn W wr)
    (fun i _ => len - (intOf i).toNat)
  case atStart => exact ⟨0, [], Nat.zero_le _, by simp, rfl, h0, KB.refl _ _ _⟩
  case round =>
    obtain ⟨k, pre, hk, rfl, hpre, hJs, hnx⟩ := hrel
    have cs := blk_cell (hnx.1.trans hs) 0
    have cn := blk_cell (hnx.2.trans hnn) 0
    obtain ⟨i, hi⟩ : ∃ i : Nat, i = k * sz := ⟨_, rfl⟩
    rw [← hi]
    by_cases hlt : k < m
    · have hle : i + sz ≤ len := by rw [hi, hlen]; have := Nat.mul_le_mul_right sz (show k + 1 ≤ m by omega); rw [Nat.succ_mul] at this; exact this
      have t1 : decide ((i : Int) < (len : Int)) = true := decide_eq_true (by omega)
      have hpl : pre.length = k := by have := congrArg List.length hpre; simpa using this
      obtain ⟨i3, hi3, hz3, hsz3, hb3⟩ := info_parts info3
      obtain ⟨A1, hcut1, _⟩ := print_cut (P := Try.prog) 26 3 .i64 Try.underlying26 hi3 hsz3 A len cap i (by omega)
      have g1 : ((i : Int) + (sz : Int)) ≤ cap := by omega
      have g2 : (i : Int) ≤ (i : Int) + (sz : Int) := by omega
      have g3 : (i : Int) + (sz : Int) ≤ 9223372036854775807 := by omega
      have e1 : ((i : Int) + (sz : Int)).toNat - i = sz := by omega
      have e2 : ¬ ((i : Int) + (sz : Int)).toNat = i := by omega
      have e3 : mn (sz : Int) ((len - i : Nat) : Int) = (sz : Int) := by unfold mn; split <;> omega
      gi_wp2
      gi_quiet (fail)
      obtain ⟨fn, tmps, assign, body, hy, hR⟩ := hY pre ⟨k, hlt⟩ (wr.drewN nq) (hJd _ _ _ hJs) (by omega)
      dsimp only [partV] at hy
      gi_wp2
      refine hR.mono ?_
      rintro e W3 (⟨rfl, hJ3, hk3⟩ | ⟨rfl, hJx3⟩)
      · have cn3 := blk_cell (hk3.2.trans (hnx.2.trans hnn)) 0
        gi_wp2
        go_roundw
        case rel => exact ⟨k + 1, pre ++ [⟨k, hlt⟩], by omega, by rw [Nat.succ_mul]; simp, by rw [List.map_append, hpre, List.range_succ]; rfl, hJ3, hnx.trans hk3⟩
        case measure => have hi2 : ((k : Int) * (sz : Int)).toNat = k * sz := by rw [← Int.natCast_mul]; rfl
                        have hi3' : ((k : Int) * (sz : Int) + (sz : Int)).toNat = k * sz + sz := by rw [← Int.natCast_mul]; rfl
                        simp only [intOf, hi3']
                        omega
      · gi_wp2
        refine bodyPost_ret (results_none rfl _ _ _) rfl ?_
        exact ⟨⟨_, rfl⟩, .inr ⟨pre ++ [⟨k, hlt⟩], trivial, hJx3⟩⟩
    · have hkm : k = m := by omega
      have t1 : decide ((i : Int) < (len : Int)) = false := decide_eq_false (by rw [hi, hlen, hkm]; omega)
      gi_wp2
      go_end0
      subst hkm
      exact ⟨⟨_, rfl⟩, .inl ⟨pre, hpre, hJs⟩⟩
theorem chunk_stops (n : Nat) (hn : 1 ≤ n) (Bs Bn : Nat) (A : Option Addr) (len cap sz m : Nat) (hlen : len = m * sz) (hsz : 0 < sz) (hcap : len ≤ cap) (hmax : len ≤ 1000000000) (w : World) (hBs : Bs < w.heap.size) (hBn : Bn < w.heap.size)
    (hs : w.heap[Bs]? = some (.cells #[.slice A len cap] 26 (0, 0))) (hnn : w.heap[Bn]? = some (.cells #[.int .i64 (sz : Int)] 3 (0, 0))) :
    SeqStopsK Fence.wide n Try.prog 139 #[.pointer (some ⟨Bs, 0, none⟩), .pointer (some ⟨Bn, 0, none⟩)] (fun x : Fin m => #[partV A sz x.1]) (KB Bs Bn) (fun ys => ys.map (·.1) = List.range m) (fun _ => True) m w := fun l J Jx W hW hJ _ hY h0 =>
  chunk1_in n hn l Bs Bn A len cap sz m hlen hsz hcap hmax J Jx hY (fun pre W d h => hJ pre W _ none h (by constructor <;> first | rfl | exact Nat.le_refl _ | exact fun _ _ _ => rfl) (fun r e => by cases e)) W ((hW.block _ hBs).trans hs) ((hW.block _ hBn).trans hnn) h0
set_option maxHeartbeats 1000000 in
theorem chunk_calls (A : Option Addr) (len cap sz : Nat) (hsz : 0 < sz) (w : World) :
    Calls Try.prog 129 #[.slice A len cap, .int .i64 (sz : Int)] w fun e w' => e = .returned (.func (.func 139) #[] #[.pointer (some ⟨w.heap.size, 0, none⟩), .pointer (some ⟨w.heap.size + 1, 0, none⟩)]) ∧ w' = (w.alloc (.cells #[.slice A len cap] 26)).alloc (.cells #[.int .i64 (sz : Int)] 3) := by
  have hmf : ∀ (fn : Fn) (first cap : Array Value) (w : World), (Instr.makeFunc fn first cap).run Try.prog w = .ok (.func fn first cap) w := fun _ _ _ _ => rfl
  have t1 : decide ((sz : Int) < 1) = false := decide_eq_false (by omega)
  go_enter Try.func129, Try.ntmps129
  go_wp2
  go_ret
  exact ⟨rfl, rfl⟩
end Go.Proofs.Ytdlijioedokgjaa.Q
/- multistage.differ by hand: a range over slices.Chunk, whose body writes a map. -/
namespace Go.Proofs.Ytdlijioedokgjaa.Q
open Go.RowKit Go.Proofs.YtdlijioedokgjaaW.PrintWords Go.Proofs.YtdlijioedokgjaaW.PrintLast Go.Proofs.YtdlijioedokgjaaW.PrintMore Go.Shelf
set_option linter.unusedVariables false
set_option linter.unusedSimpArgs false
attribute [local go_sem] Oper.semAt_some

/-- The k-th part of a list. -/
def partL (l : List Int) (sz k : Nat) : List Int := (l.drop (k * sz)).take sz
def keyS (l : List Int) (sz k : Nat) : ByteArray := strOfNums (keyB (partL l sz k))
def seenD {H : Type} (l : List Int) (sz : Nat) (ks : List Nat) : DataW H := ks.foldl (fun D k => D.put (.string (keyS l sz k).data.toList) (.lit (.bool true))) (.map [])
theorem seenD_snoc {H : Type} (l : List Int) (sz : Nat) (ks : List Nat) (k : Nat) : seenD (H := H) l sz (ks ++ [k]) = (seenD l sz ks).put (.string (keyS l sz k).data.toList) (.lit (.bool true)) := by simp [seenD]
theorem partL_len {l : List Int} {sz k m : Nat} (h : l.length = m * sz) (hk : k < m) : (partL l sz k).length = sz := by
  have := Nat.mul_le_mul_right sz (show k + 1 ≤ m by omega)
  rw [Nat.succ_mul] at this
  unfold partL
  rw [List.length_take, List.length_drop]; omega
theorem keyS_size {l : List Int} {sz k m : Nat} (h : l.length = m * sz) (hk : k < m) : (keyS l sz k).size = 8 * sz := by
  unfold keyS; rw [sN_size, keyB_len, partL_len h hk]
theorem C_part {A : Option Addr} {l : List Int} {w : World} (hC : Kd.C (Kd.int .i64) w A l.length l) {sz k m : Nat} (h : l.length = m * sz) (hsz : 0 < sz) (hk : k < m) : Kd.C (Kd.int .i64) w (A.map (·.add (k * sz))) sz (partL l sz k) := by
  have hle := Nat.mul_le_mul_right sz (show k + 1 ≤ m by omega)
  rw [Nat.succ_mul] at hle
  have := C_cut (s := ((k * sz : Nat) : Int)) (m := (sz : Int)) hC (by omega) (by omega) (by omega)
  simpa only [cut, partL, Int.toNat_natCast] using this
theorem putObj_ne (W : World) {l j : Nat} (o : Obj) (h : j ≠ l) : (W.putObj l o).heap[j]? = W.heap[j]? := by
  simp [World.putObj, Array.getElem?_modify, Array.getElem?_setIfInBounds, Ne.symm h, h]
theorem cell_box {W : World} {B : Nat} {v : Value} {t : TypeId} (h : W.heap[B]? = some (.cells #[v] t (0, 0))) : W.cell? ⟨B, 0, none⟩ = some v := blk_cell h 0
theorem cell_new_d (W : World) (v : Value) (t : TypeId) : (W.alloc (.cells #[v] t)).cell? ⟨W.heap.size, 0, none⟩ = some v := cell_box (World.alloc_heap_new W _)
theorem cell_alloc_d {W : World} {a : Addr} {v : Value} (o : Obj) (h : W.cell? a = some v) : (W.alloc o).cell? a = some v := cell_kept h (World.grownBy_alloc W o none) (fun r e => by cases e)
theorem owns_heap {H : Type} {W W' : World} {P : Program} {k : TypeId} {R : Value → Option (DataW H × List MemPlace)} {b n : Nat} {D : DataW H} (h : W.ownsMap P k R b n D) (e : W'.heap[b]? = W.heap[b]?) : W'.ownsMap P k R b n D := by
  obtain ⟨es, ck, hh, rest⟩ := h
  exact ⟨es, ck, e.trans hh, rest⟩
theorem any_step {F : Fence} {n : Nat} {P : Program} {ops : Array Oper} {Q : Exit → Act → World → Prop} {fuel : Nat} {listed : Array Bool} {a : Act} {w : World} (l : List Nat) (e : Region.ready .any ops listed = l) (hne : l ≠ [])
    (h : ∀ i ∈ l, wpOpIn F n P ops Q i (wpAnyIn F n P .any ops Q fuel (listed.setIfInBounds i true)) a w) : wpAnyIn F n P .any ops Q (fuel + 1) listed a w :=
  ⟨fun h' => absurd (e.symm.trans h') hne, fun i hi => h i (e ▸ hi)⟩
theorem any_one {F : Fence} {n : Nat} {P : Program} {ops : Array Oper} {Q : Exit → Act → World → Prop} {fuel : Nat} {listed : Array Bool} {a : Act} {w : World} (i : Nat) (e : Region.ready .any ops listed = [i])
    (h : wpOpIn F n P ops Q i (wpAnyIn F n P .any ops Q fuel (listed.setIfInBounds i true)) a w) : wpAnyIn F n P .any ops Q (fuel + 1) listed a w :=
  any_step [i] e (by simp) (fun j hj => by rw [List.mem_singleton.1 hj]; exact h)
theorem any_two {F : Fence} {n : Nat} {P : Program} {ops : Array Oper} {Q : Exit → Act → World → Prop} {fuel : Nat} {listed : Array Bool} {a : Act} {w : World} (i j : Nat) (e : Region.ready .any ops listed = [i, j])
    (h : wpOpIn F n P ops Q i (wpAnyIn F n P .any ops Q fuel (listed.setIfInBounds i true)) a w) (h2 : wpOpIn F n P ops Q j (wpAnyIn F n P .any ops Q fuel (listed.setIfInBounds j true)) a w) : wpAnyIn F n P .any ops Q (fuel + 1) listed a w :=
  any_step [i, j] e (by simp) (fun m hm => by rcases List.mem_cons.1 hm with h1 | h1; · rw [h1]; exact h
                                              · rw [List.mem_singleton.1 h1]; exact h2)
theorem wpOpIn_mapUpdate_own {H : Type} {F : Fence} {nF : Nat} {P : Program} {ops : Array Oper} {Q : Exit → Act → World → Prop} {i : Nat} {K0 : Act → World → Prop} {a : Act} {w : World} {o : Oper} (hi : ops[i]? = some o) (hg : Region.wanted o (yielded ops a.tmps) = true)
    (m x v : Operand) (t : TypeId) (hop : o.op = Op.mapUpdate t m x v)
    (k e : TypeId) (K : Maps.Keyed P k) (ht : P.underlying t = some (.map k e)) (R : Value → Option (DataW H × List MemPlace)) (b n : Nat) (D : DataW H)
    (hm : a.eval m = .map (some b)) (hown : w.ownsMap P k R b n D) (hn : n < maxLen) (key val : Value) (kl : Lit) (hx : a.eval x = key) (hv : a.eval v = val) (hkey : keyOf P k key = some kl)
    (d : DataW H) (ps : List MemPlace) (hval : R val = some (d, ps))
    (hK : ∀ w', w'.ownsMap P k R b (n + 1) (D.put kl d) → w.grownBy w' (some b) → K0 (a.put o.dst undef) w') : wpOpIn F nF P ops Q i K0 a w := by
  obtain ⟨w', hrun, r1, r2⟩ := hown.update K ht hn hkey hval
  unfold wpOpIn
  simp only [hi, hg, if_true]
  unfold Oper.wpIn
  refine ⟨by simp [Oper.about, hop], ?_⟩
  rw [Oper.semAt_plain F _ _ (by rw [hop]; intro c hc'; cases hc')]
  simp [execOp, hop, hm, hx, hv, hrun, Result.andThen]
  exact hK w' r1 r2
theorem part_key {A0 : Option Addr} {l0 : List Int} {sz m : Nat} {w W' : World} (hC : Kd.C (Kd.int .i64) w A0 l0.length l0) (h : l0.length = m * sz) (hsz : 0 < sz) (hmax : l0.length ≤ 1000000000) {k : Nat} (hk : k < m) (hB : Below w.heap.size w W') :
    Calls Try.prog 106 #[partV A0 sz k] W' fun e w' => e = .returned (.string (keyS l0 sz k)) ∧ Below W'.heap.size W' w' := by
  have h3 : sz ≤ m * sz := Nat.le_mul_of_pos_left _ (by omega)
  have h4 : sz ≤ 1000000000 := by omega
  have h5 := key_calls' (A0.map (·.add (k * sz))) sz sz (partL l0 sz k) W' (partL_len h hk).symm (C_part (Kd.C_below hC hB) h hsz hk) (Nat.le_refl _) h4
  unfold partV keyS
  exact h5
theorem differ_fin {B m sz : Nat} {l0 : List Int} {w W W2 W3 : World} (hw : B = w.heap.size) (WlS : Nat) (hWl : WlS = B + 4) (pre : List (Fin m)) (x : Fin m) (hlw4 : B + 4 ≤ W.heap.size) (hB : Below B w W)
    (hb2 : Below W.heap.size W.drew W2) (ho2 : W2.ownsMap Try.prog 9 (plainElem (H := Unit) Try.prog 4) B pre.length (seenD l0 sz (pre.map (fun x : Fin m => x.1)))) (ho3 : W3.ownsMap Try.prog 9 (plainElem (H := Unit) Try.prog 4) B (pre.length + 1) ((seenD l0 sz (pre.map (fun x : Fin m => x.1))).put (.string (keyS l0 sz x.1).data.toList) (.lit (.bool true)))) (hg3 : W2.grownBy W3 (some B)) (hc2 : W2.cell? ⟨B + 1, 0, none⟩ = some (.map (some B))) :
    KeepsFrom WlS W W3 ∧ KB (B + 1 + 1) (B + 1 + 1 + 1) W W3 ∧ (((W3.cell? ⟨B + 1, 0, none⟩ = some (.map (some B)) ∧ W3.ownsMap Try.prog 9 (plainElem (H := Unit) Try.prog 4) B (pre ++ [x]).length (seenD l0 sz ((pre ++ [x]).map (fun x : Fin m => x.1)))) ∧ Below B w W3) ∧ B + 4 ≤ W3.heap.size) := by
  have hbW : Below W.heap.size W W2 := ⟨hb2.os, hb2.tape, hb2.output, hb2.size, hb2.block⟩
  have hk : ∀ j, j < W.heap.size → j ≠ B → W3.heap[j]? = W.heap[j]? := fun j hj hne => (hg3.block j (Nat.lt_of_lt_of_le hj hbW.size) (fun e => by injection e with e; exact hne e)).trans (hbW.block j hj)
  have hs1 := hbW.size
  have hs2 := hg3.size
  refine ⟨⟨Nat.le_trans hbW.size hg3.size, fun j o hBj hj ho => (hk j (blk_lt hj) (by omega)).trans hj⟩, ⟨hk _ (by omega) (by omega), hk _ (by omega) (by omega)⟩, ⟨⟨?_, ?_⟩, ?_⟩, by have h1 := hbW.size; have h2 := hg3.size; omega⟩
  · obtain ⟨es, ck, hh, _⟩ := ho2
    exact cell_kept hc2 hg3 (fun r e => by cases e; exact ⟨_, hh, rfl⟩)
  · rw [List.length_append, List.length_singleton, List.map_append, List.map_singleton, seenD_snoc]; exact ho3
  · exact (hB.trans (hbW.mono (by omega))).grown hg3 (by omega) (fun k e => by cases e; omega)
theorem keyS_key {l : List Int} {sz m k : Nat} (h : l.length = m * sz) (hmax : l.length ≤ 1000000000) (hk : k < m) : keyOf Try.prog 9 (.string (keyS l sz k)) = some (.string (keyS l sz k).data.toList) := WideMaps.keyOf_string_mk Try.underlying9 (by
  rw [keyS_size h hk]
  have h3 : sz ≤ m * sz := Nat.le_mul_of_pos_left _ (by omega)
  have h4 : maxLen = 9223372036854775807 := rfl
  omega)
set_option maxRecDepth 100000 in
set_option maxHeartbeats 4000000 in
theorem differ_calls (A0 : Option Addr) (c0 : Nat) (l0 : List Int) (sz m : Nat) (w : World) (hr0 : Kd.C (Kd.int .i64) w A0 l0.length l0) (hc0 : l0.length ≤ c0) (hlen : l0.length = m * sz) (hsz : 0 < sz) (hmax : l0.length ≤ 1000000000) (b : Bool) (hb : decide (Maps.size (seenD (H := Unit) l0 sz (List.range m)) = m) = b) :
    Calls Try.prog 121 #[.slice A0 l0.length c0, .int .i64 (sz : Int)] w fun e w' => e = .returned (.bool b) ∧ Below w.heap.size w w' := by
  have hmm := @run_makeMap Try.prog
  have HLN := Aside0.mk hlen
  have HR0 := Aside0.mk hr0
  have HB := Aside0.mk hb
  have HMX := Aside0.mk hmax
  clear hlen hr0 hb hmax
  refine (callsIn_wide (n := 3)).1 ?_
  refine callsIn_of_wp_marks Try.func121 rfl trivial ?_ rfl
  simp only [Try.ntmps121, List.size_toArray, List.length_cons, List.length_nil, Nat.reduceAdd, Nat.reduceSub, Array.replicate_succ, Array.replicate_zero, List.push_toArray, List.append_toArray, List.nil_append, List.cons_append]
  gi_wp2_with (refine ⟨trivial, ?_⟩; gi_at_call 129; refine (callsIn_wide.2 (chunk_calls A0 l0.length c0 sz hsz _)).mono ?_; rintro e w' ⟨rfl, rfl⟩)
  have hm0 := World.ownsMap_made w Try.prog 9 (plainElem (H := Unit) Try.prog 4)
  have cS := cell_new_d (w.alloc (.map #[] 0)) (.map (some w.heap.size)) 150
  rw [World.size_alloc] at cS
  obtain ⟨W0, hW0⟩ : ∃ W0, (w.alloc (.map #[] 0)).alloc (.cells #[.map (some w.heap.size)] 150) = W0 := ⟨_, rfl⟩
  have hsz0 : W0.heap.size = w.heap.size + 2 := by rw [← hW0]; simp
  have hB0 : Below w.heap.size w W0 := by rw [← hW0]; exact ((Below.refl _ w).alloc (Nat.le_refl _) _).alloc (by simp) _
  have hm0 := hm0.alloc (.cells #[.map (some w.heap.size)] 150)
  rw [hW0] at cS hm0 ⊢
  have hl1 : (W0.alloc (.cells #[.slice A0 l0.length c0] 26)).heap.size = w.heap.size + 3 := by simp; omega
  have hl2 : ((W0.alloc (.cells #[.slice A0 l0.length c0] 26)).alloc (.cells #[.int .i64 (sz : Int)] 3)).heap.size = w.heap.size + 4 := by simp; omega
  have hs : ((W0.alloc (.cells #[.slice A0 l0.length c0] 26)).alloc (.cells #[.int .i64 (sz : Int)] 3)).heap[w.heap.size + 1 + 1]? = some (.cells #[.slice A0 l0.length c0] 26 (0, 0)) := by
    have := alloc_at W0 (.cells #[.slice A0 l0.length c0] 26)
    rw [hsz0] at this
    exact alloc_old this _
  have hnn : ((W0.alloc (.cells #[.slice A0 l0.length c0] 26)).alloc (.cells #[.int .i64 (sz : Int)] 3)).heap[w.heap.size + 1 + 1 + 1]? = some (.cells #[.int .i64 (sz : Int)] 3 (0, 0)) := by
    have := alloc_at (W0.alloc (.cells #[.slice A0 l0.length c0] 26)) (.cells #[.int .i64 (sz : Int)] 3)
    rw [hl1] at this
    exact this
  have hB1 : Below w.heap.size w ((W0.alloc (.cells #[.slice A0 l0.length c0] 26)).alloc (.cells #[.int .i64 (sz : Int)] 3)) := (hB0.alloc (by omega) _).alloc (by rw [hl1]; omega) _
  have cS2 := cell_alloc_d (.cells #[.int .i64 (sz : Int)] 3) (cell_alloc_d (.cells #[.slice A0 l0.length c0] 26) cS)
  have hm1 := (hm0.alloc (.cells #[.slice A0 l0.length c0] 26)).alloc (.cells #[.int .i64 (sz : Int)] 3)
  generalize (W0.alloc (.cells #[.slice A0 l0.length c0] 26)).alloc (.cells #[.int .i64 (sz : Int)] 3) = Wl at hl2 hs hnn hB1 cS2 hm1 ⊢
  refine wpIn_rangeFunc_ownG rfl (by omega) (gf := 139) (lb := #[.pointer (some ⟨w.heap.size + 1 + 1, 0, none⟩), .pointer (some ⟨w.heap.size + 1 + 1 + 1, 0, none⟩)]) rfl trivial (enters_of Try.func139 (by kernel_rfl) rfl)
    (chunk_stops 2 (by omega) (w.heap.size + 1 + 1) (w.heap.size + 1 + 1 + 1) A0 l0.length c0 sz m HLN.out hsz hc0 HMX.out Wl (by omega) (by omega) hs hnn) KB.trans
    (fun W l o o' hl ho hc hwk => ⟨putObj_ne W o' (by omega), putObj_ne W o' (by omega)⟩) (Below.refl _ _) (fun _ => rfl)
    (fun (pre : List (Fin m)) W => ((W.cell? ⟨w.heap.size + 1, 0, none⟩ = some (.map (some w.heap.size)) ∧ W.ownsMap Try.prog 9 (plainElem (H := Unit) Try.prog 4) w.heap.size pre.length (seenD l0 sz (pre.map (fun x : Fin m => x.1)))) ∧ Below w.heap.size w W) ∧ w.heap.size + 4 ≤ W.heap.size)
    (fun _ _ _ => False)
    (OwnFrom.and (OwnFrom.and (fun s A B row hs hg hr => ⟨cell_kept hs.1 hg (fun r e => (hr r e).2), hs.2.kept hg (fun e => by have := (hr _ e.symm).1; omega)⟩) (ownFrom_below (Nat.le_refl _) (by omega))) (fun s A B row hs hg hr => Nat.le_trans hs hg.size))
    (fun _ _ _ _ _ hs _ _ => hs)
    ⟨⟨⟨cS2, hm1⟩, hB1⟩, by omega⟩
    (fun x => { tmps := #[.slice A0 l0.length c0, .int .i64 (sz : Int), undef, undef, .bool false, .pointer (some ⟨w.heap.size + 1, 0, none⟩), partV A0 sz x.1, .map (some w.heap.size), .slice A0 l0.length c0, .int .i64 (sz : Int), .func (.func 139) #[] #[.pointer (some ⟨w.heap.size + 1 + 1, 0, none⟩), .pointer (some ⟨w.heap.size + 1 + 1 + 1, 0, none⟩)], partV A0 sz x.1, undef, undef, undef, undef, undef, undef, undef, undef, undef, undef], defers := [] }) ?assign ?body ?done ?stop
  case assign =>
    intro l x W K hK
    gi_wp2
    exact hK
  case body =>
    rintro l pre x W ⟨⟨⟨hc, hown⟩, hB⟩, hlw4⟩ hlt
    gi_wp2
    have hlw : w.heap.size + 2 ≤ W.heap.size := by
      have h1 := World.block_lt_of_cell? W _ hc
      show w.heap.size + 1 < W.heap.size
      exact h1
    have hpl0 : pre.length < maxLen := by
      have h1 := HMX.out
      have h2 := HLN.out
      have h3 : m ≤ m * sz := Nat.le_mul_of_pos_right _ hsz
      have h4 : maxLen = 9223372036854775807 := rfl
      omega
    have HPL := Aside0.mk hpl0
    have HKY := Aside0.mk (keyS_key HLN.out HMX.out x.2)
    have KC := Aside0.mk (fun (W' : World) (hbw : Below w.heap.size w W') => part_key HR0.out HLN.out hsz HMX.out x.2 hbw)
    have HLW := Aside0.mk hlw
    have HLW4 := Aside0.mk hlw4
    have HLT := Aside0.mk hlt
    have HOWN := Aside0.mk hown
    clear hpl0 hlw hlw4 hlt hown
    refine wpIn_region_any (by kernel_rfl) ?_
    refine any_two 0 1 (by kernel_rfl) ?_ ?_
    · unfold wpOpIn
      go_simp
      refine any_one 1 (by kernel_rfl) ?_
      unfold wpOpIn
      go_simp
      refine any_one 2 (by kernel_rfl) ?_
      unfold wpOpIn
      go_simp
      refine ⟨trivial, (CallsIn.inRound l (callsIn_wide.2 (KC.out W.drew (below_drew1 hB)))).mono ?_⟩
      rintro e W2 ⟨rfl, hb2⟩
      have hc2 : W2.cell? ⟨w.heap.size + 1, 0, none⟩ = some (.map (some w.heap.size)) := (hb2.cell (p := ⟨w.heap.size + 1, 0, none⟩) (show w.heap.size + 1 < W.heap.size by have := HLW.out; omega)).trans hc
      have hown2 := owns_heap HOWN.out (hb2.block w.heap.size (show w.heap.size < W.heap.size by have := HLW.out; omega))
      refine any_one 3 (by kernel_rfl) ?_
      refine wpOpIn_mapUpdate_own rfl rfl (.tmp 12) (.tmp 14) (.const (.bool true)) 150 rfl 9 4 (Maps.string_keyed Try.underlying9) Try.underlying150 (plainElem (H := Unit) Try.prog 4) w.heap.size pre.length _ rfl hown2 HPL.out (.string (keyS l0 sz x.1)) (.bool true) (.string (keyS l0 sz x.1).data.toList) rfl rfl HKY.out (.lit (.bool true)) [] (plainElem_bool Try.underlying4 true) ?_
      intro W3 hown3 hg3
      refine ⟨by kernel_rfl, ?_⟩
      exact differ_fin rfl _ hl2 pre x HLW4.out hB hb2 hown2 hown3 hg3 hc2
    · unfold wpOpIn
      go_simp
      refine any_two 0 2 (by kernel_rfl) ?_ ?_
      · unfold wpOpIn
        go_simp
        refine any_one 2 (by kernel_rfl) ?_
        unfold wpOpIn
        go_simp
        refine ⟨trivial, (CallsIn.inRound l (callsIn_wide.2 (KC.out W.drew (below_drew1 hB)))).mono ?_⟩
        rintro e W2 ⟨rfl, hb2⟩
        have hc2 : W2.cell? ⟨w.heap.size + 1, 0, none⟩ = some (.map (some w.heap.size)) := (hb2.cell (p := ⟨w.heap.size + 1, 0, none⟩) (show w.heap.size + 1 < W.heap.size by have := HLW.out; omega)).trans hc
        have hown2 := owns_heap HOWN.out (hb2.block w.heap.size (show w.heap.size < W.heap.size by have := HLW.out; omega))
        refine any_one 3 (by kernel_rfl) ?_
        refine wpOpIn_mapUpdate_own rfl rfl (.tmp 12) (.tmp 14) (.const (.bool true)) 150 rfl 9 4 (Maps.string_keyed Try.underlying9) Try.underlying150 (plainElem (H := Unit) Try.prog 4) w.heap.size pre.length _ rfl hown2 HPL.out (.string (keyS l0 sz x.1)) (.bool true) (.string (keyS l0 sz x.1).data.toList) rfl rfl HKY.out (.lit (.bool true)) [] (plainElem_bool Try.underlying4 true) ?_
        intro W3 hown3 hg3
        refine ⟨by kernel_rfl, ?_⟩
        exact differ_fin rfl _ hl2 pre x HLW4.out hB hb2 hown2 hown3 hg3 hc2
      · unfold wpOpIn
        go_simp
        refine ⟨trivial, (CallsIn.inRound l (callsIn_wide.2 (KC.out W.drew (below_drew1 hB)))).mono ?_⟩
        rintro e W2 ⟨rfl, hb2⟩
        have hc2 : W2.cell? ⟨w.heap.size + 1, 0, none⟩ = some (.map (some w.heap.size)) := (hb2.cell (p := ⟨w.heap.size + 1, 0, none⟩) (show w.heap.size + 1 < W.heap.size by have := HLW.out; omega)).trans hc
        have hown2 := owns_heap HOWN.out (hb2.block w.heap.size (show w.heap.size < W.heap.size by have := HLW.out; omega))
        refine any_one 0 (by kernel_rfl) ?_
        unfold wpOpIn
        go_simp
        refine any_one 3 (by kernel_rfl) ?_
        refine wpOpIn_mapUpdate_own rfl rfl (.tmp 12) (.tmp 14) (.const (.bool true)) 150 rfl 9 4 (Maps.string_keyed Try.underlying9) Try.underlying150 (plainElem (H := Unit) Try.prog 4) w.heap.size pre.length _ rfl hown2 HPL.out (.string (keyS l0 sz x.1)) (.bool true) (.string (keyS l0 sz x.1).data.toList) rfl rfl HKY.out (.lit (.bool true)) [] (plainElem_bool Try.underlying4 true) ?_
        intro W3 hown3 hg3
        refine ⟨by kernel_rfl, ?_⟩
        exact differ_fin rfl _ hl2 pre x HLW4.out hB hb2 hown2 hown3 hg3 hc2
  case done =>
    rintro D ys W hD hys ⟨⟨⟨hc, hown⟩, hB⟩, _⟩ hK
    rw [hys] at hown
    have hL : ∀ k, (Builtin.len_ #[150] 3 #[.map (some w.heap.size)]).run Try.prog (W.drewN k) = .ok (.int .i64 (Maps.size (seenD (H := Unit) l0 sz (List.range m)))) (W.drewN k) := fun k =>
      World.ownsMap.len (owns_heap (W' := W.drewN k) hown rfl) (t := 150) Try.underlying150 3
    have HB2 := Aside0.mk hB
    have HD2 := Aside0.mk hD
    have HK2 := Aside0.mk hK
    have HLL := Aside0.mk hl2
    have hnz : ((sz : Int) == 0) = false := by simp; omega
    have hquo : Int.tdiv (l0.length : Int) (sz : Int) = (m : Int) := by
      rw [HLN.out, Int.natCast_mul]; exact Int.mul_tdiv_cancel _ (by omega)
    have hmr : IntKind.i64.wrap (m : Int) = (m : Int) := by
      have h1 := HMX.out
      have h2 := HLN.out
      have h3 : m ≤ m * sz := Nat.le_mul_of_pos_right _ hsz
      exact wrap_small _ (by omega) (by omega)
    clear hB hD hK hl2 hys
    gi_wp2
    gi_quiet (fail)
    gi_wp2
    have hKn : (W.drewN nq).heap[D]? = some (Obj.deferred (some [])) := HK2.out
    have hBn : Below w.heap.size w (W.drewN nq) := ⟨HB2.out.os, HB2.out.tape, HB2.out.output, HB2.out.size, HB2.out.block⟩
    have hbv : ((Maps.size (seenD (H := Unit) l0 sz (List.range m)) : Int) == (m : Int)) = b := by
      rw [← HB.out, Bool.eq_iff_iff, beq_iff_eq, decide_eq_true_iff]; exact ⟨fun h => by exact_mod_cast h, fun h => by rw [h]⟩
    refine ⟨by simp, .inl ⟨_, _, rfl, run_takeDeferred hKn, ?_⟩⟩
    refine ⟨_, results_tmp rfl _ _ _, by rw [← hbv]; rfl, hBn.trans (belowK_b (w := w) (Nat.le_refl _) _ D _ _ (by have h1 := HD2.out; have h2 := HLL.out; omega) hKn rfl rfl)⟩
  case stop =>
    rintro D c pre W _ _ h _
    exact h.elim

/-! What it answers: whether the parts are apart. -/
def i64in (x : Int) : Bool := decide (-9223372036854775808 ≤ x ∧ x < 9223372036854775808)
def apartB (l : List Int) (sz m : Nat) : Bool := decide ((List.range m).Pairwise (fun i j => partL l sz i ≠ partL l sz j))
theorem by_bytes {a b : Int} (h1 : a % 256 = b % 256) (h2 : a / 256 = b / 256) : a = b := by omega
theorem le8_inj {x y : Int} (hx : i64in x = true) (hy : i64in y = true) (h : le8 x = le8 y) : x = y := by
  obtain ⟨x0, x1⟩ := of_decide_eq_true hx
  obtain ⟨y0, y1⟩ := of_decide_eq_true hy
  unfold le8 at h
  simp only [List.cons.injEq] at h
  obtain ⟨h0, h1, h2, h3, h4, h5, h6, h7, _⟩ := h
  have dd : ∀ z : Int, ∀ k : Int, 0 < k → z / (k * 256) = z / k / 256 := fun z k hk => (Int.ediv_ediv_of_nonneg (by omega)).symm
  have e7 : x / 72057594037927936 = y / 72057594037927936 := by
    have a1 : -128 ≤ x / 72057594037927936 := by omega
    have a2 : x / 72057594037927936 ≤ 127 := by omega
    have b1 : -128 ≤ y / 72057594037927936 := by omega
    have b2 : y / 72057594037927936 ≤ 127 := by omega
    generalize x / 72057594037927936 = p at *
    generalize y / 72057594037927936 = q at *
    omega
  have e6 : x / 281474976710656 = y / 281474976710656 := by_bytes h6 (by have a := dd x 281474976710656 (by omega); have b := dd y 281474976710656 (by omega); rw [← a, ← b]; exact e7)
  have e5 : x / 1099511627776 = y / 1099511627776 := by_bytes h5 (by have a := dd x 1099511627776 (by omega); have b := dd y 1099511627776 (by omega); rw [← a, ← b]; exact e6)
  have e4 : x / 4294967296 = y / 4294967296 := by_bytes h4 (by have a := dd x 4294967296 (by omega); have b := dd y 4294967296 (by omega); rw [← a, ← b]; exact e5)
  have e3 : x / 16777216 = y / 16777216 := by_bytes h3 (by have a := dd x 16777216 (by omega); have b := dd y 16777216 (by omega); rw [← a, ← b]; exact e4)
  have e2 : x / 65536 = y / 65536 := by_bytes h2 (by have a := dd x 65536 (by omega); have b := dd y 65536 (by omega); rw [← a, ← b]; exact e3)
  have e1 : x / 256 = y / 256 := by_bytes h1 (by have a := dd x 256 (by omega); have b := dd y 256 (by omega); rw [← a, ← b]; exact e2)
  exact by_bytes h0 e1
theorem keyB_inj : ∀ {a b : List Int}, a.all i64in = true → b.all i64in = true → a.length = b.length → keyB a = keyB b → a = b
  | [], [], _, _, _, _ => rfl
  | [], _ :: _, _, _, h, _ => by simp at h
  | _ :: _, [], _, _, h, _ => by simp at h
  | x :: a, y :: b, ha, hb, hl, h => by
    rw [List.all_cons, Bool.and_eq_true] at ha hb
    have h' : le8 x ++ keyB a = le8 y ++ keyB b := by simpa [keyB] using h
    obtain ⟨g1, g2⟩ := List.append_inj h' (by simp [le8])
    rw [le8_inj ha.1 hb.1 g1, keyB_inj ha.2 hb.2 (by simpa using hl) g2]
theorem keyB_range (l : List Int) : ∀ b ∈ keyB l, 0 ≤ b ∧ b < 256 := by
  intro b hb
  unfold keyB at hb
  obtain ⟨x, _, hx⟩ := List.mem_flatMap.1 hb
  simp only [le8, List.mem_cons, List.mem_nil_iff, or_false] at hx
  rcases hx with rfl | rfl | rfl | rfl | rfl | rfl | rfl | rfl <;> exact ⟨Int.emod_nonneg _ (by omega), Int.emod_lt_of_pos _ (by omega)⟩
theorem part_all {l : List Int} (h : l.all i64in = true) (sz k : Nat) : (partL l sz k).all i64in = true := by
  rw [List.all_eq_true] at h ⊢
  exact fun x hx => h x (List.mem_of_mem_drop (List.mem_of_mem_take hx))
def keyLit (l : List Int) (sz k : Nat) : Lit := .string (keyS l sz k).data.toList
theorem keyLit_inj {l : List Int} {sz m i j : Nat} (hl : l.length = m * sz) (ha : l.all i64in = true) (hi : i < m) (hj : j < m) : keyLit l sz i = keyLit l sz j ↔ partL l sz i = partL l sz j := by
  constructor
  · intro h
    unfold keyLit at h
    have h1 : (keyS l sz i).data.toList = (keyS l sz j).data.toList := by injection h
    have h2 : keyS l sz i = keyS l sz j := ba_ext h1
    unfold keyS at h2
    have h3 := congrArg bytesOf h2
    rw [bytesOf_sN (keyB_range _), bytesOf_sN (keyB_range _)] at h3
    exact keyB_inj (part_all ha sz i) (part_all ha sz j) ((partL_len hl hi).trans (partL_len hl hj).symm) h3
  · intro h
    unfold keyLit keyS
    rw [h]
theorem addKey_le : ∀ (xs L : List Lit), (xs.foldl Maps.addKey L).length ≤ L.length + xs.length
  | [], L => by simp
  | x :: r, L => by
    rw [List.foldl_cons]
    refine Nat.le_trans (addKey_le r _) ?_
    unfold Maps.addKey
    split <;> simp <;> omega
theorem addKey_full : ∀ (xs L : List Lit), ((xs.foldl Maps.addKey L).length = L.length + xs.length ↔ (∀ x ∈ xs, ∀ y ∈ L, y.sameKey x = false) ∧ xs.Pairwise (fun a b => a.sameKey b = false))
  | [], L => by simp
  | x :: r, L => by
    rw [List.foldl_cons, List.pairwise_cons]
    by_cases hx : L.any (fun y => y.sameKey x) = true
    · constructor
      · intro h
        have h1 := addKey_le r (Maps.addKey L x)
        have h2 : Maps.addKey L x = L := by unfold Maps.addKey; rw [if_pos hx]
        rw [h2] at h h1
        simp at h; omega
      · rintro ⟨h, _⟩
        obtain ⟨y, hy, hs⟩ := List.any_eq_true.1 hx
        rw [h x (by simp) y hy] at hs
        cases hs
    · have h2 : Maps.addKey L x = L ++ [x] := by unfold Maps.addKey; rw [if_neg hx]
      rw [h2]
      have ih := addKey_full r (L ++ [x])
      rw [List.length_append, List.length_singleton] at ih
      rw [List.length_cons, show L.length + (r.length + 1) = L.length + 1 + r.length by omega, ih]
      have hx' : ∀ y ∈ L, y.sameKey x = false := fun y hy => by
        cases h : y.sameKey x
        · rfl
        · exact absurd (List.any_eq_true.2 ⟨y, hy, h⟩) hx
      constructor
      · rintro ⟨h3, h4⟩
        refine ⟨fun z hz y hy => ?_, fun z hz => h3 z hz x (by simp), h4⟩
        rcases List.mem_cons.1 hz with rfl | hz
        · exact hx' y hy
        · exact h3 z hz y (List.mem_append_left _ hy)
      · rintro ⟨h3, h4, h5⟩
        refine ⟨fun z hz y hy => ?_, h5⟩
        rcases List.mem_append.1 hy with hy | hy
        · exact h3 z (List.mem_cons_of_mem _ hz) y hy
        · rw [List.mem_singleton.1 hy]; exact h4 z hz
theorem seen_size {l : List Int} {sz m : Nat} (hl : l.length = m * sz) (ha : l.all i64in = true) : decide (Maps.size (seenD (H := Unit) l sz (List.range m)) = m) = apartB l sz m := by
  have e : seenD (H := Unit) l sz (List.range m) = Maps.setOf (.lit (.bool true)) ((List.range m).map (keyLit l sz)) := by
    unfold seenD Maps.setOf
    rw [List.foldl_map]; rfl
  have hk : ∀ x ∈ (List.range m).map (keyLit l sz), WideAt.IsKeyLit x := fun x hx => by
    obtain ⟨k, _, rfl⟩ := List.mem_map.1 hx
    trivial
  rw [e, Maps.size_setOf _ _ hk]
  unfold apartB
  rw [Bool.eq_iff_iff, decide_eq_true_iff, decide_eq_true_iff]
  have hf := addKey_full ((List.range m).map (keyLit l sz)) []
  rw [List.length_map, List.length_range, List.length_nil, Nat.zero_add] at hf
  rw [hf]
  constructor
  · rintro ⟨_, h⟩
    rw [List.pairwise_map] at h
    refine h.imp_of_mem (fun {i j} hi hj hij e => ?_)
    rw [(keyLit_inj hl ha (List.mem_range.1 hi) (List.mem_range.1 hj)).2 e, WideAt.sameKey_self (by trivial)] at hij
    cases hij
  · intro h
    refine ⟨fun x _ y hy => by simp at hy, ?_⟩
    rw [List.pairwise_map]
    exact h.imp_of_mem (fun {i j} hi hj hij => Maps.sameKey_ne (fun e => hij ((keyLit_inj hl ha (List.mem_range.1 hi) (List.mem_range.1 hj)).1 e)))
def multistage_differ.f (l0 : List Int) (a1 : Int) : Option (Bool) := if 0 < a1 ∧ l0.length % a1.toNat = 0 ∧ l0.length ≤ 1000000000 ∧ l0.all i64in = true then some (apartB l0 a1.toNat (l0.length / a1.toNat)) else none
theorem multistage_differ.calls (A0 : Option Addr) (c0 : Nat) (l0 : List Int) (a1 : Int) (r : Bool) (w : World) (hr0 : Kd.C (Kd.int .i64) w A0 l0.length l0) (hc0 : l0.length ≤ c0) (h : multistage_differ.f l0 a1 = some r) :
    Calls Try.prog 121 #[.slice A0 l0.length c0, .int .i64 a1] w fun e w' => e = .returned (.bool r) ∧ Below w.heap.size w w' := by
  unfold multistage_differ.f at h
  split at h
  · rename_i hh
    obtain ⟨h1, h2, h3, h4⟩ := hh
    have h5 : apartB l0 a1.toNat (l0.length / a1.toNat) = r := Option.some.inj h
    have hl : l0.length = l0.length / a1.toNat * a1.toNat := by
      have := Nat.div_add_mod l0.length a1.toNat
      rw [Nat.mul_comm]; omega
    have e : (a1.toNat : Int) = a1 := by omega
    have := differ_calls A0 c0 l0 a1.toNat (l0.length / a1.toNat) w hr0 hc0 hl (by omega) h3 r (by rw [seen_size hl h4]; exact h5)
    rw [e] at this
    exact this
  · cases h
end Go.Proofs.Ytdlijioedokgjaa.Q

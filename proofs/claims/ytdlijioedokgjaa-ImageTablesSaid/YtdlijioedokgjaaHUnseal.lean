/- image.unseal by hand, over any function that says how many lists are wanted. (Printed by genunseal.py.) -/
import Derived.Test.YtdlijioedokgjaaHReadInts
import Derived.Test.YtdlijioedokgjaaMSeal
namespace Go.Proofs.Ytdlijioedokgjaa.Q
open Go.RowKit Go.Proofs.YtdlijioedokgjaaW.PrintWords Go.Proofs.YtdlijioedokgjaaW.PrintLast Go.Proofs.YtdlijioedokgjaaW.PrintMore
set_option linter.unusedVariables false
set_option linter.unusedSimpArgs false

/-- A row of rows of numbers, no two of which lead to one block. -/
abbrev LS (w : World) (B : Nat) (v : Value) (ls : List (List Int)) : Prop := Kd.S (Kd.slice 3 (Kd.int .i64)) 26 w B (fun _ => True) v ls
theorem LS.kp {W W1 : World} {B : Nat} {v : Value} {ls : List (List Int)} {S : Nat → Prop} (h : LS W B v ls) (hk : Kp S W W1) (hS : ∀ i, S i → i < B) : LS W1 B v ls :=
  Kd.S_mono (Kd.S_step (Kd.S_bound h) (fun k hk1 hlt => hk.blk k hlt (fun hs => by have := hS k hs; have := hk1.2.1; omega))) (fun _ _ => trivial)
theorem LS.below {W W1 : World} {B : Nat} {v : Value} {ls : List (List Int)} (h : LS W B v ls) (hb : Below W.heap.size W W1) : LS W1 B v ls := Kd.S_below h hb
theorem LS.form {W : World} {B : Nat} {v : Value} {ls : List (List Int)} (h : LS W B v ls) : ∃ A c, v = .slice A ls.length c := Kd.S_slice h
/-- The headers of the elements. -/
theorem LS.get {W : World} {B : Nat} {A : Option Addr} {n c : Nat} {ls : List (List Int)} (h : LS W B (.slice A n c) ls) (i : Nat) (hi : i < ls.length) :
    ∃ ad Ai ci, A = some ad ∧ W.cell? (ad.add i) = some (.slice Ai (ls.getD i []).length ci) ∧ Kd.C (Kd.int .i64) W Ai (ls.getD i []).length (ls.getD i []) ∧ (ls.getD i []).length ≤ ci := by
  obtain ⟨hn, hc, hC⟩ := Kd.S_reads' h
  obtain ⟨ad, cs, e, hl, hK, hcell⟩ := Kd.C_get hC [] (i : Int) (by omega) (by omega)
  obtain ⟨Ai, ci, rfl, hle, hCi⟩ := hK
  refine ⟨ad, Ai, ci, e, ?_, hCi, hle⟩
  have := hcell 0 _ rfl
  simpa [Kd.slice] using this
/-- The lists that are read behind the first ones: n more. -/
def rdRest (s : ByteArray) : Nat → Int → List (List Int) → Except Int (List (List Int) × Int)
  | 0, x, acc => .ok (acc, x)
  | n + 1, x, acc => match rdList s x with
    | .error c => .error c
    | .ok p => rdRest s n p.2 (acc ++ [p.1])
def rdMany (s : ByteArray) (want : List Int → Int) (x : Int) : Except Int (List (List Int) × Int) :=
  match rdList s x with
  | .error c => .error c
  | .ok p => rdRest s (want p.1 - 1).toNat p.2 [p.1]
def rdAll (s : ByteArray) (want : List Int → Int) (x : Int) : Except Int (List (List Int) × Int) :=
  match rdMany s want x with
  | .error c => .error c
  | .ok p => if p.2 < s.size then .error 2 else .ok p
/-- What is still to be read. -/
def pend (s : ByteArray) (want : List Int → Int) (ls : List (List Int)) (x : Int) : Except Int (List (List Int) × Int) :=
  match ls with
  | [] => rdMany s want x
  | l :: _ => rdRest s (want l - ls.length).toNat x ls
def kOf (want : List Int → Int) : List (List Int) → Int
  | [] => 1
  | l :: _ => want l
theorem kOf_app {want : List Int → Int} (ls : List (List Int)) (l : List Int) : kOf want (ls ++ [l]) = want ((ls ++ [l]).getD 0 []) := by cases ls <;> rfl
theorem pend_step {s : ByteArray} {want : List Int → Int} {ls : List (List Int)} {x : Int} (h : (ls.length : Int) < kOf want ls) : pend s want ls x = match rdList s x with
    | .error c => .error c
    | .ok p => pend s want (ls ++ [p.1]) p.2 := by
  cases ls with
  | nil => rfl
  | cons l ls =>
    simp only [kOf, List.length_cons] at h
    simp only [pend, List.cons_append, List.length_cons, List.length_append, List.length_nil]
    obtain ⟨n, hn⟩ : ∃ n, (want l - ((ls.length + 1 : Nat) : Int)).toNat = n + 1 := ⟨(want l - ((ls.length + 1 : Nat) : Int)).toNat - 1, by omega⟩
    rw [hn, rdRest, show (want l - ((ls.length + (0 + 1) + 1 : Nat) : Int)).toNat = n by omega]
    rfl
theorem pend_end {s : ByteArray} {want : List Int → Int} {ls : List (List Int)} {x : Int} (h : ¬ (ls.length : Int) < kOf want ls) : pend s want ls x = .ok (ls, x) := by
  cases ls with
  | nil => simp [kOf] at h
  | cons l ls =>
    simp only [kOf, List.length_cons] at h
    simp only [pend, List.length_cons]
    rw [show (want l - ((ls.length + 1 : Nat) : Int)).toNat = 0 by omega]
    rfl
/-- How many rounds are left at most. -/
def left (N : Nat) (want : List Int → Int) : List (List Int) → Nat
  | [] => N
  | l :: ls => (want l - (ls.length + 1 : Nat)).toNat + 1
theorem round_k {s : ByteArray} {want : List Int → Int} {ls : List (List Int)} {l : List Int} {k x x2 : Int} (hk : k = kOf want ls ∧ k ≤ 4000000000000) {i : Int} (hx : ls = [] → x = i) (hw0 : ∀ p, rdList s i = .ok p → want p.1 ≤ 4000000000000) (hr : rdList s x = .ok (l, x2)) : want ((ls ++ [l]).getD 0 []) = kOf want (ls ++ [l]) ∧ want ((ls ++ [l]).getD 0 []) ≤ 4000000000000 := by
  refine ⟨(kOf_app ls l).symm, ?_⟩
  cases ls with
  | nil => rw [hx rfl] at hr; exact hw0 _ hr
  | cons a t => have h1 := hk.1; have h2 := hk.2; rw [h1] at h2; exact h2
theorem round_left {s : ByteArray} {want : List Int → Int} {ls : List (List Int)} {l : List Int} {i x x2 : Int} {N k1 : Nat} (hl : left N want ls ≤ k1 + 1 ∧ (ls = [] → x = i)) (hN : ∀ p, rdList s i = .ok p → left 0 want [p.1] < N) (hr : rdList s x = .ok (l, x2)) (hlt : (ls.length : Int) < kOf want ls) : left N want (ls ++ [l]) ≤ k1 := by
  cases ls with
  | nil =>
    rw [hl.2 rfl] at hr
    have h1 := hN _ hr
    have h2 := hl.1
    simp only [left, List.nil_append] at h1 h2 ⊢
    omega
  | cons a t =>
    have h2 := hl.1
    simp only [left, kOf, List.length_cons, List.cons_append, List.length_append, List.length_nil] at h2 hlt ⊢
    omega
theorem goesP_ {P : Program} {ops : Array Oper} {Q : Exit → Act → World → Prop} {oi : Oper} {N : Option Tmp} {a : Act} {w : World} {K : Act → World → Prop} {f : FuncId} {fn : Func} {as_ : Array Operand} {ts : Array TypeId} (hf : P.funcs[f]? = some fn) (hname : (fn.name == "runtime.NumGoroutine") = false) (hb : fn.body.isSome = true) (args : Array Value)
    (hw : Region.wanted oi (yielded ops a.tmps) = true) (hop : oi.op = .call { callee := .value (.func f), args := as_, argTypes := ts }) (hargs : as_.map a.eval = args)
    (h : Calls P f args w fun e w' => ∃ c, e = .panicked c ∧ Q (.panic c) a w') : if Region.wanted oi (yielded ops a.tmps) = true then Oper.wp P oi a w K Q else K (a.put N undef) w := by
  have he := enters_ hf hname hb args w
  rw [if_pos hw]
  have hrun : (execOp a.eval oi).run P w = .ok (.enter f args) w := by
    unfold execOp
    simp [hop, resolve, Deferred.ofValue, invoke, Act.eval, hargs, he]
  unfold Oper.wp
  rw [hrun, Oper.upon_enter]
  refine h.mono fun e w'' hh => ?_
  obtain ⟨v, rfl, hk⟩ := hh
  exact hk
/-- Contract of a function that says how many lists are wanted. -/
structure Wants (F : Nat) (want : List Int → Int) : Prop where
  run : ∀ (A : Option Addr) (c : Nat) (l : List Int) (w : World), Kd.C (Kd.int .i64) w A l.length l → l.length ≤ c → Calls Try.prog F #[.slice A l.length c] w fun e w' => e = .returned (.int .i64 (want l)) ∧ ∃ m, w' = w.drewN m
  enter : ∀ (args : Array Value) (w : World), (callFunc F args).run Try.prog w = .ok (.enter F args) w
def C131Post (g h : Nat) (s : ByteArray) (w : World) (r : Except Int (List (List Int) × Int)) (e : Ending) (w' : World) : Prop :=
  match r with
  | .ok p => ∃ v, e = .returned (.tuple #[]) ∧ LS w' w.heap.size v p.1 ∧ w'.heap[h]? = some (.cells #[v] 35 (0, 0)) ∧ RdAt w' g s p.2 ∧ Kp (fun i => i = g ∨ i = h) w w'
  | .error c => e = .panicked [{ v := .iface 30 (.int .i64 c), recovered := false }] ∧ Kp (fun i => i = g ∨ i = h) w w'
def c131.T2 : Bool × List (List Nat × List Nat) := (true, [([], []), ([], []), ([1], [1]), ([2], [2]), ([0, 3, 2], [0, 3]), ([4, 4, 0, 1, 2, 3, 4], [4])])
def c131.B2 : List Nat := [0, 0, 2, 6, 15, 31]
theorem c131.tab2 : rtab .any (opsOf Try.f131 2) = c131.T2 := by kernel_rfl
theorem c131.bits2 : waitsOk c131.T2.2 c131.B2 = true := by kernel_rfl
set_option maxHeartbeats 4000000 in
set_option maxRecDepth 100000 in
theorem close131_calls (g h gw gb F : Nat) (want : List Int → Int) (s : ByteArray) (i : Int) (w : World) (HW : Wants F want) (hw0 : ∀ p, rdList s i = .ok p → want p.1 ≤ 4000000000000) (hs : s.size ≤ 1099511627776) (hb : RdAt w g s i) (hi0 : 0 ≤ i) (hi : i ≤ s.size) (hh : w.heap[h]? = some (.cells #[.slice none 0 0] 35 (0, 0)))
    (hgw : w.heap[gw]? = some (.cells #[.func (.func F) #[] #[]] 106 (0, 0))) (hgb : w.heap[gb]? = some (.cells #[.string s] 9 (0, 0))) :
    Calls Try.prog 131 #[.pointer (some ⟨g, 0, none⟩), .pointer (some ⟨h, 0, none⟩), .pointer (some ⟨gw, 0, none⟩), .pointer (some ⟨gb, 0, none⟩)] w (C131Post g h s w (rdAll s want i)) := by
  have hne : h ≠ g := by rintro rfl; rw [RdAt, hh] at hb; injection hb with hb; injection hb with _ hb _; exact absurd hb (by decide)
  have hnw : gw ≠ g ∧ gw ≠ h := by
    constructor
    · rintro rfl; rw [RdAt, hgw] at hb; injection hb with hb; injection hb with _ hb _; exact absurd hb (by decide)
    · rintro rfl; rw [hgw] at hh; injection hh with hh; injection hh with _ hh _; exact absurd hh (by decide)
  have hnb : gb ≠ g ∧ gb ≠ h := by
    constructor
    · rintro rfl; rw [RdAt, hgb] at hb; injection hb with hb; injection hb with _ hb _; exact absurd hb (by decide)
    · rintro rfl; rw [hgb] at hh; injection hh with hh; injection hh with _ hh _; exact absurd hh (by decide)
  have HN := Aside0.mk (And.intro hne (And.intro hnw hnb))
  have HS := Aside0.mk hs
  have HW0 := Aside0.mk hw0
  have HWA := Aside0.mk HW
  have HGW := Aside0.mk hgw
  have HGB := Aside0.mk hgb
  have HG := Aside0.mk (And.intro (blk_lt hb) (blk_lt hh))
  obtain ⟨R, hR⟩ : ∃ R, R = rdAll s want i := ⟨_, rfl⟩
  rw [← hR]
  have HR := Aside0.mk hR
  obtain ⟨N, hN⟩ : ∃ N : Nat, ∀ p, rdList s i = .ok p → left 0 want [p.1] < N := by
    cases hr : rdList s i with
    | error c => exact ⟨0, fun p hp => by cases hp⟩
    | ok q => exact ⟨left 0 want [q.1] + 1, fun p hp => by injection hp with hp; subst hp; omega⟩
  have HNN := Aside0.mk hN
  have st : (∃ (k x : Int) (ls : List (List Int)) (v : Value), Value.int .i64 1 = Value.int .i64 k ∧ Aside0 (LS w w.heap.size v ls) ∧ Aside0 (w.heap[h]? = some (.cells #[v] 35 (0, 0))) ∧ Aside0 (RdAt w g s x ∧ 0 ≤ x ∧ x ≤ s.size) ∧ Aside0 (Kp (fun i => i = g ∨ i = h) w w) ∧ Aside0 (k = kOf want ls ∧ k ≤ 4000000000000) ∧ Aside0 (pend s want ls x = rdMany s want i) ∧ Aside0 (left N want ls ≤ N ∧ (ls = [] → x = i))) :=
    ⟨1, i, [], _, rfl, ⟨Kd.S_nil _ _ _ _ _⟩, ⟨hh⟩, ⟨hb, hi0, hi⟩, ⟨Kp.refl _ _⟩, ⟨rfl, by omega⟩, ⟨rfl⟩, ⟨Nat.le_refl _, fun _ => rfl⟩⟩
  have ST := Aside0.mk st
  clear hne hnw hnb hs hw0 HW hgw hgb hb hi0 hi hh hR hN st
  go_enter Try.func131, Try.ntmps131
  go_wp2
  go_loopg [5] N (fun gk v5 wr => ∃ (k x : Int) (ls : List (List Int)) (v : Value), v5 = Value.int .i64 k ∧ Aside0 (LS wr w.heap.size v ls) ∧ Aside0 (wr.heap[h]? = some (.cells #[v] 35 (0, 0))) ∧ Aside0 (RdAt wr g s x ∧ 0 ≤ x ∧ x ≤ s.size) ∧ Aside0 (Kp (fun i => i = g ∨ i = h) w wr) ∧ Aside0 (k = kOf want ls ∧ k ≤ 4000000000000) ∧ Aside0 (pend s want ls x = rdMany s want i) ∧ Aside0 (left N want ls ≤ gk ∧ (ls = [] → x = i)))
  case atStart => exact ST.out
  case round =>
    clear ST
    obtain ⟨k, x, ls, v, rfl, HLS, HH, HX, HK, HKO, HP, HL⟩ := hrel
    obtain ⟨A, c, rfl⟩ := HLS.out.form
    have c0 := blk_cell HH.out 0
    by_cases hlt : (ls.length : Int) < k
    · have t1 : decide ((ls.length : Int) < k) = true := decide_eq_true hlt
      have hps := pend_step (s := s) (want := want) (ls := ls) (x := x) (by rw [← HKO.out.1]; exact hlt)
      have HC := list_calls g s x wr HS.out HX.out.1 HX.out.2.1 HX.out.2.2
      cases hr : rdList s x with
      | error cc =>
        rw [hr] at HC hps
        have HC' := Aside0.mk HC
        have HRE := Aside0.mk (show R = .error cc by rw [HR.out, rdAll, ← HP.out, hps])
        have HRRe := hr
        clear HC hps hr hlt
        go_wp2
        rename_i K9 hK9
        have HRR := Aside0.mk HRRe; clear HRRe
        have HLS := Aside0.mk (Kd.S_drew HLS.out)
        have HH := Aside0.mk (show wr.drew.heap[h]? = _ from HH.out)
        have HX := Aside0.mk (show RdAt wr.drew g s x ∧ 0 ≤ x ∧ x ≤ s.size from HX.out)
        have HK := Aside0.mk HK.out.drew
        clear c0
        refine start_ (n := 6) (S := fun w' => w'.cell? ⟨h, 0, none⟩ = some (.slice A ls.length c)) (ds := [5]) #[false, false, false, false, false, false] (by kernel_rfl) rfl rfl ((blk_cell HH.out 0)) (fun hHeld => ?_)
        refine with_tabW c131.tab2 c131.bits2 (fun HT_ HW_ => ?_)
        generalize wr.drew = w4 at HLS HH HX HK hHeld ⊢
        have c0 := blk_cell HH.out 0
        have f0 := blk_frozen HH.out 0
        refine pure_ (i := 1) (N := some 11) (v := ?_) (a' := ?_) #[false, true, false, false, false, false] rfl rfl (any_of HT_.out (by kernel_rfl)) (fun _ _ _ h => h) (Or.inl ⟨by rfl, ?_⟩) ?_ ?_
        rotate_left
        · intro w'
          go_simp
          with_reducible rfl
        rotate_left
        · simp only [Act.put, List.setIfInBounds_toArray, List.set_cons_zero, List.set_cons_succ, i64_w, i32_w]
          rfl
        refine take_ (i := 0) (N := some 10) (v := ?_) (a' := ?_) #[true, true, false, false, false, false] rfl rfl (take_ofW HT_.out HW_.out (by kernel_rfl)) (fun _ _ _ h => h) (Or.inl ⟨by rfl, ?_⟩) hHeld ?_ ?_
        rotate_left
        · intro w' s0
          go_simp
          with_reducible rfl
        rotate_left
        · simp only [Act.put, List.setIfInBounds_toArray, List.set_cons_zero, List.set_cons_succ, i64_w, i32_w]
          rfl
        refine one_ (i := 2) (N := some 12) #[true, true, true, false, false, false] rfl rfl (one_of HT_.out (by kernel_rfl)) (by decide) (fun K hK => ?_)
        refine goesP_ Try.func92 (by kernel_rfl) rfl #[.pointer (some ⟨g, 0, none⟩)] (by rfl) rfl (by simp only [List.map_toArray, List.map_cons, List.map_nil]; rfl) ?_
        refine (list_calls g s x _ HS.out HX.out.1 HX.out.2.1 HX.out.2.2).mono ?_
        intro e w5 hp
        rw [HRR.out] at hp
        obtain ⟨rfl, hk1⟩ := hp
        refine ⟨_, rfl, ?_⟩
        refine ⟨rfl, ?_⟩
        rw [HRE.out]
        exact ⟨rfl, HK.out.then_ hk1.kp (fun i hi => .inl (.inl hi))⟩
      | ok p =>
        obtain ⟨l, x2⟩ := p
        rw [hr] at hps
        have HPS := Aside0.mk hps
        have HRR := Aside0.mk hr
        have HLT := Aside0.mk hlt
        cases gk with
        | zero =>
          exfalso
          have h1 := HL.out.1
          cases ls with
          | nil =>
            have h2 := HL.out.2 rfl
            rw [h2] at hr
            have h3 := HNN.out _ hr
            simp only [left] at h1 h3
            omega
          | cons a t => simp only [left] at h1; omega
        | succ k1 =>
          clear HC hps hr hlt
          go_wp2
          rename_i K9 hK9
          have HLS := Aside0.mk (Kd.S_drew HLS.out)
          have HH := Aside0.mk (show wr.drew.heap[h]? = _ from HH.out)
          have HX := Aside0.mk (show RdAt wr.drew g s x ∧ 0 ≤ x ∧ x ≤ s.size from HX.out)
          have HK := Aside0.mk HK.out.drew
          clear c0
          refine start_ (n := 6) (S := fun w' => w'.cell? ⟨h, 0, none⟩ = some (.slice A ls.length c)) (ds := [5]) #[false, false, false, false, false, false] (by kernel_rfl) rfl rfl ((blk_cell HH.out 0)) (fun hHeld => ?_)
          refine with_tabW c131.tab2 c131.bits2 (fun HT_ HW_ => ?_)
          generalize wr.drew = w4 at HLS HH HX HK hHeld ⊢
          have c0 := blk_cell HH.out 0
          have f0 := blk_frozen HH.out 0
          refine pure_ (i := 1) (N := some 11) (v := ?_) (a' := ?_) #[false, true, false, false, false, false] rfl rfl (any_of HT_.out (by kernel_rfl)) (fun _ _ _ h => h) (Or.inl ⟨by rfl, ?_⟩) ?_ ?_
          rotate_left
          · intro w'
            go_simp
            with_reducible rfl
          rotate_left
          · simp only [Act.put, List.setIfInBounds_toArray, List.set_cons_zero, List.set_cons_succ, i64_w, i32_w]
            rfl
          refine take_ (i := 0) (N := some 10) (v := ?_) (a' := ?_) #[true, true, false, false, false, false] rfl rfl (take_ofW HT_.out HW_.out (by kernel_rfl)) (fun _ _ _ h => h) (Or.inl ⟨by rfl, ?_⟩) hHeld ?_ ?_
          rotate_left
          · intro w' s0
            go_simp
            with_reducible rfl
          rotate_left
          · simp only [Act.put, List.setIfInBounds_toArray, List.set_cons_zero, List.set_cons_succ, i64_w, i32_w]
            rfl
          refine one_ (i := 2) (N := some 12) #[true, true, true, false, false, false] rfl rfl (one_of HT_.out (by kernel_rfl)) (by decide) (fun K hK => ?_)
          refine goes_ Try.func92 (by kernel_rfl) rfl #[.pointer (some ⟨g, 0, none⟩)] (by rfl) rfl rfl (by simp only [List.map_toArray, List.map_cons, List.map_nil]; rfl) ?_
          refine (list_calls g s x _ HS.out HX.out.1 HX.out.2.1 HX.out.2.2).mono ?_
          intro e w5 hp
          rw [HRR.out] at hp
          obtain ⟨v1, rfl, hR1, hrd1, hx0, hx1, hk1⟩ := hp
          refine ⟨_, rfl, ?_⟩
          obtain ⟨A1, c1, rfl⟩ := Kd.R_slice hR1
          have HR1 := Aside0.mk hR1
          have HLTV := Aside0.mk (Kd.S_lt HLS.out)
          have HO := Aside0.mk (show Kd.S (Kd.slice 3 (Kd.int .i64)) 26 w5 w.heap.size (fun k => True ∧ ¬ w4.heap.size ≤ k) (.slice A ls.length c) ls from Kd.S_mono (Kd.S_step (Kd.S_bound HLS.out) (fun k hk hlt => hk1.kp.blk k hlt (fun e => by have := hk.2.1; have := HG.out; omega))) (fun k hk => ⟨trivial, by have := hk.2.2.1; omega⟩))
          have N1 := Aside0.mk (hk1.kp.heap HH.out HN.out.1)
          have N2 := Aside0.mk (And.intro hrd1 (And.intro hx0 hx1))
          have N3 := Aside0.mk (HK.out.then_ hk1.kp (fun i hi => .inl (.inl hi)))
          have N4 := Aside0.mk (show w.heap.size ≤ w4.heap.size from HK.out.size)
          clear HH HX HK HLS c0 f0 hR1 hrd1 hx0 hx1 hk1
          have HH := N1; have HX := N2; have HK := N3
          clear N1 N2 N3
          have c0 := blk_cell HH.out 0
          have f0 := blk_frozen HH.out 0
          refine hK.out _ _ (blk_cell HH.out 0) (fun hHeld => ?_)
          clear hK K
          refine norm_ (a' := ?_) ?_ ?_
          rotate_left
          · show Act.put _ (some 12) _ = _
            simp only [Act.put, List.setIfInBounds_toArray, List.set_cons_zero, List.set_cons_succ, i64_w, i32_w]
            rfl
          refine one_ (i := 3) (N := some 13) #[true, true, true, true, false, false] rfl rfl (one_of HT_.out (by kernel_rfl)) (by decide) (fun K hK => ?_)
          refine event_step (v := .slice (some ⟨w5.heap.size, 0, none⟩) 1 1) (w1 := w5.alloc (.cells #[.slice A1 l.length c1] 26)) (by rfl) ?hr ?_
          (case hr => first | (go_simp; done) | (go_simp; rfl))
          clear c0 f0
          refine hK.out _ _ (blk_cell (alloc_old HH.out _) 0) (fun hHeld => ?_)
          clear hK K
          refine norm_ (a' := ?_) ?_ ?_
          rotate_left
          · show Act.put _ (some 13) _ = _
            simp only [Act.put, List.setIfInBounds_toArray, List.set_cons_zero, List.set_cons_succ, i64_w, i32_w]
            rfl
          refine one_ (i := 4) (N := some 14) #[true, true, true, true, true, false] rfl rfl (one_of HT_.out (by kernel_rfl)) (by decide) (fun K hK => ?_)
          refine Kd.S_append_step (W := w5) (Kd.slice 3 (Kd.int .i64)) (w0 := w5) w.heap.size (by rfl) (.tmp 10) (.tmp 13) 35 26 (.slice none 0 0) 24 rfl Try.underlying35 info26 rfl (by decide) (by decide) (.slice A ls.length c) ls l [.slice A1 l.length c1] (fun _ => True) (fun k => w4.heap.size ≤ k) rfl rfl ?aM ?aK (fun _ _ => trivial) HO.out (Below.refl _ _) ?aS ?aL ?_
          (case aM => exact ⟨_, rfl, Kd.R_lower (Kd.R_mono (Kd.R_bound HR1.out) (fun k hk => hk.2.1)) N4.out⟩)
          (case aK => exact fun k hk => ⟨trivial, fun e => by have := HLTV.out k e.symm; omega⟩)
          (case aS => exact HK.out.size)
          (case aL => have h1 := HLT.out; have h2 := HKO.out.2; omega)
          intro v2 w6 hS2 hb2 hg2 hat2
          obtain ⟨ls2, hls2⟩ : ∃ ls2, ls2 = ls ++ [l] := ⟨_, rfl⟩
          rw [← hls2] at hS2
          have HL2 := Aside0.mk hls2
          clear hls2
          obtain ⟨A2, c2, rfl⟩ := LS.form hS2
          have N5 := Aside0.mk hS2
          have N1 := Aside0.mk ((hb2.block h HG.out.2).trans HH.out)
          have N2 := Aside0.mk (show RdAt w6 g s x2 ∧ 0 ≤ x2 ∧ x2 ≤ s.size from ⟨(hb2.block g HG.out.1).trans HX.out.1, HX.out.2⟩)
          have N3 := Aside0.mk (HK.out.grown (Nat.le_refl _) hb2)
          clear HH HX HK HO HR1 HLTV hS2 hb2 hg2 hat2 N4
          have HH := N1; have HX := N2; have HK := N3; have HLS := N5
          clear N1 N2 N3 N5
          have c0 := blk_cell HH.out 0
          have f0 := blk_frozen HH.out 0
          refine hK.out _ _ (blk_cell HH.out 0) (fun hHeld => ?_)
          clear hK K
          refine norm_ (a' := ?_) ?_ ?_
          rotate_left
          · show Act.put _ (some 14) _ = _
            simp only [Act.put, List.setIfInBounds_toArray, List.set_cons_zero, List.set_cons_succ, i64_w, i32_w]
            rfl
          refine last_ (i := 5) (N := none) #[true, true, true, true, true, true] rfl rfl (one_of HT_.out (by kernel_rfl)) (by decide) (fun K hK => ?_)
          refine skip_ (w1 := ?_) (by rfl) rfl ?_ ?_
          rotate_left
          · go_simp
            rfl
          refine hK.out _ _ ?_
          clear hK K
          refine done_ (done_of HT_.out (by kernel_rfl)) ?_
          refine hK9 _ _ ?_
          have N1 := Aside0.mk (blk_set HH.out 0 (.slice A2 ls2.length c2))
          have N5 := Aside0.mk (LS.kp HLS.out (Kp.set (Kp.refl (fun i => i = h) w6) (p := ⟨h, 0, none⟩) (.inl rfl) (.slice A2 ls2.length c2)) (fun i hi => by have := HG.out; omega))
          have N2 := Aside0.mk (show RdAt (w6.setCell ⟨h, 0, none⟩ (.slice A2 ls2.length c2)) g s x2 ∧ 0 ≤ x2 ∧ x2 ≤ s.size from ⟨(Below.heap_setCell w6 ⟨h, 0, none⟩ _ g (Ne.symm HN.out.1)).trans HX.out.1, HX.out.2⟩)
          have N3 := Aside0.mk (HK.out.set (p := ⟨h, 0, none⟩) (.inl (.inr rfl)) (.slice A2 ls2.length c2))
          clear HH HX HK HLS c0 f0
          have HH := N1; have HX := N2; have HK := N3; have HLS := N5
          clear N1 N2 N3 N5
          generalize w6.setCell ⟨h, 0, none⟩ (.slice A2 ls2.length c2) = w7 at HH HX HK HLS ⊢
          have HH := Aside0.mk (show w7.heap[h]? = some (.cells #[(.slice A2 ls2.length c2)] 35 (0, 0)) from by simpa using HH.out)
          obtain ⟨ad, Ai, ci, rfl, hz, hCi, hci⟩ := HLS.out.get 0 (by rw [HL2.out]; simp)
          obtain ⟨fs, hfs⟩ : ∃ fs, ls2.getD 0 [] = fs := ⟨_, rfl⟩
          rw [hfs] at hz hCi hci
          have HFS := Aside0.mk hfs
          have HCI := Aside0.mk (And.intro hCi hci)
          have c0 := blk_cell HH.out 0
          have c2 := blk_cell (HK.out.heap HGW.out (by have := HN.out; omega)) 0
          have t3 : decide ((0 : Int) < (ls2.length : Int)) = true := decide_eq_true (by rw [HL2.out]; simp)
          have t4 := eq_true (show 0 < ls2.length by rw [HL2.out]; simp)
          have hz2 : w7.cell? ad = some (.slice Ai fs.length ci) := by simpa [Addr.add] using hz
          have hcf := HWA.out.enter
          clear hCi hci hfs
          go_quiet (exact Calls.quiet_of (HWA.out.run _ _ _ _ (Kd.C_drewN HCI.out.1 _) HCI.out.2))
          go_wp2
          go_roundg k1
          case rel => exact ⟨want fs, x2, ls2, _, rfl, ⟨Kd.S_drewN HLS.out _⟩, ⟨HH.out⟩, ⟨HX.out⟩, ⟨HK.out.drewN _⟩, ⟨by rw [← HFS.out, HL2.out]; exact round_k HKO.out HL.out.2 HW0.out HRR.out⟩, ⟨by rw [HL2.out, ← HP.out]; exact HPS.out.symm⟩, ⟨by rw [HL2.out]; exact round_left HL.out HNN.out HRR.out (by rw [← HKO.out.1]; exact HLT.out), fun e => by rw [HL2.out] at e; simp at e⟩⟩
          case measure => exact Nat.lt_succ_self _
    · have t1 : decide ((ls.length : Int) < k) = false := decide_eq_false hlt
      have HPE := Aside0.mk (pend_end (s := s) (want := want) (ls := ls) (x := x) (by rw [← HKO.out.1]; exact hlt))
      clear hlt
      have HRE := Aside0.mk (show rdMany s want i = .ok (ls, x) by rw [← HP.out]; exact HPE.out)
      have d0 : wr.cell? ⟨g, 1, none⟩ = some (.int .i64 x) := blk_cell HX.out.1 1
      have d1 : wr.cell? ⟨gb, 0, none⟩ = some (.string s) := blk_cell (HK.out.heap HGB.out (by have := HN.out; omega)) 0
      by_cases hlast : x < (s.size : Int)
      · have t2 : decide (x < (s.size : Int)) = true := decide_eq_true hlast
        have HRF := Aside0.mk (show R = .error 2 by rw [HR.out, rdAll, HRE.out]; simp only; rw [if_pos hlast])
        clear hlast
        go_wp2
        go_quiet (fail)
        go_wp2
        refine ⟨rfl, ?_⟩
        rw [HRF.out]
        exact ⟨rfl, HK.out.drewN _⟩
      · have t2 : decide (x < (s.size : Int)) = false := decide_eq_false hlast
        have HRF := Aside0.mk (show R = .ok (ls, x) by rw [HR.out, rdAll, HRE.out]; simp only; rw [if_neg hlast])
        clear hlast
        go_wp2
        go_quiet (fail)
        go_wp2
        go_end0
        rw [HRF.out]
        exact ⟨_, rfl, Kd.S_drewN HLS.out _, HH.out, HX.out.1, HK.out.drewN _⟩
def unsealP (a0 : ByteArray) (want : List Int → Int) : Except Int (List (List Int) × Int) := if (openS a0).2 = 0 then rdAll (openS a0).1 want 0 else .error (openS a0).2
theorem callFunc131 (args : Array Value) (w : World) : (callFunc 131 args).run Try.prog w = .ok (.enter 131 args) w := enters_ Try.func131 (by kernel_rfl) rfl args w
theorem rdRest_err (s : ByteArray) : ∀ (n : Nat) (x : Int) (acc : List (List Int)) (c : Int), rdRest s n x acc = .error c → c ≠ 0 := by
  intro n
  induction n with
  | zero => intro x acc c h; simp [rdRest] at h
  | succ n ih =>
    intro x acc c h
    rw [rdRest] at h
    cases hr : rdList s x with
    | error d => rw [hr] at h; injection h with h; subst h; exact rdList_err s _ _ hr
    | ok p => rw [hr] at h; exact ih _ _ _ h
theorem rdAll_err (s : ByteArray) (want : List Int → Int) (x c : Int) (h : rdAll s want x = .error c) : c ≠ 0 := by
  rw [rdAll] at h
  cases hm : rdMany s want x with
  | error d =>
    rw [hm] at h; injection h with h; subst h
    rw [rdMany] at hm
    cases hr : rdList s x with
    | error d => rw [hr] at hm; injection hm with hm; subst hm; exact rdList_err s _ _ hr
    | ok p => rw [hr] at hm; exact rdRest_err s _ _ _ _ hm
  | ok p =>
    rw [hm] at h
    simp only at h
    split at h
    · injection h with h; omega
    · cases h
theorem rdW_facts (W : World) (s : ByteArray) : RdAt (readWorld W s) (W.heap.size + 2) s 0 ∧ (readWorld W s).heap[W.heap.size]? = some (.cells #[.int .i64 0] 3 (0, 0)) ∧ (readWorld W s).heap[W.heap.size + 1]? = some (.cells #[.int .i64 0] 30 (0, 0)) ∧ (readWorld W s).heap.size = W.heap.size + 3 ∧ (∀ (g : Nat) (o : Obj), W.heap[g]? = some o → (readWorld W s).heap[g]? = some o) ∧ Below W.heap.size W (readWorld W s) := by
  have h1 : (W.alloc (.cells #[.int .i64 0] 3)).heap.size = W.heap.size + 1 := by simp
  have h2 : ((W.alloc (.cells #[.int .i64 0] 3)).alloc (.cells #[.int .i64 0] 30)).heap.size = W.heap.size + 2 := by simp
  refine ⟨?_, ?_, ?_, by simp [readWorld], fun g o h => alloc_old (alloc_old (alloc_old h _) _) _, below_alloc (below_alloc (below_alloc (Below.refl _ _) _) _) _⟩
  · have := alloc_at ((W.alloc (.cells #[.int .i64 0] 3)).alloc (.cells #[.int .i64 0] 30)) (.cells #[.string s, .int .i64 0] 137)
    rw [h2] at this; exact this
  · exact alloc_old (alloc_old (alloc_at W _) _) _
  · have := alloc_at (W.alloc (.cells #[.int .i64 0] 3)) (.cells #[.int .i64 0] 30)
    rw [h1] at this; exact alloc_old this _
/-- What image.read answers for the closure. -/
def R90Post (bd : ByteArray) (g8 : Nat) (w4 : World) (r : Except Int (List (List Int) × Int)) (e : Ending) (w' : World) : Prop :=
  match r with
  | .ok p => ∃ v, e = .returned (.tuple #[.int .i64 p.2, .int .i64 0]) ∧ LS w' w4.heap.size v p.1 ∧ w'.heap[g8]? = some (.cells #[v] 35 (0, 0)) ∧ Kp (fun i => i = g8) w4 w'
  | .error c => e = .returned (.tuple #[.int .i64 0, .int .i64 c]) ∧ Kp (fun i => i = g8) w4 w'
theorem read131 (bd : ByteArray) (g3 g6 g8 F : Nat) (want : List Int → Int) (w4 : World) (HW : Wants F want) (hw0 : ∀ p, rdList bd 0 = .ok p → want p.1 ≤ 4000000000000) (hs : bd.size ≤ 1099511627776)
    (hh : w4.heap[g8]? = some (.cells #[.slice none 0 0] 35 (0, 0))) (hgw : w4.heap[g3]? = some (.cells #[.func (.func F) #[] #[]] 106 (0, 0))) (hgb : w4.heap[g6]? = some (.cells #[.string bd] 9 (0, 0))) :
    Calls Try.prog 90 #[.string bd, .func (.func 131) #[] #[.pointer (some ⟨g8, 0, none⟩), .pointer (some ⟨g3, 0, none⟩), .pointer (some ⟨g6, 0, none⟩)]] w4 (R90Post bd g8 w4 (rdAll bd want 0)) := by
  obtain ⟨f1, f2, f3, f4, f5, f6⟩ := rdW_facts w4 bd
  have hlt := blk_lt hh
  have HC := close131_calls (w4.heap.size + 2) g8 g3 g6 F want bd 0 (readWorld w4 bd) HW hw0 hs f1 (by omega) (by omega) (f5 _ _ hh) (f5 _ _ hgw) (f5 _ _ hgb)
  have hk0 : ∀ {W : World}, Kp (fun i => i = w4.heap.size + 2 ∨ i = g8) (readWorld w4 bd) W → Kp (fun i => i = g8) w4 W := fun hk => (Kp.of_below (S := fun i => i = g8) f6).then_ hk (fun i hi => hi.elim (fun h => .inr (by omega)) (fun h => .inl h))
  cases hr : rdAll bd want 0 with
  | error c =>
    rw [hr] at HC
    refine (read_err bd 131 #[.pointer (some ⟨g8, 0, none⟩), .pointer (some ⟨g3, 0, none⟩), .pointer (some ⟨g6, 0, none⟩)] c w4 (fun w2 => Kp (fun i => i = w4.heap.size + 2 ∨ i = g8) (readWorld w4 bd) w2) callFunc131 (HC.mono ?_)).mono ?_
    · rintro e w2 ⟨rfl, hk⟩
      exact ⟨rfl, hk.heap f2 (by omega), hk.heap f3 (by omega), hk⟩
    · rintro e w' ⟨rfl, w2, hk, rfl⟩
      exact ⟨rfl, ((hk0 hk).set (.inr (Nat.le_refl _)) _).set (.inr (by simp)) _⟩
  | ok p =>
    rw [hr] at HC
    refine (read_ok bd 131 #[.pointer (some ⟨g8, 0, none⟩), .pointer (some ⟨g3, 0, none⟩), .pointer (some ⟨g6, 0, none⟩)] p.2 w4 (fun w2 => ∃ v, LS w2 (w4.heap.size + 3) v p.1 ∧ w2.heap[g8]? = some (.cells #[v] 35 (0, 0)) ∧ Kp (fun i => i = w4.heap.size + 2 ∨ i = g8) (readWorld w4 bd) w2) callFunc131 (HC.mono ?_)).mono ?_
    · rintro e w2 ⟨v, rfl, hL, hv, hrd, hk⟩
      rw [f4] at hL
      exact ⟨rfl, hrd, hk.heap f2 (by omega), hk.heap f3 (by omega), v, hL, hv, hk⟩
    · rintro e w' ⟨rfl, w2, ⟨v, hL, hv, hk⟩, rfl⟩
      have hkk : Kp (fun i => i = w4.heap.size ∨ i = w4.heap.size + 1) w2 ((w2.setCell ⟨w4.heap.size, 0, none⟩ (.int .i64 p.2)).setCell ⟨w4.heap.size + 1, 0, none⟩ (.int .i64 0)) := ((Kp.refl _ w2).set (.inl (.inl rfl)) _).set (.inl (.inr rfl)) _
      exact ⟨v, rfl, Kd.S_lower (LS.kp hL hkk (fun i hi => by rcases hi with h | h <;> omega)) (by omega), hkk.heap hv (by omega), ((hk0 hk).set (.inr (Nat.le_refl _)) _).set (.inr (by simp)) _⟩
def UnPost (w : World) (r : Except Int (List (List Int) × Int)) (e : Ending) (w' : World) : Prop :=
  match r with
  | .ok p => ∃ v, e = .returned (.tuple #[v, .int .i64 0]) ∧ LS w' w.heap.size v p.1 ∧ Below w.heap.size w w'
  | .error c => e = .returned (.tuple #[.slice none 0 0, .int .i64 c]) ∧ c ≠ 0 ∧ Below w.heap.size w w'
set_option maxHeartbeats 4000000 in
set_option maxRecDepth 100000 in
theorem unseal_calls (a0 : ByteArray) (F : Nat) (want : List Int → Int) (w : World) (HW : Wants F want) (hw0 : ∀ s : ByteArray, s.size ≤ a0.size → ∀ p, rdList s 0 = .ok p → want p.1 ≤ 4000000000000) (hs : a0.size ≤ 1099511627776) :
    Calls Try.prog 111 #[.string a0, .func (.func F) #[] #[]] w (UnPost w (unsealP a0 want)) := by
  have hmf : ∀ (fn : Fn) (first cap : Array Value) (w : World), (Instr.makeFunc fn first cap).run Try.prog w = .ok (.func fn first cap) w := fun _ _ _ _ => rfl
  have HB := Aside0.mk (Below.refl w.heap.size w)
  obtain ⟨k, hk⟩ := (image_Open_ev a0 (by omega)).exists_
  obtain ⟨bd, ec, hO⟩ : ∃ bd ec, openS a0 = (bd, ec) := ⟨_, _, rfl⟩
  have hbs : bd.size ≤ a0.size := by
    have h1 : (openS a0).1.size ≤ a0.size := by
      unfold openS
      split
      · exact Nat.zero_le _
      · split
        · simp
        · exact Nat.zero_le _
    rw [hO] at h1; exact h1
  rw [hO] at hk
  have HO := Aside0.mk hk
  obtain ⟨R, hR⟩ : ∃ R, R = rdAll bd want 0 := ⟨_, rfl⟩
  have HRD := Aside0.mk (fun g3 g6 g8 (w4 : World) hh hgw hgb => read131 bd g3 g6 g8 F want w4 HW (hw0 bd hbs) (by omega) hh hgw hgb)
  rw [← hR] at HRD
  obtain ⟨U, hU⟩ : ∃ U, U = unsealP a0 want := ⟨_, rfl⟩
  rw [← hU]
  by_cases he : ec = 0
  · have HU := Aside0.mk (show U = R by rw [hU, unsealP, hO, hR]; simp only; rw [if_pos he])
    subst he
    cases R with
    | error c =>
      have hc0 := rdAll_err bd want 0 c hR.symm
      have t1 : (c != 0) = true := by simp [hc0]
      have HC0 := Aside0.mk hc0
      clear hk hO hbs hR hU hs hw0 HW hc0
      go_enter Try.func111, Try.ntmps111
      go_wp2_with (first | ((with_reducible refine gate_dst (N := 3) rfl ?_); refine box_event ?hg (N := 3) ?hd (cs := #[.func (.func F) #[] #[]]) (t := 106) ?hr ?_; (case hd => rfl); (case hg => rfl); (case hr => first | (go_simp; done) | (go_simp; rfl)); intro g3 hg w1 hbox hb; have BKW := Aside0.mk hbox; have EG3 := Aside0.mk (show w.heap.size ≤ g3 by omega); have N_ := Aside0.mk (below_step HB.out hb); clear HB; have HB := N_; clear N_; clear hg hbox hb) | (go_at_call 62; refine (image_Open.calls k a0 bd _ _ HO.out).mono ?_; rintro e w2 ⟨rfl, hb⟩; have N_ := Aside0.mk (blk_below BKW.out hb); clear BKW; have BKW := N_; clear N_; have N_ := Aside0.mk (below_step HB.out hb); clear HB; have HB := N_; clear N_; clear hb) | ((with_reducible refine gate_dst (N := 6) rfl ?_); refine box_event ?hg (N := 6) ?hd (cs := #[.string ⟨#[]⟩]) (t := 9) ?hr ?_; (case hd => rfl); (case hg => rfl); (case hr => first | (go_simp; done) | (go_simp; rfl)); intro g6 hg w3 hbox hb; have BKB := Aside0.mk hbox; have EG6 := Aside0.mk (show w.heap.size ≤ g6 by have := HB.out.size; omega); have NE := Aside0.mk (show g3 ≠ g6 by have := blk_lt BKW.out; omega); have N_ := Aside0.mk (blk_below BKW.out hb); clear BKW; have BKW := N_; clear N_; have N_ := Aside0.mk (below_step HB.out hb); clear HB; have HB := N_; clear N_; have c6 := blk_cell BKB.out 0; have f6 := blk_frozen BKB.out 0; clear hg hbox hb) | ((with_reducible refine gate_dst (N := 8) rfl ?_); refine box_event ?hg (N := 8) ?hd (cs := #[.slice none 0 0]) (t := 35) ?hr ?_; (case hd => rfl); (case hg => rfl); (case hr => first | (go_simp; done) | (go_simp; rfl)); intro g8 hg w4 hbox hb; have BKO := Aside0.mk hbox; have EG8 := Aside0.mk (show w.heap.size ≤ g8 by have h1 := (below_set (j := 0) (v := .string bd) HB.out EG6.out).size; omega); have N1 := Aside0.mk (blk_below (blk_set BKB.out 0 (.string bd)) hb); have N2 := Aside0.mk (blk_below (blk_far BKW.out (p := ⟨g6, 0, none⟩) NE.out (.string bd)) hb); have N3 := Aside0.mk (below_step (below_set (j := 0) (v := .string bd) HB.out EG6.out) hb); clear BKB BKW HB c6 f6; have BKB := Aside0.mk (show w4.heap[g6]? = some (.cells #[.string bd] 9 (0, 0)) from by simpa using N1.out); have BKW := N2; have HB := N3; clear N1 N2 N3; have c6 := blk_cell BKB.out 0; clear hg hbox hb) | (go_at_call 90; refine (HRD.out _ _ _ _ BKO.out BKW.out BKB.out).mono ?_; rintro e w5 ⟨rfl, hk5⟩))
      go_ret2
      rw [HU.out]
      exact ⟨rfl, HC0.out, ((Kp.of_below (S := fun i => w.heap.size ≤ i) HB.out).then_ hk5 (fun i hi => .inl (by rw [hi]; exact EG8.out))).to_below (Nat.le_refl _) (fun _ h => h)⟩
    | ok p =>
      obtain ⟨ls, x⟩ := p
      clear hk hO hbs hR hU hs hw0 HW
      go_enter Try.func111, Try.ntmps111
      go_wp2_with (first | ((with_reducible refine gate_dst (N := 3) rfl ?_); refine box_event ?hg (N := 3) ?hd (cs := #[.func (.func F) #[] #[]]) (t := 106) ?hr ?_; (case hd => rfl); (case hg => rfl); (case hr => first | (go_simp; done) | (go_simp; rfl)); intro g3 hg w1 hbox hb; have BKW := Aside0.mk hbox; have EG3 := Aside0.mk (show w.heap.size ≤ g3 by omega); have N_ := Aside0.mk (below_step HB.out hb); clear HB; have HB := N_; clear N_; clear hg hbox hb) | (go_at_call 62; refine (image_Open.calls k a0 bd _ _ HO.out).mono ?_; rintro e w2 ⟨rfl, hb⟩; have N_ := Aside0.mk (blk_below BKW.out hb); clear BKW; have BKW := N_; clear N_; have N_ := Aside0.mk (below_step HB.out hb); clear HB; have HB := N_; clear N_; clear hb) | ((with_reducible refine gate_dst (N := 6) rfl ?_); refine box_event ?hg (N := 6) ?hd (cs := #[.string ⟨#[]⟩]) (t := 9) ?hr ?_; (case hd => rfl); (case hg => rfl); (case hr => first | (go_simp; done) | (go_simp; rfl)); intro g6 hg w3 hbox hb; have BKB := Aside0.mk hbox; have EG6 := Aside0.mk (show w.heap.size ≤ g6 by have := HB.out.size; omega); have NE := Aside0.mk (show g3 ≠ g6 by have := blk_lt BKW.out; omega); have N_ := Aside0.mk (blk_below BKW.out hb); clear BKW; have BKW := N_; clear N_; have N_ := Aside0.mk (below_step HB.out hb); clear HB; have HB := N_; clear N_; have c6 := blk_cell BKB.out 0; have f6 := blk_frozen BKB.out 0; clear hg hbox hb) | ((with_reducible refine gate_dst (N := 8) rfl ?_); refine box_event ?hg (N := 8) ?hd (cs := #[.slice none 0 0]) (t := 35) ?hr ?_; (case hd => rfl); (case hg => rfl); (case hr => first | (go_simp; done) | (go_simp; rfl)); intro g8 hg w4 hbox hb; have BKO := Aside0.mk hbox; have EG8 := Aside0.mk (show w.heap.size ≤ g8 by have h1 := (below_set (j := 0) (v := .string bd) HB.out EG6.out).size; omega); have N1 := Aside0.mk (blk_below (blk_set BKB.out 0 (.string bd)) hb); have N2 := Aside0.mk (blk_below (blk_far BKW.out (p := ⟨g6, 0, none⟩) NE.out (.string bd)) hb); have N3 := Aside0.mk (below_step (below_set (j := 0) (v := .string bd) HB.out EG6.out) hb); clear BKB BKW HB c6 f6; have BKB := Aside0.mk (show w4.heap[g6]? = some (.cells #[.string bd] 9 (0, 0)) from by simpa using N1.out); have BKW := N2; have HB := N3; clear N1 N2 N3; have c6 := blk_cell BKB.out 0; clear hg hbox hb) | (go_at_call 90; refine (HRD.out _ _ _ _ BKO.out BKW.out BKB.out).mono ?_; rintro e w5 ⟨v, rfl, hL, hv, hk5⟩; obtain ⟨A, c, rfl⟩ := LS.form hL; have HL := Aside0.mk hL; have HK5 := Aside0.mk hk5; have c8 := blk_cell hv 0; clear hL hk5 hv))
      go_ret2
      rw [HU.out]
      exact ⟨_, rfl, Kd.S_lower HL.out HB.out.size, ((Kp.of_below (S := fun i => w.heap.size ≤ i) HB.out).then_ HK5.out (fun i hi => .inl (by rw [hi]; exact EG8.out))).to_below (Nat.le_refl _) (fun _ h => h)⟩
  · have HU := Aside0.mk (show U = .error ec by rw [hU, unsealP, hO]; simp only; rw [if_neg he])
    have t1 : (ec != 0) = true := by simp [he]
    have HE := Aside0.mk he
    clear hk hO hbs hR hU hs hw0 HW he
    go_enter Try.func111, Try.ntmps111
    go_wp2_with (first | ((with_reducible refine gate_dst (N := 3) rfl ?_); refine box_event ?hg (N := 3) ?hd (cs := #[.func (.func F) #[] #[]]) (t := 106) ?hr ?_; (case hd => rfl); (case hg => rfl); (case hr => first | (go_simp; done) | (go_simp; rfl)); intro g3 hg w1 hbox hb; have BKW := Aside0.mk hbox; have EG3 := Aside0.mk (show w.heap.size ≤ g3 by omega); have N_ := Aside0.mk (below_step HB.out hb); clear HB; have HB := N_; clear N_; clear hg hbox hb) | (go_at_call 62; refine (image_Open.calls k a0 bd _ _ HO.out).mono ?_; rintro e w2 ⟨rfl, hb⟩; have N_ := Aside0.mk (blk_below BKW.out hb); clear BKW; have BKW := N_; clear N_; have N_ := Aside0.mk (below_step HB.out hb); clear HB; have HB := N_; clear N_; clear hb) | ((with_reducible refine gate_dst (N := 6) rfl ?_); refine box_event ?hg (N := 6) ?hd (cs := #[.string ⟨#[]⟩]) (t := 9) ?hr ?_; (case hd => rfl); (case hg => rfl); (case hr => first | (go_simp; done) | (go_simp; rfl)); intro g6 hg w3 hbox hb; have BKB := Aside0.mk hbox; have EG6 := Aside0.mk (show w.heap.size ≤ g6 by have := HB.out.size; omega); have NE := Aside0.mk (show g3 ≠ g6 by have := blk_lt BKW.out; omega); have N_ := Aside0.mk (blk_below BKW.out hb); clear BKW; have BKW := N_; clear N_; have N_ := Aside0.mk (below_step HB.out hb); clear HB; have HB := N_; clear N_; have c6 := blk_cell BKB.out 0; have f6 := blk_frozen BKB.out 0; clear hg hbox hb))
    go_ret2
    rw [HU.out]
    exact ⟨rfl, HE.out, below_set HB.out EG6.out⟩
end Go.Proofs.Ytdlijioedokgjaa.Q

/- multistage.Build by hand. (Printed by genbuild.py.) -/
import Derived.Test.YtdlijioedokgjaaHBuildB
namespace Go.Proofs.Ytdlijioedokgjaa.Q
open Go.RowKit Go.Proofs.YtdlijioedokgjaaW.PrintWords Go.Proofs.YtdlijioedokgjaaW.PrintLast Go.Proofs.YtdlijioedokgjaaW.PrintMore
set_option linter.unusedVariables false
set_option linter.unusedSimpArgs false

def b50.T5 : Bool × List (List Nat × List Nat) := (true, [([], []), ([0], [0]), ([], []), ([2], [2]), ([3, 3], [3]), ([1, 4], [1, 4]), ([], []), ([6, 5, 1, 0, 1, 2, 3, 4, 5, 6], [5, 6])])
def b50.B5 : List Nat := [0, 1, 0, 4, 12, 31, 0, 127]
theorem b50.tab5 : rtab .any (opsOf Try.f50 5) = b50.T5 := by kernel_rfl
theorem b50.bits5 : waitsOk b50.T5.2 b50.B5 = true := by kernel_rfl
def b50.T18 : Bool × List (List Nat × List Nat) := (true, [([], []), ([0], [0]), ([], []), ([], []), ([], []), ([4], [4]), ([2, 3, 5], [2, 3, 5]), ([1, 0, 1, 2, 3, 4, 5, 6], [1]), ([7, 6, 6, 0, 1, 2, 3, 4, 5, 6], [6, 7])])
def b50.B18 : List Nat := [0, 1, 0, 0, 0, 16, 60, 127, 255]
theorem b50.tab18 : rtab .any (opsOf Try.f50 18) = b50.T18 := by kernel_rfl
theorem b50.bits18 : waitsOk b50.T18.2 b50.B18 = true := by kernel_rfl
set_option maxHeartbeats 8000000 in
set_option maxRecDepth 100000 in
theorem build_ok (k : Nat) (A0 : Option Addr) (c0 : Nat) (l : List S98) (A1 : Option Addr) (c1 : Nat) (W : List Int) (w : World) (hr0 : Kd.C k98 w A0 l.length l) (hc0 : l.length ≤ c0) (hr1 : Kd.C (Kd.int .i64) w A1 W.length W) (hc1 : W.length ≤ c1) (hck : multistage_Check.f k l W = some 0) (hsp : SpansOk l) (hW : bitsP W ≠ 0) (hv : ∀ a b, i64in (unifP l a b).1 = true) :
    Calls Try.prog 50 #[.slice A0 l.length c0, .slice A1 W.length c1] w (BuildPost l W w) := by
  have hu46 := Try.underlying46
  have HCK := Aside0.mk (fun W' hb => multistage_Check.calls k A0 c0 l A1 c1 W 0 W' (Kd.C_below hr0 hb) hc0 (Kd.C_below hr1 hb) hc1 hck)
  have hn3 := (bitsP_ne hW).2.1
  have HA := Aside0.mk (And.intro hr0 (And.intro hr1 (And.intro hc0 hc1)))
  have HB := Aside0.mk (And.intro hsp (And.intro hW (And.intro hv hn3)))
  obtain ⟨n1, hn1⟩ : ∃ n1, n1 = W.length + 1 := ⟨_, rfl⟩
  have hadd : wrap64 ((W.length : Int) + 1) = (n1 : Int) := by rw [hn1]; exact w_add1 W.length (by omega)
  have HN1 := Aside0.mk hn1
  have n1p := eq_true (show 0 < n1 by omega)
  have hmk35 := make35 n1 (by omega)
  have hmk109 := make109 n1 (by omega)
  have hmk110 := make110 n1 (by omega)
  have hmf : ∀ (fn : Fn) (first cap : Array Value) (w : World), (Instr.makeFunc fn first cap).run Try.prog w = .ok (.func fn first cap) w := fun _ _ _ _ => rfl
  have hmkm : ∀ (t : TypeId) (W : World), (Instr.makeMap t none).run Try.prog W = .ok (.map (some W.heap.size)) (W.alloc (.map #[] 0)) := fun t W => run_makeMap t W
  obtain ⟨kb, hkb⟩ := (bits_ev W).exists_
  have HBT := Aside0.mk (fun W' hb => multistage_bits.calls kb A1 c1 W (bitsP W) W' (Kd.C_below hr1 hb) hc1 hkb)
  obtain ⟨z, many, bw, hbw, wp1, wp2, wp3, hshl, hq, hz0, hwm, hz, hmany, hz3, hz4, hz5⟩ := nums50 hW
  have HZ := Aside0.mk (And.intro hz (And.intro hmany (And.intro hz3 (And.intro hz4 hz5))))
  rw [← hbw] at HBT
  have hws := (bitsP_ne hW).2.2.1
  have hCTX := fun (b0 m gn : Nat) (At : Option Addr) (ct gt bt : Nat) => (show Ctx (layOf A0 c0 l A1 c1 W w.heap.size b0 m gn At ct gt bt) w from ⟨hsp, hr0, hc0, hr1, hc1, hws, hn3, fun a b => hv _ _⟩)
  have HCTX := Aside0.mk hCTX
  clear hr0 hr1 hck hsp hW hv hn3 hc0 hc1 hn1 hkb hz3 hz4 hz5 hz hmany hbw hws hCTX
  go_enter Try.func50, Try.ntmps50
  go_wp2_with (go_at_call 72; refine (HCK.out _ (by repeat (first | exact Below.refl _ _ | apply below_alloc))).mono ?_; rintro x w2 ⟨rfl, hb2⟩; obtain ⟨p1, p2⟩ := ph0 hb2; have c3 : w2.cell? ⟨w.heap.size + 1, 0, none⟩ = some (.slice A1 W.length c1) := blk_cell p1.f2 0)
  rename_i K9 hK9
  have HP4 := Aside0.mk (ph1 p1 p2)
  generalize w2.alloc (.cells #[.int .i64 (W.length : Int)] 3) = w4 at HP4 ⊢
  generalize w2.heap.size = gn at HP4 ⊢
  clear p1 p2 hb2 c3
  have hREST : ∀ (At : Option Addr) (ct gt bt : Nat) (w8 : World), Ph2 A0 c0 l A1 c1 W w w8 gn At ct gt bt n1 → K9 { tmps := ((.slice A0 l.length c0 : Value) :: .slice A1 W.length c1 :: .pointer (some ⟨w.heap.size, 0, none⟩) :: .pointer (some ⟨w.heap.size + 1, 0, none⟩) :: .pointer (some ⟨w.heap.size + 1 + 1, 0, none⟩) :: .int .i64 0 :: .int .i64 0 :: .pointer (some ⟨gn, 0, none⟩) :: .pointer (some ⟨bt, 0, none⟩) :: undef :: undef :: undef :: undef :: undef :: undef :: .slice A0 l.length c0 :: .slice A1 W.length c1 :: .int .i64 0 :: .int .i64 0 :: .bool false :: undef :: undef :: .slice A1 W.length c1 :: .int .i64 (W.length : Int) :: .slice A1 W.length c1 :: .slice At W.length ct :: .int .i64 (W.length : Int) :: .int .i64 (wrap64 ((W.length : Int) + 1)) :: .slice (some ⟨gt, 0, none⟩) n1 n1 :: .agg #[.slice At W.length ct, .slice (some ⟨gt, 0, none⟩) n1 n1] :: undef :: undef :: undef :: undef :: undef :: undef :: undef :: undef :: undef :: undef :: undef :: undef :: undef :: undef :: undef :: undef :: undef :: undef :: undef :: undef :: undef :: undef :: undef :: undef :: undef :: undef :: undef :: undef :: undef :: undef :: undef :: undef :: undef :: undef :: []).toArray, defers := [] } w8 := by
    intro At ct gt bt w8 HP
    refine hK9 _ _ ?_
    clear hK9 K9 HP4
    have cn0 : w8.cell? ⟨gn, 0, none⟩ = some (.int .i64 (W.length : Int)) := blk_cell HP.p.f4 0
    have cn2 : ∀ o o', ((w8.alloc o).alloc o').cell? ⟨gn, 0, none⟩ = some (.int .i64 (W.length : Int)) := fun o o' => blk_cell (alloc_old (alloc_old HP.p.f4 o) o') 0
    have HP3 := Aside0.mk (ph3_start HP)
    have cs9 := blk_cell HP3.out.s 0
    have HP2 := Aside0.mk HP
    clear HP
    go_wp2
    obtain ⟨b0, hb0⟩ : ∃ b0, b0 = w8.heap.size := ⟨_, rfl⟩
    rw [← hb0] at HP3 ⊢
    have HB0 := Aside0.mk hb0
    clear hb0
    go_loopw [38] (fun v38 wr => ∃ i : Nat, v38 = .int .i64 (i : Int) ∧ Aside0 (i ≤ n1) ∧ Aside0 (Ph3 A0 c0 l A1 c1 W w b0 wr gn At ct gt bt n1 i)) (fun v38 _ => n1 - (intOf v38).toNat)
    case atStart => exact ⟨0, rfl, ⟨Nat.zero_le _⟩, HP3⟩
    case round =>
      clear HP3 cs9 cn0 cn2
      obtain ⟨i, rfl, HI, HP3⟩ := hrel
      by_cases hlt : i < n1
      · have k1 := eq_true hlt
        have k2 : decide ((0 : Int) ≤ (i : Int)) = true := decide_eq_true (Int.natCast_nonneg i)
        have k3 := eq_true (Int.ofNat_lt.2 hlt)
        have k4 : decide (i < n1) = true := decide_eq_true hlt
        have m3 := w_add1 i (by have := HN1.out; have := HB.out.2.2.2; omega)
        obtain ⟨x1, x2, x3, x4, x5, x6⟩ := HP3.out.mid hlt
        have hs := HP3.out.step hlt
        have HS := Aside0.mk hs
        have HLT := Aside0.mk hlt
        clear hs hlt
        go_wp2
        go_roundw
        case rel => exact ⟨i + 1, (by rw [m3]), ⟨HLT.out⟩, HS⟩
        case measure =>
          rw [m3]
          exact blk_meas HLT.out
      · have t1 : decide (i < n1) = false := decide_eq_false hlt
        have HEQ := Aside0.mk (Nat.le_antisymm HI.out (Nat.le_of_not_lt hlt))
        clear hlt
        have hh := HP3.out
        rw [HEQ.out] at hh
        have c3y : ∀ o o', ((wr.alloc o).alloc o').cell? ⟨w.heap.size + 1, 0, none⟩ = some (.slice A1 W.length c1) := fun o o' => blk_cell (alloc_old (alloc_old hh.p.p.f2 o) o') 0
        have HBW := Aside0.mk (fun o o' => (below_alloc (below_alloc hh.p.p.bel o) o' : Below w.heap.size w ((wr.alloc o).alloc o')))
        have HH := Aside0.mk hh
        clear hh HP3 HI
        go_wp2_with (go_at_call 99; refine (HBT.out _ (HBW.out _ _)).mono ?_; rintro e w9 ⟨rfl, hd⟩)
        rename_i K9 hK9
        have hb9 := drawn_below hd
        have HP5 := Aside0.mk (ph5_of HH.out HN1.out hb9)
        clear hd hb9 c3y HBW HH
        generalize wr.heap.size = bm at HP5 ⊢
        simp only [hshl]
        have HP6 := Aside0.mk (HP5.out.below (below_drew1 (Below.refl w9.heap.size w9)))
        have cct := blk_cell HP6.out.inv.cs.t 1
        have cbb := blk_cell HP6.out.inv.cs.b 0
        simp only [layOf] at cct cbb
        rw [← HN1.out] at cct
        clear HP5
        refine start_ (n := 9) (S := fun w' => w'.cell? ⟨bt, 1, none⟩ = some (.slice (some ⟨gt, 0, none⟩) n1 n1) ∧ w'.cell? ⟨bm + 1, 0, none⟩ = some (.func (.func 103) #[] #[.pointer (some ⟨bm, 0, none⟩)])) (ds := [8]) #[false, false, false, false, false, false, false, false, false] (by kernel_rfl) rfl rfl ⟨cct, cbb⟩ (fun hHeld => ?_)
        refine with_tabW b50.tab18 b50.bits18 (fun HT_ HW_ => ?_)
        generalize w9.drew = w10 at HP6 cct cbb hHeld ⊢
        refine pure_ (i := 0) (N := some 55) (v := ?_) (a' := ?_) #[true, false, false, false, false, false, false, false, false] rfl rfl (any_of HT_.out (by kernel_rfl)) (fun _ _ _ h => h) (Or.inl ⟨by rfl, ?_⟩) ?_ ?_
        rotate_left
        · intro w'
          go_simp
          with_reducible rfl
        rotate_left
        · simp only [Act.put, List.setIfInBounds_toArray, List.set_cons_zero, List.set_cons_succ, i64_w, i32_w]
          rfl
        refine pure_ (i := 3) (N := some 58) (v := ?_) (a' := ?_) #[true, false, false, true, false, false, false, false, false] rfl rfl (any_of HT_.out (by kernel_rfl)) (fun _ _ _ h => h) (Or.inl ⟨by rfl, ?_⟩) ?_ ?_
        rotate_left
        · intro w'
          go_simp
          with_reducible rfl
        rotate_left
        · simp only [Act.put, List.setIfInBounds_toArray, List.set_cons_zero, List.set_cons_succ, i64_w, i32_w]
          rfl
        refine pure_ (i := 4) (N := some 59) (v := ?_) (a' := ?_) #[true, false, false, true, true, false, false, false, false] rfl rfl (any_of HT_.out (by kernel_rfl)) (fun _ _ _ h => h) (Or.inl ⟨by rfl, ?_⟩) ?_ ?_
        rotate_left
        · intro w'
          go_simp
          with_reducible rfl
        rotate_left
        · simp only [Act.put, List.setIfInBounds_toArray, List.set_cons_zero, List.set_cons_succ, i64_w, i32_w]
          rfl
        refine pure_ (i := 5) (N := some 60) (v := ?_) (a' := ?_) #[true, false, false, true, true, true, false, false, false] rfl rfl (any_of HT_.out (by kernel_rfl)) (fun _ _ _ h => h) (Or.inl ⟨by rfl, ?_⟩) ?_ ?_
        rotate_left
        · intro w'
          go_simp
          with_reducible rfl
        rotate_left
        · simp only [Act.put, List.setIfInBounds_toArray, List.set_cons_zero, List.set_cons_succ, i64_w, i32_w]
          rfl
        refine take_ (i := 1) (N := some 56) (v := ?_) (a' := ?_) #[true, true, false, true, true, true, false, false, false] rfl rfl (take_ofW HT_.out HW_.out (by kernel_rfl)) (fun _ _ _ h => h) (Or.inl ⟨by rfl, ?_⟩) hHeld ?_ ?_
        rotate_left
        · rintro w' ⟨s0, s1⟩
          go_simp
          with_reducible rfl
        rotate_left
        · simp only [Act.put, List.setIfInBounds_toArray, List.set_cons_zero, List.set_cons_succ, i64_w, i32_w]
          rfl
        refine take_ (i := 2) (N := some 57) (v := ?_) (a' := ?_) #[true, true, true, true, true, true, false, false, false] rfl rfl (take_ofW HT_.out HW_.out (by kernel_rfl)) (fun _ _ _ h => h) (Or.inl ⟨by rfl, ?_⟩) hHeld ?_ ?_
        rotate_left
        · rintro w' ⟨s0, s1⟩
          go_simp
          with_reducible rfl
        rotate_left
        · simp only [Act.put, List.setIfInBounds_toArray, List.set_cons_zero, List.set_cons_succ, i64_w, i32_w]
          rfl
        refine one_ (i := 6) (N := some 61) #[true, true, true, true, true, true, true, false, false] rfl rfl (one_of HT_.out (by kernel_rfl)) (by decide) (fun K hK => ?_)
        refine goesC_ Try.func103 (by kernel_rfl) rfl #[.int .i64 0, .int .i64 0, .int .i64 (z : Int), .int .i64 (wrap64 (many : Int))] #[.pointer (some ⟨bm, 0, none⟩)] (by rfl) rfl rfl (by rfl) (by simp only [List.map_toArray, List.map_cons, List.map_nil]; rfl) ?_
        rw [hwm]
        refine (blk0 (HCTX.out b0 bm gn At ct gt bt) HP6.out HZ.out.1 HZ.out.2.1 HZ.out.2.2.1 HZ.out.2.2.2.1).mono ?_
        rintro e w11 ⟨rfl, r1, r2, hst, hlen, hO, hI, hk⟩
        refine ⟨_, rfl, ?_⟩
        obtain ⟨⟨h0, hz0⟩, fz0, hE12, hE13⟩ := build_end HP6.out hlen HZ.out.2.2.2.2 HB.out.2.2.2 hO hI hk
        have HE := Aside0.mk (And.intro hE12 (And.intro hE13 hst))
        have cct := blk_cell hI.cs.t 1
        have cbb := blk_cell hI.cs.b 0
        simp only [layOf] at cct cbb hz0 fz0
        rw [← HN1.out] at cct
        clear hE12 hE13 hst hO hI hk hlen
        refine hK.out _ _ ⟨cct, cbb⟩ (fun hHeld => ?_)
        clear hK K
        refine norm_ (a' := ?_) ?_ ?_
        rotate_left
        · show Act.put _ (some 61) _ = _
          simp only [Act.put, List.setIfInBounds_toArray, List.set_cons_zero, List.set_cons_succ, i64_w, i32_w]
          rfl
        refine pure_ (i := 7) (N := some 62) (v := ?_) (a' := ?_) #[true, true, true, true, true, true, true, true, false] rfl rfl (any_of HT_.out (by kernel_rfl)) (fun _ _ _ h => h) (Or.inl ⟨by rfl, ?_⟩) ?_ ?_
        rotate_left
        · intro w'
          go_simp
          with_reducible rfl
        rotate_left
        · simp only [Act.put, List.setIfInBounds_toArray, List.set_cons_zero, List.set_cons_succ, i64_w, i32_w]
          rfl
        refine last_ (i := 8) (N := none) #[true, true, true, true, true, true, true, true, true] rfl rfl (one_of HT_.out (by kernel_rfl)) (by decide) (fun K hK => ?_)
        refine skip_ (w1 := ?_) (by rfl) rfl ?_ ?_
        rotate_left
        · go_simp
          rfl
        refine hK.out _ _ ?_
        clear hK K
        refine done_ (done_of HT_.out (by kernel_rfl)) ?_
        refine hK9 _ _ ?_
        have z0 := HE.out.1.c0
        have z1 := HE.out.1.c1
        have y0 := HE.out.1.r0
        have y1 := HE.out.1.r1
        have q0 := HE.out.1.q0
        have q1 := HE.out.1.q1
        simp only [layOf] at z0 z1 y0 y1 q0 q1
        clear hz0 fz0 cct cbb
        go_wp2
        have hE := HE.out.2.1
        rw [HE.out.2.2] at hE
        obtain ⟨e1, e2, e3, e4, e5, e6⟩ := hE
        simp only [layOf] at e1 e2 e3 e4 e5 e6
        rw [e6] at e2
        refine bodyPost_ret (by simp [results, Try.results50, go_sem, e4, e5]; rfl) rfl ?_
        exact ⟨_, _, rfl, e1, e2, e3⟩
  have HP5 := Aside0.mk (HP4.out.below (below_drew1 (Below.refl w4.heap.size w4)))
  have c3 := blk_cell HP5.out.f2 0
  have cn := blk_cell HP5.out.f4 0
  clear HP4
  refine start_ (n := 8) (S := fun w' => w'.cell? ⟨w.heap.size + 1, 0, none⟩ = some (.slice A1 W.length c1) ∧ w'.cell? ⟨gn, 0, none⟩ = some (.int .i64 (W.length : Int))) (ds := [7]) #[false, false, false, false, false, false, false, false] (by kernel_rfl) rfl rfl ⟨c3, cn⟩ (fun hHeld => ?_)
  refine with_tabW b50.tab5 b50.bits5 (fun HT_ HW_ => ?_)
  generalize w4.drew = w5 at HP5 c3 cn hHeld ⊢
  refine take_ (i := 0) (N := some 24) (v := ?_) (a' := ?_) #[true, false, false, false, false, false, false, false] rfl rfl (take_ofW HT_.out HW_.out (by kernel_rfl)) (fun _ _ _ h => h) (Or.inl ⟨by rfl, ?_⟩) hHeld ?_ ?_
  rotate_left
  · rintro w' ⟨s0, s1⟩
    go_simp
    with_reducible rfl
  rotate_left
  · simp only [Act.put, List.setIfInBounds_toArray, List.set_cons_zero, List.set_cons_succ, i64_w, i32_w]
    rfl
  refine take_ (i := 2) (N := some 26) (v := ?_) (a' := ?_) #[true, false, true, false, false, false, false, false] rfl rfl (take_ofW HT_.out HW_.out (by kernel_rfl)) (fun _ _ _ h => h) (Or.inl ⟨by rfl, ?_⟩) hHeld ?_ ?_
  rotate_left
  · rintro w' ⟨s0, s1⟩
    go_simp
    with_reducible rfl
  rotate_left
  · simp only [Act.put, List.setIfInBounds_toArray, List.set_cons_zero, List.set_cons_succ, i64_w, i32_w]
    rfl
  refine pure_ (i := 3) (N := some 27) (v := ?_) (a' := ?_) #[true, false, true, true, false, false, false, false] rfl rfl (any_of HT_.out (by kernel_rfl)) (fun _ _ _ h => h) (Or.inl ⟨by rfl, ?_⟩) ?_ ?_
  rotate_left
  · intro w'
    go_simp
    with_reducible rfl
  rotate_left
  · simp only [Act.put, List.setIfInBounds_toArray, List.set_cons_zero, List.set_cons_succ, i64_w, i32_w]
    rfl
  refine three_ (i := 1) (j := 4) (k := 6) (Ni := some 25) (Nj := some 28) (Nk := some 8) #[true, true, true, true, false, false, false, false] #[true, false, true, true, true, false, false, false] #[true, false, true, true, false, false, true, false] rfl rfl rfl rfl rfl rfl (three_of HT_.out (by kernel_rfl)) (by decide) (by decide) (by decide) (fun K hK => ?_) (fun K hK => ?_) (fun K hK => ?_)
  · skip
    refine goes_ Try.func102 (by kernel_rfl) rfl #[.slice A1 W.length c1] (by rfl) rfl rfl (by simp only [List.map_toArray, List.map_cons, List.map_nil]; rfl) ?_
    refine (clone_calls A1 W.length c1 W _ (Kd.C_below HA.out.2.1 HP5.out.bel) (by have := HB.out.2.2.2; omega)).mono ?_
    rintro e w6 ⟨At, ct, rfl, hrow, hb⟩
    refine ⟨_, rfl, ?_⟩
    have HR := Aside0.mk (Row.lower hrow HP5.out.bel.size)
    clear hrow
    have N_ := Aside0.mk (HP5.out.below hb)
    clear HP5 c3 cn
    have HP5 := N_
    clear N_
    have c3 := blk_cell HP5.out.f2 0
    have cn := blk_cell HP5.out.f4 0
    clear hb
    refine hK.out _ _ ⟨c3, cn⟩ (fun hHeld => ?_)
    clear hK K
    refine norm_ (a' := ?_) ?_ ?_
    rotate_left
    · show Act.put _ (some 25) _ = _
      simp only [Act.put, List.setIfInBounds_toArray, List.set_cons_zero, List.set_cons_succ, i64_w, i32_w]
      rfl
    refine two_ (i := 4) (j := 6) (Ni := some 28) (Nj := some 8) #[true, true, true, true, true, false, false, false] #[true, true, true, true, false, false, true, false] rfl rfl rfl rfl (two_of HT_.out (by kernel_rfl)) (by decide) (by decide) (fun K hK => ?_) (fun K hK => ?_)
    · skip
      refine event_step (v := .slice (some ⟨w6.heap.size, 0, none⟩) n1 n1) (w1 := w6.alloc (.cells (Array.replicate n1 (.slice none 0 0)) 26)) (by rfl) ?hr ?_
      (case hr => first | (go_simp; done) | (go_simp; rfl))
      obtain ⟨gt, hgt⟩ : ∃ gt, gt = w6.heap.size := ⟨_, rfl⟩
      rw [← hgt]
      have hb : Below w6.heap.size w6 (w6.alloc (.cells (Array.replicate n1 (.slice none 0 0)) 26)) := below_alloc (Below.refl _ _) _
      have hG := blk_new w6 (.cells (Array.replicate n1 (.slice none 0 0)) 26)
      rw [← hgt] at hG
      generalize w6.alloc (.cells (Array.replicate n1 (.slice none 0 0)) 26) = w7 at hb hG ⊢
      have HG := Aside0.mk (And.intro hG (show w.heap.size + 3 ≤ gt by rw [hgt]; exact HP5.out.big))
      clear hG hgt
      have N_ := Aside0.mk (HR.out.below hb)
      clear HR
      have HR := N_
      clear N_
      have N_ := Aside0.mk (HP5.out.below hb)
      clear HP5 c3 cn
      have HP5 := N_
      clear N_
      have c3 := blk_cell HP5.out.f2 0
      have cn := blk_cell HP5.out.f4 0
      clear hb
      refine hK.out _ _ ⟨c3, cn⟩ (fun hHeld => ?_)
      clear hK K
      refine norm_ (a' := ?_) ?_ ?_
      rotate_left
      · show Act.put _ (some 28) _ = _
        simp only [Act.put, List.setIfInBounds_toArray, List.set_cons_zero, List.set_cons_succ, i64_w, i32_w]
        rfl
      refine pure_ (i := 5) (N := some 29) (v := ?_) (a' := ?_) #[true, true, true, true, true, true, false, false] rfl rfl (any_of HT_.out (by kernel_rfl)) (fun _ _ _ h => h) (Or.inl ⟨by rfl, ?_⟩) ?_ ?_
      rotate_left
      · intro w'
        go_simp
        with_reducible rfl
      rotate_left
      · simp only [Act.put, List.setIfInBounds_toArray, List.set_cons_zero, List.set_cons_succ, i64_w, i32_w]
        rfl
      refine one_ (i := 6) (N := some 8) #[true, true, true, true, true, true, true, false] rfl rfl (one_of HT_.out (by kernel_rfl)) (by decide) (fun K hK => ?_)
      refine event_step (v := .pointer (some ⟨w7.heap.size, 0, none⟩)) (w1 := w7.alloc (.cells #[.slice none 0 0, .slice none 0 0] 46)) (by rfl) ?hr ?_
      (case hr => first | (go_simp; done) | (go_simp; rfl))
      obtain ⟨bt, hbt⟩ : ∃ bt, bt = w7.heap.size := ⟨_, rfl⟩
      rw [← hbt]
      have hb : Below w7.heap.size w7 (w7.alloc (.cells #[.slice none 0 0, .slice none 0 0] 46)) := below_alloc (Below.refl _ _) _
      have hT := blk_new w7 (.cells #[.slice none 0 0, .slice none 0 0] 46)
      rw [← hbt] at hT
      generalize w7.alloc (.cells #[.slice none 0 0, .slice none 0 0] 46) = w8 at hb hT ⊢
      have HT := Aside0.mk (And.intro hT (show w.heap.size + 3 ≤ bt by rw [hbt]; exact HP5.out.big))
      clear hT hbt
      have N_ := Aside0.mk (HR.out.below hb)
      clear HR
      have HR := N_
      clear N_
      have N_ := Aside0.mk (And.intro ((Kp.of_below (S := fun _ => False) hb).heap HG.out.1 (fun h => h)) HG.out.2)
      clear HG
      have HG := N_
      clear N_
      have N_ := Aside0.mk (HP5.out.below hb)
      clear HP5 c3 cn
      have HP5 := N_
      clear N_
      have c3 := blk_cell HP5.out.f2 0
      have cn := blk_cell HP5.out.f4 0
      clear hb
      refine hK.out _ _ ⟨c3, cn⟩ (fun hHeld => ?_)
      clear hK K
      refine norm_ (a' := ?_) ?_ ?_
      rotate_left
      · show Act.put _ (some 8) _ = _
        simp only [Act.put, List.setIfInBounds_toArray, List.set_cons_zero, List.set_cons_succ, i64_w, i32_w]
        rfl
      refine last_ (i := 7) (N := none) #[true, true, true, true, true, true, true, true] rfl rfl (one_of HT_.out (by kernel_rfl)) (by decide) (fun K hK => ?_)
      have z0 := blk_cell HT.out.1 0
      have z1 := blk_cell HT.out.1 1
      have fz0 := blk_frozen HT.out.1 0
      have fz1 := blk_frozen HT.out.1 1
      refine skip_ (w1 := ?_) (by rfl) rfl ?_ ?_
      rotate_left
      · go_simp
        rfl
      refine hK.out _ _ ?_
      clear hK K
      refine done_ (done_of HT_.out (by kernel_rfl)) ?_
      exact hREST At ct gt bt _ (ph2 HP5.out HR.out HG.out HT.out)
    · skip
      refine event_step (v := .pointer (some ⟨w6.heap.size, 0, none⟩)) (w1 := w6.alloc (.cells #[.slice none 0 0, .slice none 0 0] 46)) (by rfl) ?hr ?_
      (case hr => first | (go_simp; done) | (go_simp; rfl))
      obtain ⟨bt, hbt⟩ : ∃ bt, bt = w6.heap.size := ⟨_, rfl⟩
      rw [← hbt]
      have hb : Below w6.heap.size w6 (w6.alloc (.cells #[.slice none 0 0, .slice none 0 0] 46)) := below_alloc (Below.refl _ _) _
      have hT := blk_new w6 (.cells #[.slice none 0 0, .slice none 0 0] 46)
      rw [← hbt] at hT
      generalize w6.alloc (.cells #[.slice none 0 0, .slice none 0 0] 46) = w7 at hb hT ⊢
      have HT := Aside0.mk (And.intro hT (show w.heap.size + 3 ≤ bt by rw [hbt]; exact HP5.out.big))
      clear hT hbt
      have N_ := Aside0.mk (HR.out.below hb)
      clear HR
      have HR := N_
      clear N_
      have N_ := Aside0.mk (HP5.out.below hb)
      clear HP5 c3 cn
      have HP5 := N_
      clear N_
      have c3 := blk_cell HP5.out.f2 0
      have cn := blk_cell HP5.out.f4 0
      clear hb
      refine hK.out _ _ ⟨c3, cn⟩ (fun hHeld => ?_)
      clear hK K
      refine norm_ (a' := ?_) ?_ ?_
      rotate_left
      · show Act.put _ (some 8) _ = _
        simp only [Act.put, List.setIfInBounds_toArray, List.set_cons_zero, List.set_cons_succ, i64_w, i32_w]
        rfl
      refine one_ (i := 4) (N := some 28) #[true, true, true, true, true, false, true, false] rfl rfl (one_of HT_.out (by kernel_rfl)) (by decide) (fun K hK => ?_)
      refine event_step (v := .slice (some ⟨w7.heap.size, 0, none⟩) n1 n1) (w1 := w7.alloc (.cells (Array.replicate n1 (.slice none 0 0)) 26)) (by rfl) ?hr ?_
      (case hr => first | (go_simp; done) | (go_simp; rfl))
      obtain ⟨gt, hgt⟩ : ∃ gt, gt = w7.heap.size := ⟨_, rfl⟩
      rw [← hgt]
      have hb : Below w7.heap.size w7 (w7.alloc (.cells (Array.replicate n1 (.slice none 0 0)) 26)) := below_alloc (Below.refl _ _) _
      have hG := blk_new w7 (.cells (Array.replicate n1 (.slice none 0 0)) 26)
      rw [← hgt] at hG
      generalize w7.alloc (.cells (Array.replicate n1 (.slice none 0 0)) 26) = w8 at hb hG ⊢
      have HG := Aside0.mk (And.intro hG (show w.heap.size + 3 ≤ gt by rw [hgt]; exact HP5.out.big))
      clear hG hgt
      have N_ := Aside0.mk (HR.out.below hb)
      clear HR
      have HR := N_
      clear N_
      have N_ := Aside0.mk (And.intro ((Kp.of_below (S := fun _ => False) hb).heap HT.out.1 (fun h => h)) HT.out.2)
      clear HT
      have HT := N_
      clear N_
      have N_ := Aside0.mk (HP5.out.below hb)
      clear HP5 c3 cn
      have HP5 := N_
      clear N_
      have c3 := blk_cell HP5.out.f2 0
      have cn := blk_cell HP5.out.f4 0
      clear hb
      refine hK.out _ _ ⟨c3, cn⟩ (fun hHeld => ?_)
      clear hK K
      refine norm_ (a' := ?_) ?_ ?_
      rotate_left
      · show Act.put _ (some 28) _ = _
        simp only [Act.put, List.setIfInBounds_toArray, List.set_cons_zero, List.set_cons_succ, i64_w, i32_w]
        rfl
      refine pure_ (i := 5) (N := some 29) (v := ?_) (a' := ?_) #[true, true, true, true, true, true, true, false] rfl rfl (any_of HT_.out (by kernel_rfl)) (fun _ _ _ h => h) (Or.inl ⟨by rfl, ?_⟩) ?_ ?_
      rotate_left
      · intro w'
        go_simp
        with_reducible rfl
      rotate_left
      · simp only [Act.put, List.setIfInBounds_toArray, List.set_cons_zero, List.set_cons_succ, i64_w, i32_w]
        rfl
      refine last_ (i := 7) (N := none) #[true, true, true, true, true, true, true, true] rfl rfl (one_of HT_.out (by kernel_rfl)) (by decide) (fun K hK => ?_)
      have z0 := blk_cell HT.out.1 0
      have z1 := blk_cell HT.out.1 1
      have fz0 := blk_frozen HT.out.1 0
      have fz1 := blk_frozen HT.out.1 1
      refine skip_ (w1 := ?_) (by rfl) rfl ?_ ?_
      rotate_left
      · go_simp
        rfl
      refine hK.out _ _ ?_
      clear hK K
      refine done_ (done_of HT_.out (by kernel_rfl)) ?_
      exact hREST At ct gt bt _ (ph2 HP5.out HR.out HG.out HT.out)
  · skip
    refine event_step (v := .slice (some ⟨w5.heap.size, 0, none⟩) n1 n1) (w1 := w5.alloc (.cells (Array.replicate n1 (.slice none 0 0)) 26)) (by rfl) ?hr ?_
    (case hr => first | (go_simp; done) | (go_simp; rfl))
    obtain ⟨gt, hgt⟩ : ∃ gt, gt = w5.heap.size := ⟨_, rfl⟩
    rw [← hgt]
    have hb : Below w5.heap.size w5 (w5.alloc (.cells (Array.replicate n1 (.slice none 0 0)) 26)) := below_alloc (Below.refl _ _) _
    have hG := blk_new w5 (.cells (Array.replicate n1 (.slice none 0 0)) 26)
    rw [← hgt] at hG
    generalize w5.alloc (.cells (Array.replicate n1 (.slice none 0 0)) 26) = w6 at hb hG ⊢
    have HG := Aside0.mk (And.intro hG (show w.heap.size + 3 ≤ gt by rw [hgt]; exact HP5.out.big))
    clear hG hgt
    have N_ := Aside0.mk (HP5.out.below hb)
    clear HP5 c3 cn
    have HP5 := N_
    clear N_
    have c3 := blk_cell HP5.out.f2 0
    have cn := blk_cell HP5.out.f4 0
    clear hb
    refine hK.out _ _ ⟨c3, cn⟩ (fun hHeld => ?_)
    clear hK K
    refine norm_ (a' := ?_) ?_ ?_
    rotate_left
    · show Act.put _ (some 28) _ = _
      simp only [Act.put, List.setIfInBounds_toArray, List.set_cons_zero, List.set_cons_succ, i64_w, i32_w]
      rfl
    refine two_ (i := 1) (j := 6) (Ni := some 25) (Nj := some 8) #[true, true, true, true, true, false, false, false] #[true, false, true, true, true, false, true, false] rfl rfl rfl rfl (two_of HT_.out (by kernel_rfl)) (by decide) (by decide) (fun K hK => ?_) (fun K hK => ?_)
    · skip
      refine goes_ Try.func102 (by kernel_rfl) rfl #[.slice A1 W.length c1] (by rfl) rfl rfl (by simp only [List.map_toArray, List.map_cons, List.map_nil]; rfl) ?_
      refine (clone_calls A1 W.length c1 W _ (Kd.C_below HA.out.2.1 HP5.out.bel) (by have := HB.out.2.2.2; omega)).mono ?_
      rintro e w7 ⟨At, ct, rfl, hrow, hb⟩
      refine ⟨_, rfl, ?_⟩
      have HR := Aside0.mk (Row.lower hrow HP5.out.bel.size)
      clear hrow
      have N_ := Aside0.mk (And.intro ((Kp.of_below (S := fun _ => False) hb).heap HG.out.1 (fun h => h)) HG.out.2)
      clear HG
      have HG := N_
      clear N_
      have N_ := Aside0.mk (HP5.out.below hb)
      clear HP5 c3 cn
      have HP5 := N_
      clear N_
      have c3 := blk_cell HP5.out.f2 0
      have cn := blk_cell HP5.out.f4 0
      clear hb
      refine hK.out _ _ ⟨c3, cn⟩ (fun hHeld => ?_)
      clear hK K
      refine norm_ (a' := ?_) ?_ ?_
      rotate_left
      · show Act.put _ (some 25) _ = _
        simp only [Act.put, List.setIfInBounds_toArray, List.set_cons_zero, List.set_cons_succ, i64_w, i32_w]
        rfl
      refine pure_ (i := 5) (N := some 29) (v := ?_) (a' := ?_) #[true, true, true, true, true, true, false, false] rfl rfl (any_of HT_.out (by kernel_rfl)) (fun _ _ _ h => h) (Or.inl ⟨by rfl, ?_⟩) ?_ ?_
      rotate_left
      · intro w'
        go_simp
        with_reducible rfl
      rotate_left
      · simp only [Act.put, List.setIfInBounds_toArray, List.set_cons_zero, List.set_cons_succ, i64_w, i32_w]
        rfl
      refine one_ (i := 6) (N := some 8) #[true, true, true, true, true, true, true, false] rfl rfl (one_of HT_.out (by kernel_rfl)) (by decide) (fun K hK => ?_)
      refine event_step (v := .pointer (some ⟨w7.heap.size, 0, none⟩)) (w1 := w7.alloc (.cells #[.slice none 0 0, .slice none 0 0] 46)) (by rfl) ?hr ?_
      (case hr => first | (go_simp; done) | (go_simp; rfl))
      obtain ⟨bt, hbt⟩ : ∃ bt, bt = w7.heap.size := ⟨_, rfl⟩
      rw [← hbt]
      have hb : Below w7.heap.size w7 (w7.alloc (.cells #[.slice none 0 0, .slice none 0 0] 46)) := below_alloc (Below.refl _ _) _
      have hT := blk_new w7 (.cells #[.slice none 0 0, .slice none 0 0] 46)
      rw [← hbt] at hT
      generalize w7.alloc (.cells #[.slice none 0 0, .slice none 0 0] 46) = w8 at hb hT ⊢
      have HT := Aside0.mk (And.intro hT (show w.heap.size + 3 ≤ bt by rw [hbt]; exact HP5.out.big))
      clear hT hbt
      have N_ := Aside0.mk (HR.out.below hb)
      clear HR
      have HR := N_
      clear N_
      have N_ := Aside0.mk (And.intro ((Kp.of_below (S := fun _ => False) hb).heap HG.out.1 (fun h => h)) HG.out.2)
      clear HG
      have HG := N_
      clear N_
      have N_ := Aside0.mk (HP5.out.below hb)
      clear HP5 c3 cn
      have HP5 := N_
      clear N_
      have c3 := blk_cell HP5.out.f2 0
      have cn := blk_cell HP5.out.f4 0
      clear hb
      refine hK.out _ _ ⟨c3, cn⟩ (fun hHeld => ?_)
      clear hK K
      refine norm_ (a' := ?_) ?_ ?_
      rotate_left
      · show Act.put _ (some 8) _ = _
        simp only [Act.put, List.setIfInBounds_toArray, List.set_cons_zero, List.set_cons_succ, i64_w, i32_w]
        rfl
      refine last_ (i := 7) (N := none) #[true, true, true, true, true, true, true, true] rfl rfl (one_of HT_.out (by kernel_rfl)) (by decide) (fun K hK => ?_)
      have z0 := blk_cell HT.out.1 0
      have z1 := blk_cell HT.out.1 1
      have fz0 := blk_frozen HT.out.1 0
      have fz1 := blk_frozen HT.out.1 1
      refine skip_ (w1 := ?_) (by rfl) rfl ?_ ?_
      rotate_left
      · go_simp
        rfl
      refine hK.out _ _ ?_
      clear hK K
      refine done_ (done_of HT_.out (by kernel_rfl)) ?_
      exact hREST At ct gt bt _ (ph2 HP5.out HR.out HG.out HT.out)
    · skip
      refine event_step (v := .pointer (some ⟨w6.heap.size, 0, none⟩)) (w1 := w6.alloc (.cells #[.slice none 0 0, .slice none 0 0] 46)) (by rfl) ?hr ?_
      (case hr => first | (go_simp; done) | (go_simp; rfl))
      obtain ⟨bt, hbt⟩ : ∃ bt, bt = w6.heap.size := ⟨_, rfl⟩
      rw [← hbt]
      have hb : Below w6.heap.size w6 (w6.alloc (.cells #[.slice none 0 0, .slice none 0 0] 46)) := below_alloc (Below.refl _ _) _
      have hT := blk_new w6 (.cells #[.slice none 0 0, .slice none 0 0] 46)
      rw [← hbt] at hT
      generalize w6.alloc (.cells #[.slice none 0 0, .slice none 0 0] 46) = w7 at hb hT ⊢
      have HT := Aside0.mk (And.intro hT (show w.heap.size + 3 ≤ bt by rw [hbt]; exact HP5.out.big))
      clear hT hbt
      have N_ := Aside0.mk (And.intro ((Kp.of_below (S := fun _ => False) hb).heap HG.out.1 (fun h => h)) HG.out.2)
      clear HG
      have HG := N_
      clear N_
      have N_ := Aside0.mk (HP5.out.below hb)
      clear HP5 c3 cn
      have HP5 := N_
      clear N_
      have c3 := blk_cell HP5.out.f2 0
      have cn := blk_cell HP5.out.f4 0
      clear hb
      refine hK.out _ _ ⟨c3, cn⟩ (fun hHeld => ?_)
      clear hK K
      refine norm_ (a' := ?_) ?_ ?_
      rotate_left
      · show Act.put _ (some 8) _ = _
        simp only [Act.put, List.setIfInBounds_toArray, List.set_cons_zero, List.set_cons_succ, i64_w, i32_w]
        rfl
      refine one_ (i := 1) (N := some 25) #[true, true, true, true, true, false, true, false] rfl rfl (one_of HT_.out (by kernel_rfl)) (by decide) (fun K hK => ?_)
      refine goes_ Try.func102 (by kernel_rfl) rfl #[.slice A1 W.length c1] (by rfl) rfl rfl (by simp only [List.map_toArray, List.map_cons, List.map_nil]; rfl) ?_
      refine (clone_calls A1 W.length c1 W _ (Kd.C_below HA.out.2.1 HP5.out.bel) (by have := HB.out.2.2.2; omega)).mono ?_
      rintro e w8 ⟨At, ct, rfl, hrow, hb⟩
      refine ⟨_, rfl, ?_⟩
      have HR := Aside0.mk (Row.lower hrow HP5.out.bel.size)
      clear hrow
      have N_ := Aside0.mk (And.intro ((Kp.of_below (S := fun _ => False) hb).heap HG.out.1 (fun h => h)) HG.out.2)
      clear HG
      have HG := N_
      clear N_
      have N_ := Aside0.mk (And.intro ((Kp.of_below (S := fun _ => False) hb).heap HT.out.1 (fun h => h)) HT.out.2)
      clear HT
      have HT := N_
      clear N_
      have N_ := Aside0.mk (HP5.out.below hb)
      clear HP5 c3 cn
      have HP5 := N_
      clear N_
      have c3 := blk_cell HP5.out.f2 0
      have cn := blk_cell HP5.out.f4 0
      clear hb
      refine hK.out _ _ ⟨c3, cn⟩ (fun hHeld => ?_)
      clear hK K
      refine norm_ (a' := ?_) ?_ ?_
      rotate_left
      · show Act.put _ (some 25) _ = _
        simp only [Act.put, List.setIfInBounds_toArray, List.set_cons_zero, List.set_cons_succ, i64_w, i32_w]
        rfl
      refine pure_ (i := 5) (N := some 29) (v := ?_) (a' := ?_) #[true, true, true, true, true, true, true, false] rfl rfl (any_of HT_.out (by kernel_rfl)) (fun _ _ _ h => h) (Or.inl ⟨by rfl, ?_⟩) ?_ ?_
      rotate_left
      · intro w'
        go_simp
        with_reducible rfl
      rotate_left
      · simp only [Act.put, List.setIfInBounds_toArray, List.set_cons_zero, List.set_cons_succ, i64_w, i32_w]
        rfl
      refine last_ (i := 7) (N := none) #[true, true, true, true, true, true, true, true] rfl rfl (one_of HT_.out (by kernel_rfl)) (by decide) (fun K hK => ?_)
      have z0 := blk_cell HT.out.1 0
      have z1 := blk_cell HT.out.1 1
      have fz0 := blk_frozen HT.out.1 0
      have fz1 := blk_frozen HT.out.1 1
      refine skip_ (w1 := ?_) (by rfl) rfl ?_ ?_
      rotate_left
      · go_simp
        rfl
      refine hK.out _ _ ?_
      clear hK K
      refine done_ (done_of HT_.out (by kernel_rfl)) ?_
      exact hREST At ct gt bt _ (ph2 HP5.out HR.out HG.out HT.out)
  · skip
    refine event_step (v := .pointer (some ⟨w5.heap.size, 0, none⟩)) (w1 := w5.alloc (.cells #[.slice none 0 0, .slice none 0 0] 46)) (by rfl) ?hr ?_
    (case hr => first | (go_simp; done) | (go_simp; rfl))
    obtain ⟨bt, hbt⟩ : ∃ bt, bt = w5.heap.size := ⟨_, rfl⟩
    rw [← hbt]
    have hb : Below w5.heap.size w5 (w5.alloc (.cells #[.slice none 0 0, .slice none 0 0] 46)) := below_alloc (Below.refl _ _) _
    have hT := blk_new w5 (.cells #[.slice none 0 0, .slice none 0 0] 46)
    rw [← hbt] at hT
    generalize w5.alloc (.cells #[.slice none 0 0, .slice none 0 0] 46) = w6 at hb hT ⊢
    have HT := Aside0.mk (And.intro hT (show w.heap.size + 3 ≤ bt by rw [hbt]; exact HP5.out.big))
    clear hT hbt
    have N_ := Aside0.mk (HP5.out.below hb)
    clear HP5 c3 cn
    have HP5 := N_
    clear N_
    have c3 := blk_cell HP5.out.f2 0
    have cn := blk_cell HP5.out.f4 0
    clear hb
    refine hK.out _ _ ⟨c3, cn⟩ (fun hHeld => ?_)
    clear hK K
    refine norm_ (a' := ?_) ?_ ?_
    rotate_left
    · show Act.put _ (some 8) _ = _
      simp only [Act.put, List.setIfInBounds_toArray, List.set_cons_zero, List.set_cons_succ, i64_w, i32_w]
      rfl
    refine two_ (i := 1) (j := 4) (Ni := some 25) (Nj := some 28) #[true, true, true, true, false, false, true, false] #[true, false, true, true, true, false, true, false] rfl rfl rfl rfl (two_of HT_.out (by kernel_rfl)) (by decide) (by decide) (fun K hK => ?_) (fun K hK => ?_)
    · skip
      refine goes_ Try.func102 (by kernel_rfl) rfl #[.slice A1 W.length c1] (by rfl) rfl rfl (by simp only [List.map_toArray, List.map_cons, List.map_nil]; rfl) ?_
      refine (clone_calls A1 W.length c1 W _ (Kd.C_below HA.out.2.1 HP5.out.bel) (by have := HB.out.2.2.2; omega)).mono ?_
      rintro e w7 ⟨At, ct, rfl, hrow, hb⟩
      refine ⟨_, rfl, ?_⟩
      have HR := Aside0.mk (Row.lower hrow HP5.out.bel.size)
      clear hrow
      have N_ := Aside0.mk (And.intro ((Kp.of_below (S := fun _ => False) hb).heap HT.out.1 (fun h => h)) HT.out.2)
      clear HT
      have HT := N_
      clear N_
      have N_ := Aside0.mk (HP5.out.below hb)
      clear HP5 c3 cn
      have HP5 := N_
      clear N_
      have c3 := blk_cell HP5.out.f2 0
      have cn := blk_cell HP5.out.f4 0
      clear hb
      refine hK.out _ _ ⟨c3, cn⟩ (fun hHeld => ?_)
      clear hK K
      refine norm_ (a' := ?_) ?_ ?_
      rotate_left
      · show Act.put _ (some 25) _ = _
        simp only [Act.put, List.setIfInBounds_toArray, List.set_cons_zero, List.set_cons_succ, i64_w, i32_w]
        rfl
      refine one_ (i := 4) (N := some 28) #[true, true, true, true, true, false, true, false] rfl rfl (one_of HT_.out (by kernel_rfl)) (by decide) (fun K hK => ?_)
      refine event_step (v := .slice (some ⟨w7.heap.size, 0, none⟩) n1 n1) (w1 := w7.alloc (.cells (Array.replicate n1 (.slice none 0 0)) 26)) (by rfl) ?hr ?_
      (case hr => first | (go_simp; done) | (go_simp; rfl))
      obtain ⟨gt, hgt⟩ : ∃ gt, gt = w7.heap.size := ⟨_, rfl⟩
      rw [← hgt]
      have hb : Below w7.heap.size w7 (w7.alloc (.cells (Array.replicate n1 (.slice none 0 0)) 26)) := below_alloc (Below.refl _ _) _
      have hG := blk_new w7 (.cells (Array.replicate n1 (.slice none 0 0)) 26)
      rw [← hgt] at hG
      generalize w7.alloc (.cells (Array.replicate n1 (.slice none 0 0)) 26) = w8 at hb hG ⊢
      have HG := Aside0.mk (And.intro hG (show w.heap.size + 3 ≤ gt by rw [hgt]; exact HP5.out.big))
      clear hG hgt
      have N_ := Aside0.mk (HR.out.below hb)
      clear HR
      have HR := N_
      clear N_
      have N_ := Aside0.mk (And.intro ((Kp.of_below (S := fun _ => False) hb).heap HT.out.1 (fun h => h)) HT.out.2)
      clear HT
      have HT := N_
      clear N_
      have N_ := Aside0.mk (HP5.out.below hb)
      clear HP5 c3 cn
      have HP5 := N_
      clear N_
      have c3 := blk_cell HP5.out.f2 0
      have cn := blk_cell HP5.out.f4 0
      clear hb
      refine hK.out _ _ ⟨c3, cn⟩ (fun hHeld => ?_)
      clear hK K
      refine norm_ (a' := ?_) ?_ ?_
      rotate_left
      · show Act.put _ (some 28) _ = _
        simp only [Act.put, List.setIfInBounds_toArray, List.set_cons_zero, List.set_cons_succ, i64_w, i32_w]
        rfl
      refine pure_ (i := 5) (N := some 29) (v := ?_) (a' := ?_) #[true, true, true, true, true, true, true, false] rfl rfl (any_of HT_.out (by kernel_rfl)) (fun _ _ _ h => h) (Or.inl ⟨by rfl, ?_⟩) ?_ ?_
      rotate_left
      · intro w'
        go_simp
        with_reducible rfl
      rotate_left
      · simp only [Act.put, List.setIfInBounds_toArray, List.set_cons_zero, List.set_cons_succ, i64_w, i32_w]
        rfl
      refine last_ (i := 7) (N := none) #[true, true, true, true, true, true, true, true] rfl rfl (one_of HT_.out (by kernel_rfl)) (by decide) (fun K hK => ?_)
      have z0 := blk_cell HT.out.1 0
      have z1 := blk_cell HT.out.1 1
      have fz0 := blk_frozen HT.out.1 0
      have fz1 := blk_frozen HT.out.1 1
      refine skip_ (w1 := ?_) (by rfl) rfl ?_ ?_
      rotate_left
      · go_simp
        rfl
      refine hK.out _ _ ?_
      clear hK K
      refine done_ (done_of HT_.out (by kernel_rfl)) ?_
      exact hREST At ct gt bt _ (ph2 HP5.out HR.out HG.out HT.out)
    · skip
      refine event_step (v := .slice (some ⟨w6.heap.size, 0, none⟩) n1 n1) (w1 := w6.alloc (.cells (Array.replicate n1 (.slice none 0 0)) 26)) (by rfl) ?hr ?_
      (case hr => first | (go_simp; done) | (go_simp; rfl))
      obtain ⟨gt, hgt⟩ : ∃ gt, gt = w6.heap.size := ⟨_, rfl⟩
      rw [← hgt]
      have hb : Below w6.heap.size w6 (w6.alloc (.cells (Array.replicate n1 (.slice none 0 0)) 26)) := below_alloc (Below.refl _ _) _
      have hG := blk_new w6 (.cells (Array.replicate n1 (.slice none 0 0)) 26)
      rw [← hgt] at hG
      generalize w6.alloc (.cells (Array.replicate n1 (.slice none 0 0)) 26) = w7 at hb hG ⊢
      have HG := Aside0.mk (And.intro hG (show w.heap.size + 3 ≤ gt by rw [hgt]; exact HP5.out.big))
      clear hG hgt
      have N_ := Aside0.mk (And.intro ((Kp.of_below (S := fun _ => False) hb).heap HT.out.1 (fun h => h)) HT.out.2)
      clear HT
      have HT := N_
      clear N_
      have N_ := Aside0.mk (HP5.out.below hb)
      clear HP5 c3 cn
      have HP5 := N_
      clear N_
      have c3 := blk_cell HP5.out.f2 0
      have cn := blk_cell HP5.out.f4 0
      clear hb
      refine hK.out _ _ ⟨c3, cn⟩ (fun hHeld => ?_)
      clear hK K
      refine norm_ (a' := ?_) ?_ ?_
      rotate_left
      · show Act.put _ (some 28) _ = _
        simp only [Act.put, List.setIfInBounds_toArray, List.set_cons_zero, List.set_cons_succ, i64_w, i32_w]
        rfl
      refine one_ (i := 1) (N := some 25) #[true, true, true, true, true, false, true, false] rfl rfl (one_of HT_.out (by kernel_rfl)) (by decide) (fun K hK => ?_)
      refine goes_ Try.func102 (by kernel_rfl) rfl #[.slice A1 W.length c1] (by rfl) rfl rfl (by simp only [List.map_toArray, List.map_cons, List.map_nil]; rfl) ?_
      refine (clone_calls A1 W.length c1 W _ (Kd.C_below HA.out.2.1 HP5.out.bel) (by have := HB.out.2.2.2; omega)).mono ?_
      rintro e w8 ⟨At, ct, rfl, hrow, hb⟩
      refine ⟨_, rfl, ?_⟩
      have HR := Aside0.mk (Row.lower hrow HP5.out.bel.size)
      clear hrow
      have N_ := Aside0.mk (And.intro ((Kp.of_below (S := fun _ => False) hb).heap HG.out.1 (fun h => h)) HG.out.2)
      clear HG
      have HG := N_
      clear N_
      have N_ := Aside0.mk (And.intro ((Kp.of_below (S := fun _ => False) hb).heap HT.out.1 (fun h => h)) HT.out.2)
      clear HT
      have HT := N_
      clear N_
      have N_ := Aside0.mk (HP5.out.below hb)
      clear HP5 c3 cn
      have HP5 := N_
      clear N_
      have c3 := blk_cell HP5.out.f2 0
      have cn := blk_cell HP5.out.f4 0
      clear hb
      refine hK.out _ _ ⟨c3, cn⟩ (fun hHeld => ?_)
      clear hK K
      refine norm_ (a' := ?_) ?_ ?_
      rotate_left
      · show Act.put _ (some 25) _ = _
        simp only [Act.put, List.setIfInBounds_toArray, List.set_cons_zero, List.set_cons_succ, i64_w, i32_w]
        rfl
      refine pure_ (i := 5) (N := some 29) (v := ?_) (a' := ?_) #[true, true, true, true, true, true, true, false] rfl rfl (any_of HT_.out (by kernel_rfl)) (fun _ _ _ h => h) (Or.inl ⟨by rfl, ?_⟩) ?_ ?_
      rotate_left
      · intro w'
        go_simp
        with_reducible rfl
      rotate_left
      · simp only [Act.put, List.setIfInBounds_toArray, List.set_cons_zero, List.set_cons_succ, i64_w, i32_w]
        rfl
      refine last_ (i := 7) (N := none) #[true, true, true, true, true, true, true, true] rfl rfl (one_of HT_.out (by kernel_rfl)) (by decide) (fun K hK => ?_)
      have z0 := blk_cell HT.out.1 0
      have z1 := blk_cell HT.out.1 1
      have fz0 := blk_frozen HT.out.1 0
      have fz1 := blk_frozen HT.out.1 1
      refine skip_ (w1 := ?_) (by rfl) rfl ?_ ?_
      rotate_left
      · go_simp
        rfl
      refine hK.out _ _ ?_
      clear hK K
      refine done_ (done_of HT_.out (by kernel_rfl)) ?_
      exact hREST At ct gt bt _ (ph2 HP5.out HR.out HG.out HT.out)
end Go.Proofs.Ytdlijioedokgjaa.Q

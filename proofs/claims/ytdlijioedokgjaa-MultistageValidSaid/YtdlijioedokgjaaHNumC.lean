/- multistage.Build's closure number by hand: the four ways that make a block. (Printed by gennum.py.) -/
import Derived.Test.YtdlijioedokgjaaHNumB
namespace Go.Proofs.Ytdlijioedokgjaa.Q
open Go.RowKit Go.Proofs.YtdlijioedokgjaaW.PrintWords Go.Proofs.YtdlijioedokgjaaW.PrintLast Go.Proofs.YtdlijioedokgjaaW.PrintMore
set_option linter.unusedVariables false
set_option linter.unusedSimpArgs false

def nm104.T15 : Bool × List (List Nat × List Nat) := (true, [([], []), ([0], [0]), ([], []), ([], []), ([3], [3]), ([], []), ([4, 5], [4, 5]), ([6], [6]), ([], []), ([7, 8], [7, 8]), ([1, 2, 0, 1, 2, 3, 4, 5, 6, 7, 8, 9], [1, 2]), ([10, 9, 9, 0, 1, 2, 3, 4, 5, 6, 7, 8, 9], [9, 10])])
def nm104.B15 : List Nat := [0, 1, 0, 0, 8, 0, 56, 120, 0, 504, 1023, 2047]
theorem nm104.tab15 : rtab .any (opsOf Try.f104 15) = nm104.T15 := by kernel_rfl
theorem nm104.bits15 : waitsOk nm104.T15.2 nm104.B15 = true := by kernel_rfl
set_option maxHeartbeats 4000000 in
set_option maxRecDepth 100000 in
theorem number_other_new {Y : Lay} {w0 : World} (hx : Ctx Y w0) {w : Int} {ws : List Int} (hN : NumC Y w0 ws) {pre : List Lv} {ps : List Int} {σ : List Lv} {L : Lv} {base : Nat} {O : Nat → Prop} {W : World} (e1 : ps ++ w :: ws = Y.W) (e2 : pre.length = ps.length) (hI : InvL Y w0 W (pre ++ L :: σ) O) (hlt : ∀ b, O b → b < W.heap.size) (hL : GoodL (pw w) base L) (hσ : GoodS ws σ base) (hb : base + szW (w :: ws) ≤ 1114112)
    (hu : (Y.U base (base + szW (w :: ws))).2 = false) (hfd : findP (pw w) L.rows (manyP (fun k => numP Y.U ws (base + k * szW ws)) (pw w) σ).1 = none) :
    Calls Try.prog 104 #[.int .i64 ((pre.length : Int) + 1), .int .i64 (base : Int), .int .i64 (szW (w :: ws) : Int), ptr Y.bl, ptr Y.bn, ptr Y.ba, ptr Y.bw, ptr Y.bb, ptr Y.bs, ptr Y.bt] W fun e W' => e = .returned (.int .i64 (numP Y.U (w :: ws) base (L :: σ)).1) ∧ InvL Y w0 W' (pre ++ (numP Y.U (w :: ws) base (L :: σ)).2) (On O W.heap.size W') ∧ Kp O W W' := by
  obtain ⟨hw, hp, hrd⟩ := at_mid e1 e2
  obtain ⟨w1', w2'⟩ := hx.ws w (List.mem_of_getElem? hw)
  have hn3 := hx.n3
  rw [numP]
  have hmp := pw_pos w
  have hml := pw_le w2'
  have hzz := szW_pos ws
  have hbl := fun (w1 : World) (h1 : InvL Y w0 w1 (pre ++ L :: σ) O) (h2 : ∀ b, O b → b < w1.heap.size) => block_calls Y w0 hx.hU hN (pre ++ [L]) (ps ++ [w]) σ base (pw w) O w1 (by rw [← e1]; simp) (by simp [e2]) (by rw [List.append_assoc]; exact h1) h2 hσ hmp hb (by simp; omega)
  obtain ⟨hg1, hg2⟩ := many_good hx.hU ws base σ hσ (pw w) hb
  have hcl := manyP_len (fun k => numP Y.U ws (base + k * szW ws)) σ (pw w)
  have hz0 : szW (w :: ws) = pw w * szW ws := rfl
  have hquo := Aside0.mk (quo_facts hz0 hmp (Nat.le_trans (Nat.le_add_left _ _) hb))
  generalize manyP (fun k => numP Y.U ws (base + k * szW ws)) (pw w) σ = r at hbl hg1 hg2 hcl hfd ⊢
  obtain ⟨s, hs⟩ : ∃ s, s = pre.length + 1 := ⟨_, rfl⟩
  obtain ⟨n1, hn1⟩ : ∃ n1, n1 = Y.W.length + 1 := ⟨_, rfl⟩
  have hzp := szW_pos (w :: ws)
  obtain ⟨m, hm⟩ : ∃ m, m = pw w := ⟨_, rfl⟩
  obtain ⟨zz, hzzz⟩ : ∃ zz, zz = szW ws := ⟨_, rfl⟩
  generalize szW (w :: ws) = z at hb hu hzp hz0 hquo ⊢
  obtain ⟨e, he⟩ : ∃ e, e = base + z := ⟨_, rfl⟩
  have hcast : (pre.length : Int) + 1 = (s : Int) := by omega
  rw [hcast, ← he]
  rw [← he] at hu 
  unfold ptr at hbl ⊢
  simp only [List.length_append, List.length_singleton, ← hs, ← hm, ← hzzz] at hbl
  rw [← hm, ← hzzz] at hquo
  have huu := hx.unif hI.bel (base := base) (e := e) (by omega) (by omega)
  have hv := hx.hU base e
  have hud : Y.U base e = ((Y.U base e).1, false) := by rw [← hu]
  rw [hud]
  rw [hu] at huu
  generalize (Y.U base e).1 = v at huu hv ⊢
  rw [hitP_false]
  simp only
  have q5 : (m = 0) = False := eq_false (by rw [hm]; exact Nat.pos_iff_ne_zero.1 hmp)
  have HMM := Aside0.mk (And.intro (w_addn base z e he (by omega)) (w_sub1 s pre.length hcast (by omega)))
  have t1 : decide (Y.W.length < s) = false := decide_eq_false (by omega)
  have k1 := eq_true (show s < n1 by omega)
  have k2 : decide ((0 : Int) ≤ (s : Int)) = true := decide_eq_true (Int.natCast_nonneg s)
  have k3 := eq_true (show (s : Int) < (n1 : Int) by omega)
  have j1 := eq_true hp
  have j2 : decide ((0 : Int) ≤ (pre.length : Int)) = true := decide_eq_true (Int.natCast_nonneg _)
  have j3 := eq_true (show (pre.length : Int) < (Y.W.length : Int) by omega)
  have wp1 : decide (0 ≤ w) = true := decide_eq_true (by omega)
  have wp2 := eq_true (show 0 ≤ w by omega)
  have wp3 : decide (w < 0) = false := decide_eq_false (by omega)
  have hrl : r.1.length ≤ 1000000000 := by omega
  have hbs : base ≤ 1000000000 := by omega
  have HUN := Aside0.mk huu
  have HBL := Aside0.mk hbl
  have HI := Aside0.mk hI
  have HF := Aside0.mk (And.intro hlt (And.intro hI.cs.lt hI.bel.size))
  have HS := Aside0.mk (And.intro hs (And.intro hn1 (And.intro hm (And.intro hI.og (And.intro hI.hO hI.co)))))
  have HOM := Aside0.mk (hI.om pre.length hp)
  have HK := Aside0.mk (And.intro hcl (And.intro hrl hbs))
  have HP := Aside0.mk hp
  have HLN := Aside0.mk (And.intro (Nat.le_trans hL.short (Nat.le_trans (Nat.le_add_right _ _) hb)) (show m ≤ 4096 by rw [hm]; exact hml))
  have cl : W.cell? ⟨Y.bl, 0, none⟩ = some (.slice Y.Al Y.ls.length Y.cl) := blk_cell hI.cs.l 0
  have HF1 := Aside0.mk (show ∀ w1, InvL Y w0 w1 (pre ++ L :: σ) O → ∃ ad, Y.Aw = some ad ∧ w1.cell? ⟨Y.bw, 0, none⟩ = some (.slice (some ad) Y.W.length Y.cw) ∧ w1.cell? (ad.add pre.length) = some (.int .i64 w) ∧ w1.cell? ⟨Y.bb, 0, none⟩ = some (.func (.func 103) #[] #[.pointer (some ⟨Y.bm, 0, none⟩)]) from fun w1 h1 => by
    obtain ⟨ad, cs, e, hl, hK, hcell⟩ := Kd.C_get (Kd.C_below hx.wrg h1.bel) 0 (pre.length : Int) (by omega) (by omega)
    obtain rfl : cs = [.int .i64 (Y.W.getD (pre.length : Int).toNat 0)] := hK
    have hz := hcell 0 _ rfl
    refine ⟨ad, e, by rw [← e]; exact blk_cell h1.cs.w 0, ?_, blk_cell h1.cs.b 0⟩
    have hz2 : w1.cell? (ad.add pre.length) = some (.int .i64 (Y.W.getD (pre.length : Int).toNat 0)) := by simpa [Kd.int, Kd.scalar] using hz
    rw [hz2]
    exact congrArg (fun x => some (Value.int .i64 x)) hrd)
  have HF4 := Aside0.mk (show ∀ w1 P, InvL Y w0 w1 (pre ++ L :: r.2) P → w1.cell? ⟨Y.bs, 0, none⟩ = some (.slice (some ⟨Y.gs, 0, none⟩) n1 n1) ∧ w1.cell? ⟨Y.gs, s, none⟩ = some (.map (some (Y.ms s))) ∧ (Instr.lookup 111 (.map (some (Y.ms s))) (.string (strOfNums (keyB r.1))) true).run Try.prog w1 = .ok (.tuple #[.int .i64 0, .bool false]) w1 from fun w1 P h1 => by
    refine ⟨by rw [hn1]; exact blk_cell h1.cs.s 0, cells_map h1.cs.gs (by omega), ?_⟩
    rw [hs, seen_run h1 hw hL hcl hrl hg1, hfd]; rfl)
  have HNEW := Aside0.mk (show ∀ w1 P, InvL Y w0 w1 (pre ++ L :: r.2) P → (Builtin.len_ #[111] 3 #[.map (some (Y.ms s))]).run Try.prog w1 = .ok (.int .i64 ((L.rows.length / pw w : Nat) : Int)) w1 ∧
      ∃ W', (Instr.mapUpdate 111 (.map (some (Y.ms s))) (.string (strOfNums (keyB r.1))) (.int .i64 ((L.rows.length / pw w : Nat) : Int))).run Try.prog w1 = .ok () W' ∧ w1.mapTurned W' (Y.ms s) ∧ InvD Y w0 W' ((pre ++ L :: r.2).map Lv.rows) (List.zipWith seenData Y.W (pre ++ ⟨L.rows ++ r.1, L.ev⟩ :: r.2)) ((pre ++ L :: r.2).map evData) P from fun w1 P h1 => by
    rw [hs]
    exact ⟨seen_len h1 hw hL, seen_store h1 hw hp hL hbs hcl hrl _⟩)
  have hput : putP (pw w) L.rows r.1 = (((L.rows.length / pw w : Nat) : Int), L.rows ++ r.1) := by unfold putP; rw [hfd]
  rw [hput]
  simp only
  rw [if_neg (show ¬ (false : Bool) = true by decide)]
  obtain ⟨m1, m2⟩ := HMM.out
  obtain ⟨q1, q2, q3, q4⟩ := hquo.out
  have hsh2 := shl_raw w1' w2'
  rw [← hm] at hsh2
  have hc1 := fun (args : Array Value) (w : World) => enters_ Try.func103 (by kernel_rfl) rfl args w
  clear hs hn1 he hcast hlt hI hb hx huu hzp hp hu hv hw hL hcl hg1 hg2 hbl hm hzzz hn3 hmp hml hzz hz0 hσ hN e1 e2 w1' w2' hrd hud hrl hbs hput hfd 
  generalize ((L.rows.length / pw w : Nat) : Int) = q at *
  go_enter Try.func104, Try.ntmps104
  go_wp2_with (go_at_call 105; refine HUN.out.mono ?_; rintro x w1 ⟨rfl, hb1⟩; have hI1 := HI.out.below hb1; have cn : w1.cell? ⟨Y.bn, 0, none⟩ = some (.int .i64 (Y.W.length : Int)) := blk_cell hI1.cs.n 0; obtain ⟨ad, had, cw, caw, cbb⟩ := HF1.out w1 hI1; clear had)
  refine wp_region_still_tail 7 (by kernel_rfl) (by kernel_rfl) ?_
  simp only [List.take_succ_cons, List.take_zero, List.drop_succ_cons, List.drop_zero]
  have ew : ({ heap := w1.heap, tape := w1.tape, drawn := w1.drawn + 1, os := w1.os, output := w1.output } : World) = w1.drew := rfl
  rw [ew]
  clear ew
  have hI2 := hI1.below (W' := w1.drew) (below_drew1 (Below.refl _ _))
  have hs2 : Below W.heap.size W w1.drew := below_drew1 hb1
  generalize w1.drew = w2 at hI2 hs2 ⊢
  clear cw caw cbb hI1 hb1 cn cl
  obtain ⟨ad2, had2, cw2, caw2, cbb2⟩ := HF1.out w2 hI2
  clear had2
  have HB2 := Aside0.mk (HBL.out w2 hI2 (fun b hb => by have := HF.out.1 b hb; have := hs2.size; omega))
  have HS2 := Aside0.mk hs2
  clear hI2 hs2
  repeat still_step
  refine wpStill_nil ?_
  go_wp2_with (first | (go_at_call 103; refine HB2.out.mono ?_; rintro x w3 ⟨rfl, hO3, hI3, hk3⟩) | (go_at_call 106; refine (key_calls' _ m m r.1 w3 (by rw [HS.out.2.2.1]; exact HK.out.1.symm) (OutIs.C hO3 (by rw [HS.out.2.2.1]; exact HK.out.1) (by have := HK.out.2.1; rw [HK.out.1, ← HS.out.2.2.1] at this; omega)) (Nat.le_refl _) (by have := HK.out.2.1; rw [HK.out.1, ← HS.out.2.2.1] at this; exact this)).mono ?_; rintro x w4 ⟨rfl, hb4⟩; have hI4 := (show InvL Y w0 w3 (pre ++ L :: r.2) _ from by have h := hI3; rw [List.append_assoc] at h; exact h).below hb4; obtain ⟨cs4, cgs4, hlk4⟩ := HF4.out w4 _ hI4; clear cw2 caw2 cbb2; obtain ⟨hln4, w5, hup5, ht5, hI5⟩ := HNEW.out w4 _ hI4))
  rename_i K9 hK9
  have hO5 := (hO3.below hb4).turned ht5
  have hI6 := hI5.below (W' := w5.drew) (below_drew1 (Below.refl _ _))
  have hO6 := hO5.below (W' := w5.drew) (below_drew1 (Below.refl _ _))
  have hk6 : Kp (fun b => b = Y.ms s) w4 w5.drew := (Kp.of_turned ht5).drew
  obtain ⟨A6, c6, h0, hs6, hg6, hat6, hr6, cz6, ct6, hoo6⟩ := head_at hI6 HP.out
  rw [← HS.out.1] at cz6
  rw [← HS.out.2.1] at ct6
  have HR6 := Aside0.mk hr6
  have HG6 := Aside0.mk (And.intro hg6 (And.intro hat6 hoo6))
  have HI6 := Aside0.mk hI6
  have HC6 := Aside0.mk (OutIs.C hO6 (by rw [HS.out.2.2.1]; exact HK.out.1) (by have := HK.out.2.1; rw [HK.out.1, ← HS.out.2.2.1] at this; omega))
  have HZ := Aside0.mk (And.intro hb4 (And.intro hk6 hk3))
  clear hI5 hI6 hO5 hO6 hk6 ht5 hup5 hln4 hlk4 cs4 cgs4 hI4 hb4 hO3 hI3 hr6 hg6 hat6 hk3 hoo6
  refine start_ (n := 12) (S := fun w' => w'.cell? ⟨Y.bt, 1, none⟩ = some (.slice (some ⟨Y.gt, 0, none⟩) n1 n1) ∧ w'.cell? ⟨Y.gt, s, none⟩ = some (.slice A6 L.rows.length c6)) (ds := [11]) #[false, false, false, false, false, false, false, false, false, false, false, false] (by kernel_rfl) rfl rfl ⟨ct6, cz6⟩ (fun hHeld => ?_)
  refine with_tabW nm104.tab15 nm104.bits15 (fun HT_ HW_ => ?_)
  generalize w5.drew = w6 at HR6 HG6 HI6 HC6 HZ cz6 ct6 hHeld ⊢
  refine pure_ (i := 0) (N := some 86) (v := ?_) (a' := ?_) #[true, false, false, false, false, false, false, false, false, false, false, false] rfl rfl (any_of HT_.out (by kernel_rfl)) (fun _ _ _ h => h) (Or.inl ⟨by rfl, ?_⟩) ?_ ?_
  rotate_left
  · intro w'
    go_simp
    with_reducible rfl
  rotate_left
  · simp only [Act.put, List.setIfInBounds_toArray, List.set_cons_zero, List.set_cons_succ, i64_w, i32_w]
    rfl
  refine pure_ (i := 2) (N := some 88) (v := ?_) (a' := ?_) #[true, false, true, false, false, false, false, false, false, false, false, false] rfl rfl (any_of HT_.out (by kernel_rfl)) (fun _ _ _ h => h) (Or.inl ⟨by rfl, ?_⟩) ?_ ?_
  rotate_left
  · intro w'
    go_simp
    with_reducible rfl
  rotate_left
  · simp only [Act.put, List.setIfInBounds_toArray, List.set_cons_zero, List.set_cons_succ, i64_w, i32_w]
    rfl
  refine pure_ (i := 3) (N := some 89) (v := ?_) (a' := ?_) #[true, false, true, true, false, false, false, false, false, false, false, false] rfl rfl (any_of HT_.out (by kernel_rfl)) (fun _ _ _ h => h) (Or.inl ⟨by rfl, ?_⟩) ?_ ?_
  rotate_left
  · intro w'
    go_simp
    with_reducible rfl
  rotate_left
  · simp only [Act.put, List.setIfInBounds_toArray, List.set_cons_zero, List.set_cons_succ, i64_w, i32_w]
    rfl
  refine pure_ (i := 5) (N := some 91) (v := ?_) (a' := ?_) #[true, false, true, true, false, true, false, false, false, false, false, false] rfl rfl (any_of HT_.out (by kernel_rfl)) (fun _ _ _ h => h) (Or.inl ⟨by rfl, ?_⟩) ?_ ?_
  rotate_left
  · intro w'
    go_simp
    with_reducible rfl
  rotate_left
  · simp only [Act.put, List.setIfInBounds_toArray, List.set_cons_zero, List.set_cons_succ, i64_w, i32_w]
    rfl
  refine pure_ (i := 8) (N := some 94) (v := ?_) (a' := ?_) #[true, false, true, true, false, true, false, false, true, false, false, false] rfl rfl (any_of HT_.out (by kernel_rfl)) (fun _ _ _ h => h) (Or.inl ⟨by rfl, ?_⟩) ?_ ?_
  rotate_left
  · intro w'
    go_simp
    with_reducible rfl
  rotate_left
  · simp only [Act.put, List.setIfInBounds_toArray, List.set_cons_zero, List.set_cons_succ, i64_w, i32_w]
    rfl
  refine take_ (i := 1) (N := some 87) (v := ?_) (a' := ?_) #[true, true, true, true, false, true, false, false, true, false, false, false] rfl rfl (take_ofW HT_.out HW_.out (by kernel_rfl)) (fun _ _ _ h => h) (Or.inl ⟨by rfl, ?_⟩) hHeld ?_ ?_
  rotate_left
  · rintro w' ⟨s0, s1⟩
    go_simp
    with_reducible rfl
  rotate_left
  · simp only [Act.put, List.setIfInBounds_toArray, List.set_cons_zero, List.set_cons_succ, i64_w, i32_w]
    rfl
  refine take_ (i := 4) (N := some 90) (v := ?_) (a' := ?_) #[true, true, true, true, true, true, false, false, true, false, false, false] rfl rfl (take_ofW HT_.out HW_.out (by kernel_rfl)) (fun _ _ _ h => h) (Or.inl ⟨by rfl, ?_⟩) hHeld ?_ ?_
  rotate_left
  · rintro w' ⟨s0, s1⟩
    go_simp
    with_reducible rfl
  rotate_left
  · simp only [Act.put, List.setIfInBounds_toArray, List.set_cons_zero, List.set_cons_succ, i64_w, i32_w]
    rfl
  refine pure_ (i := 6) (N := some 92) (v := ?_) (a' := ?_) #[true, true, true, true, true, true, true, false, true, false, false, false] rfl rfl (any_of HT_.out (by kernel_rfl)) (fun _ _ _ h => h) (Or.inl ⟨by rfl, ?_⟩) ?_ ?_
  rotate_left
  · intro w'
    go_simp
    with_reducible rfl
  rotate_left
  · simp only [Act.put, List.setIfInBounds_toArray, List.set_cons_zero, List.set_cons_succ, i64_w, i32_w]
    rfl
  refine take_ (i := 7) (N := some 93) (v := ?_) (a' := ?_) #[true, true, true, true, true, true, true, true, true, false, false, false] rfl rfl (take_ofW HT_.out HW_.out (by kernel_rfl)) (fun _ _ _ h => h) (Or.inl ⟨by rfl, ?_⟩) hHeld ?_ ?_
  rotate_left
  · rintro w' ⟨s0, s1⟩
    go_simp
    with_reducible rfl
  rotate_left
  · simp only [Act.put, List.setIfInBounds_toArray, List.set_cons_zero, List.set_cons_succ, i64_w, i32_w]
    rfl
  refine one_ (i := 9) (N := some 95) #[true, true, true, true, true, true, true, true, true, true, false, false] rfl rfl (one_of HT_.out (by kernel_rfl)) (by decide) (fun K hK => ?_)
  refine Kd.R_append_rows_step (Kd.int .i64) (w0 := w0) w0.heap.size (by rfl) (.tmp 93) (.tmp 94) 26 3 (.int .i64 0) 8 rfl Try.underlying26 info3 rfl (by decide) (by decide) (.slice A6 L.rows.length c6) L.rows r.1 (some ⟨w2.heap.size, 0, none⟩) m m (fun _ => True) (fun _ => False) rfl rfl HR6.out HC6.out (fun _ _ h => h) (fun _ h => h.elim) (fun _ _ => trivial) HI6.out.bel HI6.out.bel.size ?aL ?_
  (case aL => have h1 := HLN.out.1; have h2 := HLN.out.2; clear q1 q2 q3 q4 m1 m2 hsh2; omega)
  intro v7 w7 ho hb7 hg7 hat7
  obtain ⟨A7, c7, rfl⟩ := Kd.R_slice ho
  obtain ⟨hz7, hf7⟩ := head_put (i := s) HR6.out HG6.out.1 (by have := HG6.out.2.1; rw [HS.out.1]; simpa using this) hg7
  have hct7 : w7.cell? ⟨Y.bt, 1, none⟩ = _ := blk_cell ((Kp.of_grownBy hg7).heap HI6.out.cs.t (fun e => HR6.out.ne HI6.out.cs.t (by decide) e)) 1
  replace hct7 := hct7.trans (show _ = some (Value.slice (some ⟨Y.gt, 0, none⟩) n1 n1) by rw [HS.out.2.1]; rfl)
  have hI7 := rowSet_mid HI6.out HG6.out.1 HG6.out.2.1 hg7 ho hat7 L.ev
  rw [← HS.out.1] at hI7
  clear cz6 ct6
  refine hK.out _ _ ⟨hct7, hz7⟩ (fun hHeld => ?_)
  clear hK K
  refine norm_ (a' := ?_) ?_ ?_
  rotate_left
  · show Act.put _ (some 95) _ = _
    simp only [Act.put, List.setIfInBounds_toArray, List.set_cons_zero, List.set_cons_succ, i64_w, i32_w]
    rfl
  refine pure_ (i := 10) (N := some 96) (v := ?_) (a' := ?_) #[true, true, true, true, true, true, true, true, true, true, true, false] rfl rfl (any_of HT_.out (by kernel_rfl)) (fun _ _ _ h => h) (Or.inl ⟨by rfl, ?_⟩) ?_ ?_
  rotate_left
  · intro w'
    go_simp
    with_reducible rfl
  rotate_left
  · simp only [Act.put, List.setIfInBounds_toArray, List.set_cons_zero, List.set_cons_succ, i64_w, i32_w]
    rfl
  refine last_ (i := 11) (N := none) #[true, true, true, true, true, true, true, true, true, true, true, true] rfl rfl (one_of HT_.out (by kernel_rfl)) (by decide) (fun K hK => ?_)
  refine skip_ (w1 := ?_) (by rfl) rfl ?_ ?_
  rotate_left
  · go_simp
    rfl
  refine hK.out _ _ ?_
  clear hK K
  refine done_ (done_of HT_.out (by kernel_rfl)) ?_
  refine hK9 _ _ ?_
  have hs8 := size_set w7 ⟨Y.gt, s, none⟩ (.slice A7 (L.rows ++ r.1).length c7)
  have hk8 : Kp (fun b => O b ∨ w2.heap.size ≤ b) w6 (w7.setCell ⟨Y.gt, s, none⟩ (.slice A7 (L.rows ++ r.1).length c7)) := Kp.set ((Kp.of_grownBy hg7).mono (fun b hb => (HG6.out.2.2 b hb.symm).1)) (.inl (.inl HS.out.2.2.2.1)) _
  have hk9 : Kp (fun b => O b ∨ w2.heap.size ≤ b) w3 (w7.setCell ⟨Y.gt, s, none⟩ (.slice A7 (L.rows ++ r.1).length c7)) := (((Below.kp HZ.out.1).mono (S2 := fun b => O b ∨ w2.heap.size ≤ b) (fun _ h => h.elim)).then_ HZ.out.2.1 (fun b hb => .inl (.inl (by rw [hb, HS.out.1]; exact HOM.out.1)))).then_ hk8 (fun b hb => .inl hb)
  clear hz7 hf7 hct7 hg7 hat7 ho hb7
  simp only [List.length_append] at hI7 hs8 hk8 hk9 ⊢
  generalize w7.setCell ⟨Y.gt, s, none⟩ (.slice A7 (L.rows.length + r.1.length) c7) = w8 at hI7 hs8 hk8 hk9 ⊢
  have hOn : ∀ b, (Ox O w2.heap.size w2.heap.size w3 b ∨ w6.heap.size ≤ b) → b < w8.heap.size → (O b ∨ w2.heap.size ≤ b) ∧ b < w8.heap.size := fun b hb hl => ⟨hb.elim (fun h => h.1) (fun h => .inr (by have h1 := HZ.out.1.size; have h2 := HZ.out.2.1.size; have h3 := HZ.out.2.2.size; omega)), hl⟩
  have hIL := InvL.of (L' := ⟨L.rows ++ r.1, L.ev⟩) hI7 rfl rfl rfl
  go_wp2
  go_ret
  exact ⟨rfl, num_fin HS2.out HF.out HS.out.2.2.2.2.1 HS.out.2.2.2.2.2 HZ.out.2.2 (fun b => O b ∨ w2.heap.size ≤ b) hk9 (fun b hb => hb) (InvL.restrict hIL) (fun b hb => hOn b hb.1 hb.2)⟩
set_option maxHeartbeats 4000000 in
set_option maxRecDepth 100000 in
theorem number_other_old {Y : Lay} {w0 : World} (hx : Ctx Y w0) {w : Int} {ws : List Int} (hN : NumC Y w0 ws) {pre : List Lv} {ps : List Int} {σ : List Lv} {L : Lv} {base : Nat} {O : Nat → Prop} {W : World} (e1 : ps ++ w :: ws = Y.W) (e2 : pre.length = ps.length) (hI : InvL Y w0 W (pre ++ L :: σ) O) (hlt : ∀ b, O b → b < W.heap.size) (hL : GoodL (pw w) base L) (hσ : GoodS ws σ base) (hb : base + szW (w :: ws) ≤ 1114112)
    (hu : (Y.U base (base + szW (w :: ws))).2 = false) {j : Nat} (hfd : findP (pw w) L.rows (manyP (fun k => numP Y.U ws (base + k * szW ws)) (pw w) σ).1 = some j) :
    Calls Try.prog 104 #[.int .i64 ((pre.length : Int) + 1), .int .i64 (base : Int), .int .i64 (szW (w :: ws) : Int), ptr Y.bl, ptr Y.bn, ptr Y.ba, ptr Y.bw, ptr Y.bb, ptr Y.bs, ptr Y.bt] W fun e W' => e = .returned (.int .i64 (numP Y.U (w :: ws) base (L :: σ)).1) ∧ InvL Y w0 W' (pre ++ (numP Y.U (w :: ws) base (L :: σ)).2) (On O W.heap.size W') ∧ Kp O W W' := by
  obtain ⟨hw, hp, hrd⟩ := at_mid e1 e2
  obtain ⟨w1', w2'⟩ := hx.ws w (List.mem_of_getElem? hw)
  have hn3 := hx.n3
  rw [numP]
  have hmp := pw_pos w
  have hml := pw_le w2'
  have hzz := szW_pos ws
  have hbl := fun (w1 : World) (h1 : InvL Y w0 w1 (pre ++ L :: σ) O) (h2 : ∀ b, O b → b < w1.heap.size) => block_calls Y w0 hx.hU hN (pre ++ [L]) (ps ++ [w]) σ base (pw w) O w1 (by rw [← e1]; simp) (by simp [e2]) (by rw [List.append_assoc]; exact h1) h2 hσ hmp hb (by simp; omega)
  obtain ⟨hg1, hg2⟩ := many_good hx.hU ws base σ hσ (pw w) hb
  have hcl := manyP_len (fun k => numP Y.U ws (base + k * szW ws)) σ (pw w)
  have hz0 : szW (w :: ws) = pw w * szW ws := rfl
  have hquo := Aside0.mk (quo_facts hz0 hmp (Nat.le_trans (Nat.le_add_left _ _) hb))
  generalize manyP (fun k => numP Y.U ws (base + k * szW ws)) (pw w) σ = r at hbl hg1 hg2 hcl hfd ⊢
  obtain ⟨s, hs⟩ : ∃ s, s = pre.length + 1 := ⟨_, rfl⟩
  obtain ⟨n1, hn1⟩ : ∃ n1, n1 = Y.W.length + 1 := ⟨_, rfl⟩
  have hzp := szW_pos (w :: ws)
  obtain ⟨m, hm⟩ : ∃ m, m = pw w := ⟨_, rfl⟩
  obtain ⟨zz, hzzz⟩ : ∃ zz, zz = szW ws := ⟨_, rfl⟩
  generalize szW (w :: ws) = z at hb hu hzp hz0 hquo ⊢
  obtain ⟨e, he⟩ : ∃ e, e = base + z := ⟨_, rfl⟩
  have hcast : (pre.length : Int) + 1 = (s : Int) := by omega
  rw [hcast, ← he]
  rw [← he] at hu 
  unfold ptr at hbl ⊢
  simp only [List.length_append, List.length_singleton, ← hs, ← hm, ← hzzz] at hbl
  rw [← hm, ← hzzz] at hquo
  have huu := hx.unif hI.bel (base := base) (e := e) (by omega) (by omega)
  have hv := hx.hU base e
  have hud : Y.U base e = ((Y.U base e).1, false) := by rw [← hu]
  rw [hud]
  rw [hu] at huu
  generalize (Y.U base e).1 = v at huu hv ⊢
  rw [hitP_false]
  simp only
  have q5 : (m = 0) = False := eq_false (by rw [hm]; exact Nat.pos_iff_ne_zero.1 hmp)
  have HMM := Aside0.mk (And.intro (w_addn base z e he (by omega)) (w_sub1 s pre.length hcast (by omega)))
  have t1 : decide (Y.W.length < s) = false := decide_eq_false (by omega)
  have k1 := eq_true (show s < n1 by omega)
  have k2 : decide ((0 : Int) ≤ (s : Int)) = true := decide_eq_true (Int.natCast_nonneg s)
  have k3 := eq_true (show (s : Int) < (n1 : Int) by omega)
  have j1 := eq_true hp
  have j2 : decide ((0 : Int) ≤ (pre.length : Int)) = true := decide_eq_true (Int.natCast_nonneg _)
  have j3 := eq_true (show (pre.length : Int) < (Y.W.length : Int) by omega)
  have wp1 : decide (0 ≤ w) = true := decide_eq_true (by omega)
  have wp2 := eq_true (show 0 ≤ w by omega)
  have wp3 : decide (w < 0) = false := decide_eq_false (by omega)
  have hrl : r.1.length ≤ 1000000000 := by omega
  have hbs : base ≤ 1000000000 := by omega
  have HUN := Aside0.mk huu
  have HBL := Aside0.mk hbl
  have HI := Aside0.mk hI
  have HF := Aside0.mk (And.intro hlt (And.intro hI.cs.lt hI.bel.size))
  have HS := Aside0.mk (And.intro hs (And.intro hn1 (And.intro hm (And.intro hI.og (And.intro hI.hO hI.co)))))
  have HOM := Aside0.mk (hI.om pre.length hp)
  have HK := Aside0.mk (And.intro hcl (And.intro hrl hbs))
  have HP := Aside0.mk hp
  have HLN := Aside0.mk (And.intro (Nat.le_trans hL.short (Nat.le_trans (Nat.le_add_right _ _) hb)) (show m ≤ 4096 by rw [hm]; exact hml))
  have cl : W.cell? ⟨Y.bl, 0, none⟩ = some (.slice Y.Al Y.ls.length Y.cl) := blk_cell hI.cs.l 0
  have HF1 := Aside0.mk (show ∀ w1, InvL Y w0 w1 (pre ++ L :: σ) O → ∃ ad, Y.Aw = some ad ∧ w1.cell? ⟨Y.bw, 0, none⟩ = some (.slice (some ad) Y.W.length Y.cw) ∧ w1.cell? (ad.add pre.length) = some (.int .i64 w) ∧ w1.cell? ⟨Y.bb, 0, none⟩ = some (.func (.func 103) #[] #[.pointer (some ⟨Y.bm, 0, none⟩)]) from fun w1 h1 => by
    obtain ⟨ad, cs, e, hl, hK, hcell⟩ := Kd.C_get (Kd.C_below hx.wrg h1.bel) 0 (pre.length : Int) (by omega) (by omega)
    obtain rfl : cs = [.int .i64 (Y.W.getD (pre.length : Int).toNat 0)] := hK
    have hz := hcell 0 _ rfl
    refine ⟨ad, e, by rw [← e]; exact blk_cell h1.cs.w 0, ?_, blk_cell h1.cs.b 0⟩
    have hz2 : w1.cell? (ad.add pre.length) = some (.int .i64 (Y.W.getD (pre.length : Int).toNat 0)) := by simpa [Kd.int, Kd.scalar] using hz
    rw [hz2]
    exact congrArg (fun x => some (Value.int .i64 x)) hrd)
  have HF4 := Aside0.mk (show ∀ w1 P, InvL Y w0 w1 (pre ++ L :: r.2) P → w1.cell? ⟨Y.bs, 0, none⟩ = some (.slice (some ⟨Y.gs, 0, none⟩) n1 n1) ∧ w1.cell? ⟨Y.gs, s, none⟩ = some (.map (some (Y.ms s))) ∧ (Instr.lookup 111 (.map (some (Y.ms s))) (.string (strOfNums (keyB r.1))) true).run Try.prog w1 = .ok (.tuple #[.int .i64 (j : Int), .bool true]) w1 from fun w1 P h1 => by
    refine ⟨by rw [hn1]; exact blk_cell h1.cs.s 0, cells_map h1.cs.gs (by omega), ?_⟩
    rw [hs, seen_run h1 hw hL hcl hrl hg1, hfd]; rfl)
  have hput : putP (pw w) L.rows r.1 = ((j : Int), L.rows) := by unfold putP; rw [hfd]
  rw [hput]
  simp only
  rw [if_neg (show ¬ (false : Bool) = true by decide)]
  obtain ⟨m1, m2⟩ := HMM.out
  obtain ⟨q1, q2, q3, q4⟩ := hquo.out
  have hsh2 := shl_raw w1' w2'
  rw [← hm] at hsh2
  have hc1 := fun (args : Array Value) (w : World) => enters_ Try.func103 (by kernel_rfl) rfl args w
  clear hs hn1 he hcast hlt hI hb hx huu hzp hp hu hv hw hL hcl hg1 hg2 hbl hm hzzz hn3 hmp hml hzz hz0 hσ hN e1 e2 w1' w2' hrd hud hrl hbs hput hfd 
  go_enter Try.func104, Try.ntmps104
  go_wp2_with (go_at_call 105; refine HUN.out.mono ?_; rintro x w1 ⟨rfl, hb1⟩; have hI1 := HI.out.below hb1; have cn : w1.cell? ⟨Y.bn, 0, none⟩ = some (.int .i64 (Y.W.length : Int)) := blk_cell hI1.cs.n 0; obtain ⟨ad, had, cw, caw, cbb⟩ := HF1.out w1 hI1; clear had)
  refine wp_region_still_tail 7 (by kernel_rfl) (by kernel_rfl) ?_
  simp only [List.take_succ_cons, List.take_zero, List.drop_succ_cons, List.drop_zero]
  have ew : ({ heap := w1.heap, tape := w1.tape, drawn := w1.drawn + 1, os := w1.os, output := w1.output } : World) = w1.drew := rfl
  rw [ew]
  clear ew
  have hI2 := hI1.below (W' := w1.drew) (below_drew1 (Below.refl _ _))
  have hs2 : Below W.heap.size W w1.drew := below_drew1 hb1
  generalize w1.drew = w2 at hI2 hs2 ⊢
  clear cw caw cbb hI1 hb1 cn cl
  obtain ⟨ad2, had2, cw2, caw2, cbb2⟩ := HF1.out w2 hI2
  clear had2
  have HB2 := Aside0.mk (HBL.out w2 hI2 (fun b hb => by have := HF.out.1 b hb; have := hs2.size; omega))
  have HS2 := Aside0.mk hs2
  clear hI2 hs2
  repeat still_step
  refine wpStill_nil ?_
  go_wp2_with (first | (go_at_call 103; refine HB2.out.mono ?_; rintro x w3 ⟨rfl, hO3, hI3, hk3⟩) | (go_at_call 106; refine (key_calls' _ m m r.1 w3 (by rw [HS.out.2.2.1]; exact HK.out.1.symm) (OutIs.C hO3 (by rw [HS.out.2.2.1]; exact HK.out.1) (by have := HK.out.2.1; rw [HK.out.1, ← HS.out.2.2.1] at this; omega)) (Nat.le_refl _) (by have := HK.out.2.1; rw [HK.out.1, ← HS.out.2.2.1] at this; exact this)).mono ?_; rintro x w4 ⟨rfl, hb4⟩; have hI4 := (show InvL Y w0 w3 (pre ++ L :: r.2) _ from by have h := hI3; rw [List.append_assoc] at h; exact h).below hb4; obtain ⟨cs4, cgs4, hlk4⟩ := HF4.out w4 _ hI4; clear cw2 caw2 cbb2))
  go_ret
  exact ⟨rfl, num_fin HS2.out HF.out HS.out.2.2.2.2.1 HS.out.2.2.2.2.2 hk3 (fun _ => False) (Below.kp hb4) (fun _ h => h.elim) hI4 (fun b hb => ⟨hb.1, by have := hb4.size; have := hb.2.2; omega⟩)⟩
set_option maxHeartbeats 4000000 in
set_option maxRecDepth 100000 in
theorem number_same_new {Y : Lay} {w0 : World} (hx : Ctx Y w0) {w : Int} {ws : List Int} (hN : NumC Y w0 ws) {pre : List Lv} {ps : List Int} {σ : List Lv} {L : Lv} {base : Nat} {O : Nat → Prop} {W : World} (e1 : ps ++ w :: ws = Y.W) (e2 : pre.length = ps.length) (hI : InvL Y w0 W (pre ++ L :: σ) O) (hlt : ∀ b, O b → b < W.heap.size) (hL : GoodL (pw w) base L) (hσ : GoodS ws σ base) (hb : base + szW (w :: ws) ≤ 1114112)
    (hu : (Y.U base (base + szW (w :: ws))).2 = true) (hh : L.ev.lookup (Y.U base (base + szW (w :: ws))).1 = none) (hfd : findP (pw w) L.rows (manyP (fun k => numP Y.U ws (base + k * szW ws)) (pw w) σ).1 = none) :
    Calls Try.prog 104 #[.int .i64 ((pre.length : Int) + 1), .int .i64 (base : Int), .int .i64 (szW (w :: ws) : Int), ptr Y.bl, ptr Y.bn, ptr Y.ba, ptr Y.bw, ptr Y.bb, ptr Y.bs, ptr Y.bt] W fun e W' => e = .returned (.int .i64 (numP Y.U (w :: ws) base (L :: σ)).1) ∧ InvL Y w0 W' (pre ++ (numP Y.U (w :: ws) base (L :: σ)).2) (On O W.heap.size W') ∧ Kp O W W' := by
  obtain ⟨hw, hp, hrd⟩ := at_mid e1 e2
  obtain ⟨w1', w2'⟩ := hx.ws w (List.mem_of_getElem? hw)
  have hn3 := hx.n3
  rw [numP]
  have hmp := pw_pos w
  have hml := pw_le w2'
  have hzz := szW_pos ws
  have hbl := fun (w1 : World) (h1 : InvL Y w0 w1 (pre ++ L :: σ) O) (h2 : ∀ b, O b → b < w1.heap.size) => block_calls Y w0 hx.hU hN (pre ++ [L]) (ps ++ [w]) σ base (pw w) O w1 (by rw [← e1]; simp) (by simp [e2]) (by rw [List.append_assoc]; exact h1) h2 hσ hmp hb (by simp; omega)
  obtain ⟨hg1, hg2⟩ := many_good hx.hU ws base σ hσ (pw w) hb
  have hcl := manyP_len (fun k => numP Y.U ws (base + k * szW ws)) σ (pw w)
  have hz0 : szW (w :: ws) = pw w * szW ws := rfl
  have hquo := Aside0.mk (quo_facts hz0 hmp (Nat.le_trans (Nat.le_add_left _ _) hb))
  generalize manyP (fun k => numP Y.U ws (base + k * szW ws)) (pw w) σ = r at hbl hg1 hg2 hcl hfd ⊢
  obtain ⟨s, hs⟩ : ∃ s, s = pre.length + 1 := ⟨_, rfl⟩
  obtain ⟨n1, hn1⟩ : ∃ n1, n1 = Y.W.length + 1 := ⟨_, rfl⟩
  have hzp := szW_pos (w :: ws)
  obtain ⟨m, hm⟩ : ∃ m, m = pw w := ⟨_, rfl⟩
  obtain ⟨zz, hzzz⟩ : ∃ zz, zz = szW ws := ⟨_, rfl⟩
  generalize szW (w :: ws) = z at hb hu hzp hz0 hquo hh ⊢
  obtain ⟨e, he⟩ : ∃ e, e = base + z := ⟨_, rfl⟩
  have hcast : (pre.length : Int) + 1 = (s : Int) := by omega
  rw [hcast, ← he]
  rw [← he] at hu hh
  unfold ptr at hbl ⊢
  simp only [List.length_append, List.length_singleton, ← hs, ← hm, ← hzzz] at hbl
  rw [← hm, ← hzzz] at hquo
  have huu := hx.unif hI.bel (base := base) (e := e) (by omega) (by omega)
  have hv := hx.hU base e
  have hud : Y.U base e = ((Y.U base e).1, true) := by rw [← hu]
  rw [hud]
  rw [hu] at huu
  generalize (Y.U base e).1 = v at huu hv hh ⊢
  rw [hitP_true, hh]
  simp only
  have q5 : (m = 0) = False := eq_false (by rw [hm]; exact Nat.pos_iff_ne_zero.1 hmp)
  have HMM := Aside0.mk (And.intro (w_addn base z e he (by omega)) (w_sub1 s pre.length hcast (by omega)))
  have t1 : decide (Y.W.length < s) = false := decide_eq_false (by omega)
  have k1 := eq_true (show s < n1 by omega)
  have k2 : decide ((0 : Int) ≤ (s : Int)) = true := decide_eq_true (Int.natCast_nonneg s)
  have k3 := eq_true (show (s : Int) < (n1 : Int) by omega)
  have j1 := eq_true hp
  have j2 : decide ((0 : Int) ≤ (pre.length : Int)) = true := decide_eq_true (Int.natCast_nonneg _)
  have j3 := eq_true (show (pre.length : Int) < (Y.W.length : Int) by omega)
  have wp1 : decide (0 ≤ w) = true := decide_eq_true (by omega)
  have wp2 := eq_true (show 0 ≤ w by omega)
  have wp3 : decide (w < 0) = false := decide_eq_false (by omega)
  have hrl : r.1.length ≤ 1000000000 := by omega
  have hbs : base ≤ 1000000000 := by omega
  have HUN := Aside0.mk huu
  have HBL := Aside0.mk hbl
  have HI := Aside0.mk hI
  have HF := Aside0.mk (And.intro hlt (And.intro hI.cs.lt hI.bel.size))
  have HS := Aside0.mk (And.intro hs (And.intro hn1 (And.intro hm (And.intro hI.og (And.intro hI.hO hI.co)))))
  have HOM := Aside0.mk (hI.om pre.length hp)
  have HK := Aside0.mk (And.intro hcl (And.intro hrl hbs))
  have HP := Aside0.mk hp
  have HLN := Aside0.mk (And.intro (Nat.le_trans hL.short (Nat.le_trans (Nat.le_add_right _ _) hb)) (show m ≤ 4096 by rw [hm]; exact hml))
  have cl : W.cell? ⟨Y.bl, 0, none⟩ = some (.slice Y.Al Y.ls.length Y.cl) := blk_cell hI.cs.l 0
  have HF1 := Aside0.mk (show ∀ w1, InvL Y w0 w1 (pre ++ L :: σ) O → ∃ ad, Y.Aw = some ad ∧ w1.cell? ⟨Y.bw, 0, none⟩ = some (.slice (some ad) Y.W.length Y.cw) ∧ w1.cell? (ad.add pre.length) = some (.int .i64 w) ∧ w1.cell? ⟨Y.bb, 0, none⟩ = some (.func (.func 103) #[] #[.pointer (some ⟨Y.bm, 0, none⟩)]) from fun w1 h1 => by
    obtain ⟨ad, cs, e, hl, hK, hcell⟩ := Kd.C_get (Kd.C_below hx.wrg h1.bel) 0 (pre.length : Int) (by omega) (by omega)
    obtain rfl : cs = [.int .i64 (Y.W.getD (pre.length : Int).toNat 0)] := hK
    have hz := hcell 0 _ rfl
    refine ⟨ad, e, by rw [← e]; exact blk_cell h1.cs.w 0, ?_, blk_cell h1.cs.b 0⟩
    have hz2 : w1.cell? (ad.add pre.length) = some (.int .i64 (Y.W.getD (pre.length : Int).toNat 0)) := by simpa [Kd.int, Kd.scalar] using hz
    rw [hz2]
    exact congrArg (fun x => some (Value.int .i64 x)) hrd)
  have HFA := Aside0.mk (show ∀ w1, InvL Y w0 w1 (pre ++ L :: σ) O → w1.cell? ⟨Y.ba, 0, none⟩ = some (.slice (some ⟨Y.ga, 0, none⟩) n1 n1) ∧ w1.cell? ⟨Y.ga, s, none⟩ = some (.map (some (Y.ma s))) ∧ (Instr.lookup 112 (.map (some (Y.ma s))) (.int .i64 v) true).run Try.prog w1 = .ok (.tuple #[.int .i64 0, .bool false]) w1 from fun w1 h1 => by
    refine ⟨by rw [hn1]; exact blk_cell h1.cs.a 0, cells_map h1.cs.ga (by omega), ?_⟩
    rw [hs, alike_run h1 hv, hh]; rfl)
  have HF4 := Aside0.mk (show ∀ w1 P, InvL Y w0 w1 (pre ++ L :: r.2) P → w1.cell? ⟨Y.bs, 0, none⟩ = some (.slice (some ⟨Y.gs, 0, none⟩) n1 n1) ∧ w1.cell? ⟨Y.gs, s, none⟩ = some (.map (some (Y.ms s))) ∧ (Instr.lookup 111 (.map (some (Y.ms s))) (.string (strOfNums (keyB r.1))) true).run Try.prog w1 = .ok (.tuple #[.int .i64 0, .bool false]) w1 from fun w1 P h1 => by
    refine ⟨by rw [hn1]; exact blk_cell h1.cs.s 0, cells_map h1.cs.gs (by omega), ?_⟩
    rw [hs, seen_run h1 hw hL hcl hrl hg1, hfd]; rfl)
  have HNEW := Aside0.mk (show ∀ w1 P, InvL Y w0 w1 (pre ++ L :: r.2) P → (Builtin.len_ #[111] 3 #[.map (some (Y.ms s))]).run Try.prog w1 = .ok (.int .i64 ((L.rows.length / pw w : Nat) : Int)) w1 ∧
      ∃ W', (Instr.mapUpdate 111 (.map (some (Y.ms s))) (.string (strOfNums (keyB r.1))) (.int .i64 ((L.rows.length / pw w : Nat) : Int))).run Try.prog w1 = .ok () W' ∧ w1.mapTurned W' (Y.ms s) ∧ InvD Y w0 W' ((pre ++ L :: r.2).map Lv.rows) (List.zipWith seenData Y.W (pre ++ ⟨L.rows ++ r.1, ((v, ((L.rows.length / pw w : Nat) : Int)) :: L.ev)⟩ :: r.2)) ((pre ++ L :: r.2).map evData) P from fun w1 P h1 => by
    rw [hs]
    exact ⟨seen_len h1 hw hL, seen_store h1 hw hp hL hbs hcl hrl _⟩)
  have HEV := Aside0.mk (show ∀ w1 rows sd P rws, InvD Y w0 w1 rows sd ((pre ++ L :: r.2).map evData) P → w1.cell? ⟨Y.ba, 0, none⟩ = some (.slice (some ⟨Y.ga, 0, none⟩) n1 n1) ∧ w1.cell? ⟨Y.ga, s, none⟩ = some (.map (some (Y.ma s))) ∧
      ∃ W', (Instr.mapUpdate 112 (.map (some (Y.ma s))) (.int .i64 v) (.int .i64 ((L.rows.length / pw w : Nat) : Int))).run Try.prog w1 = .ok () W' ∧ w1.mapTurned W' (Y.ma s) ∧ InvD Y w0 W' rows sd ((pre ++ ⟨rws, (v, ((L.rows.length / pw w : Nat) : Int)) :: L.ev⟩ :: r.2).map evData) P from fun w1 rows sd P rws h1 => by
    refine ⟨by rw [hn1]; exact blk_cell h1.cs.a 0, cells_map h1.cs.ga (by omega), ?_⟩
    rw [hs]
    exact alike_store h1 hp (by have := hL.few; omega) hv (i64in_nat (by have h2 := Nat.div_le_self L.rows.length (pw w); have h3 := hL.short; omega)) _)
  have hput : putP (pw w) L.rows r.1 = (((L.rows.length / pw w : Nat) : Int), L.rows ++ r.1) := by unfold putP; rw [hfd]
  rw [hput]
  simp only
  rw [if_pos trivial]
  obtain ⟨m1, m2⟩ := HMM.out
  obtain ⟨q1, q2, q3, q4⟩ := hquo.out
  have hsh2 := shl_raw w1' w2'
  rw [← hm] at hsh2
  have hc1 := fun (args : Array Value) (w : World) => enters_ Try.func103 (by kernel_rfl) rfl args w
  clear hs hn1 he hcast hlt hI hb hx huu hzp hp hu hv hw hL hcl hg1 hg2 hbl hm hzzz hn3 hmp hml hzz hz0 hσ hN e1 e2 w1' w2' hrd hud hrl hbs hput hfd hh
  generalize ((L.rows.length / pw w : Nat) : Int) = q at *
  go_enter Try.func104, Try.ntmps104
  go_wp2_with (go_at_call 105; refine HUN.out.mono ?_; rintro x w1 ⟨rfl, hb1⟩; have hI1 := HI.out.below hb1; have cn : w1.cell? ⟨Y.bn, 0, none⟩ = some (.int .i64 (Y.W.length : Int)) := blk_cell hI1.cs.n 0; obtain ⟨ad, had, cw, caw, cbb⟩ := HF1.out w1 hI1; clear had; obtain ⟨ca, cga, hlk⟩ := HFA.out w1 hI1)
  refine wp_region_still_tail 7 (by kernel_rfl) (by kernel_rfl) ?_
  simp only [List.take_succ_cons, List.take_zero, List.drop_succ_cons, List.drop_zero]
  have ew : ({ heap := w1.heap, tape := w1.tape, drawn := w1.drawn + 1, os := w1.os, output := w1.output } : World) = w1.drew := rfl
  rw [ew]
  clear ew
  have hI2 := hI1.below (W' := w1.drew) (below_drew1 (Below.refl _ _))
  have hs2 : Below W.heap.size W w1.drew := below_drew1 hb1
  generalize w1.drew = w2 at hI2 hs2 ⊢
  clear cw caw cbb hI1 hb1 cn cl ca cga hlk
  obtain ⟨ad2, had2, cw2, caw2, cbb2⟩ := HF1.out w2 hI2
  clear had2
  have HB2 := Aside0.mk (HBL.out w2 hI2 (fun b hb => by have := HF.out.1 b hb; have := hs2.size; omega))
  have HS2 := Aside0.mk hs2
  clear hI2 hs2
  repeat still_step
  refine wpStill_nil ?_
  go_wp2_with (first | (go_at_call 103; refine HB2.out.mono ?_; rintro x w3 ⟨rfl, hO3, hI3, hk3⟩) | (go_at_call 106; refine (key_calls' _ m m r.1 w3 (by rw [HS.out.2.2.1]; exact HK.out.1.symm) (OutIs.C hO3 (by rw [HS.out.2.2.1]; exact HK.out.1) (by have := HK.out.2.1; rw [HK.out.1, ← HS.out.2.2.1] at this; omega)) (Nat.le_refl _) (by have := HK.out.2.1; rw [HK.out.1, ← HS.out.2.2.1] at this; exact this)).mono ?_; rintro x w4 ⟨rfl, hb4⟩; have hI4 := (show InvL Y w0 w3 (pre ++ L :: r.2) _ from by have h := hI3; rw [List.append_assoc] at h; exact h).below hb4; obtain ⟨cs4, cgs4, hlk4⟩ := HF4.out w4 _ hI4; clear cw2 caw2 cbb2; obtain ⟨hln4, w5, hup5, ht5, hI5⟩ := HNEW.out w4 _ hI4))
  rename_i K9 hK9
  have hO5 := (hO3.below hb4).turned ht5
  have hI6 := hI5.below (W' := w5.drew) (below_drew1 (Below.refl _ _))
  have hO6 := hO5.below (W' := w5.drew) (below_drew1 (Below.refl _ _))
  have hk6 : Kp (fun b => b = Y.ms s) w4 w5.drew := (Kp.of_turned ht5).drew
  obtain ⟨A6, c6, h0, hs6, hg6, hat6, hr6, cz6, ct6, hoo6⟩ := head_at hI6 HP.out
  rw [← HS.out.1] at cz6
  rw [← HS.out.2.1] at ct6
  have HR6 := Aside0.mk hr6
  have HG6 := Aside0.mk (And.intro hg6 (And.intro hat6 hoo6))
  have HI6 := Aside0.mk hI6
  have HC6 := Aside0.mk (OutIs.C hO6 (by rw [HS.out.2.2.1]; exact HK.out.1) (by have := HK.out.2.1; rw [HK.out.1, ← HS.out.2.2.1] at this; omega))
  have HZ := Aside0.mk (And.intro hb4 (And.intro hk6 hk3))
  clear hI5 hI6 hO5 hO6 hk6 ht5 hup5 hln4 hlk4 cs4 cgs4 hI4 hb4 hO3 hI3 hr6 hg6 hat6 hk3 hoo6
  refine start_ (n := 12) (S := fun w' => w'.cell? ⟨Y.bt, 1, none⟩ = some (.slice (some ⟨Y.gt, 0, none⟩) n1 n1) ∧ w'.cell? ⟨Y.gt, s, none⟩ = some (.slice A6 L.rows.length c6)) (ds := [11]) #[false, false, false, false, false, false, false, false, false, false, false, false] (by kernel_rfl) rfl rfl ⟨ct6, cz6⟩ (fun hHeld => ?_)
  refine with_tabW nm104.tab15 nm104.bits15 (fun HT_ HW_ => ?_)
  generalize w5.drew = w6 at HR6 HG6 HI6 HC6 HZ cz6 ct6 hHeld ⊢
  refine pure_ (i := 0) (N := some 86) (v := ?_) (a' := ?_) #[true, false, false, false, false, false, false, false, false, false, false, false] rfl rfl (any_of HT_.out (by kernel_rfl)) (fun _ _ _ h => h) (Or.inl ⟨by rfl, ?_⟩) ?_ ?_
  rotate_left
  · intro w'
    go_simp
    with_reducible rfl
  rotate_left
  · simp only [Act.put, List.setIfInBounds_toArray, List.set_cons_zero, List.set_cons_succ, i64_w, i32_w]
    rfl
  refine pure_ (i := 2) (N := some 88) (v := ?_) (a' := ?_) #[true, false, true, false, false, false, false, false, false, false, false, false] rfl rfl (any_of HT_.out (by kernel_rfl)) (fun _ _ _ h => h) (Or.inl ⟨by rfl, ?_⟩) ?_ ?_
  rotate_left
  · intro w'
    go_simp
    with_reducible rfl
  rotate_left
  · simp only [Act.put, List.setIfInBounds_toArray, List.set_cons_zero, List.set_cons_succ, i64_w, i32_w]
    rfl
  refine pure_ (i := 3) (N := some 89) (v := ?_) (a' := ?_) #[true, false, true, true, false, false, false, false, false, false, false, false] rfl rfl (any_of HT_.out (by kernel_rfl)) (fun _ _ _ h => h) (Or.inl ⟨by rfl, ?_⟩) ?_ ?_
  rotate_left
  · intro w'
    go_simp
    with_reducible rfl
  rotate_left
  · simp only [Act.put, List.setIfInBounds_toArray, List.set_cons_zero, List.set_cons_succ, i64_w, i32_w]
    rfl
  refine pure_ (i := 5) (N := some 91) (v := ?_) (a' := ?_) #[true, false, true, true, false, true, false, false, false, false, false, false] rfl rfl (any_of HT_.out (by kernel_rfl)) (fun _ _ _ h => h) (Or.inl ⟨by rfl, ?_⟩) ?_ ?_
  rotate_left
  · intro w'
    go_simp
    with_reducible rfl
  rotate_left
  · simp only [Act.put, List.setIfInBounds_toArray, List.set_cons_zero, List.set_cons_succ, i64_w, i32_w]
    rfl
  refine pure_ (i := 8) (N := some 94) (v := ?_) (a' := ?_) #[true, false, true, true, false, true, false, false, true, false, false, false] rfl rfl (any_of HT_.out (by kernel_rfl)) (fun _ _ _ h => h) (Or.inl ⟨by rfl, ?_⟩) ?_ ?_
  rotate_left
  · intro w'
    go_simp
    with_reducible rfl
  rotate_left
  · simp only [Act.put, List.setIfInBounds_toArray, List.set_cons_zero, List.set_cons_succ, i64_w, i32_w]
    rfl
  refine take_ (i := 1) (N := some 87) (v := ?_) (a' := ?_) #[true, true, true, true, false, true, false, false, true, false, false, false] rfl rfl (take_ofW HT_.out HW_.out (by kernel_rfl)) (fun _ _ _ h => h) (Or.inl ⟨by rfl, ?_⟩) hHeld ?_ ?_
  rotate_left
  · rintro w' ⟨s0, s1⟩
    go_simp
    with_reducible rfl
  rotate_left
  · simp only [Act.put, List.setIfInBounds_toArray, List.set_cons_zero, List.set_cons_succ, i64_w, i32_w]
    rfl
  refine take_ (i := 4) (N := some 90) (v := ?_) (a' := ?_) #[true, true, true, true, true, true, false, false, true, false, false, false] rfl rfl (take_ofW HT_.out HW_.out (by kernel_rfl)) (fun _ _ _ h => h) (Or.inl ⟨by rfl, ?_⟩) hHeld ?_ ?_
  rotate_left
  · rintro w' ⟨s0, s1⟩
    go_simp
    with_reducible rfl
  rotate_left
  · simp only [Act.put, List.setIfInBounds_toArray, List.set_cons_zero, List.set_cons_succ, i64_w, i32_w]
    rfl
  refine pure_ (i := 6) (N := some 92) (v := ?_) (a' := ?_) #[true, true, true, true, true, true, true, false, true, false, false, false] rfl rfl (any_of HT_.out (by kernel_rfl)) (fun _ _ _ h => h) (Or.inl ⟨by rfl, ?_⟩) ?_ ?_
  rotate_left
  · intro w'
    go_simp
    with_reducible rfl
  rotate_left
  · simp only [Act.put, List.setIfInBounds_toArray, List.set_cons_zero, List.set_cons_succ, i64_w, i32_w]
    rfl
  refine take_ (i := 7) (N := some 93) (v := ?_) (a' := ?_) #[true, true, true, true, true, true, true, true, true, false, false, false] rfl rfl (take_ofW HT_.out HW_.out (by kernel_rfl)) (fun _ _ _ h => h) (Or.inl ⟨by rfl, ?_⟩) hHeld ?_ ?_
  rotate_left
  · rintro w' ⟨s0, s1⟩
    go_simp
    with_reducible rfl
  rotate_left
  · simp only [Act.put, List.setIfInBounds_toArray, List.set_cons_zero, List.set_cons_succ, i64_w, i32_w]
    rfl
  refine one_ (i := 9) (N := some 95) #[true, true, true, true, true, true, true, true, true, true, false, false] rfl rfl (one_of HT_.out (by kernel_rfl)) (by decide) (fun K hK => ?_)
  refine Kd.R_append_rows_step (Kd.int .i64) (w0 := w0) w0.heap.size (by rfl) (.tmp 93) (.tmp 94) 26 3 (.int .i64 0) 8 rfl Try.underlying26 info3 rfl (by decide) (by decide) (.slice A6 L.rows.length c6) L.rows r.1 (some ⟨w2.heap.size, 0, none⟩) m m (fun _ => True) (fun _ => False) rfl rfl HR6.out HC6.out (fun _ _ h => h) (fun _ h => h.elim) (fun _ _ => trivial) HI6.out.bel HI6.out.bel.size ?aL ?_
  (case aL => have h1 := HLN.out.1; have h2 := HLN.out.2; clear q1 q2 q3 q4 m1 m2 hsh2; omega)
  intro v7 w7 ho hb7 hg7 hat7
  obtain ⟨A7, c7, rfl⟩ := Kd.R_slice ho
  obtain ⟨hz7, hf7⟩ := head_put (i := s) HR6.out HG6.out.1 (by have := HG6.out.2.1; rw [HS.out.1]; simpa using this) hg7
  have hct7 : w7.cell? ⟨Y.bt, 1, none⟩ = _ := blk_cell ((Kp.of_grownBy hg7).heap HI6.out.cs.t (fun e => HR6.out.ne HI6.out.cs.t (by decide) e)) 1
  replace hct7 := hct7.trans (show _ = some (Value.slice (some ⟨Y.gt, 0, none⟩) n1 n1) by rw [HS.out.2.1]; rfl)
  have hI7 := rowSet_mid HI6.out HG6.out.1 HG6.out.2.1 hg7 ho hat7 ((v, q) :: L.ev)
  rw [← HS.out.1] at hI7
  clear cz6 ct6
  refine hK.out _ _ ⟨hct7, hz7⟩ (fun hHeld => ?_)
  clear hK K
  refine norm_ (a' := ?_) ?_ ?_
  rotate_left
  · show Act.put _ (some 95) _ = _
    simp only [Act.put, List.setIfInBounds_toArray, List.set_cons_zero, List.set_cons_succ, i64_w, i32_w]
    rfl
  refine pure_ (i := 10) (N := some 96) (v := ?_) (a' := ?_) #[true, true, true, true, true, true, true, true, true, true, true, false] rfl rfl (any_of HT_.out (by kernel_rfl)) (fun _ _ _ h => h) (Or.inl ⟨by rfl, ?_⟩) ?_ ?_
  rotate_left
  · intro w'
    go_simp
    with_reducible rfl
  rotate_left
  · simp only [Act.put, List.setIfInBounds_toArray, List.set_cons_zero, List.set_cons_succ, i64_w, i32_w]
    rfl
  refine last_ (i := 11) (N := none) #[true, true, true, true, true, true, true, true, true, true, true, true] rfl rfl (one_of HT_.out (by kernel_rfl)) (by decide) (fun K hK => ?_)
  refine skip_ (w1 := ?_) (by rfl) rfl ?_ ?_
  rotate_left
  · go_simp
    rfl
  refine hK.out _ _ ?_
  clear hK K
  refine done_ (done_of HT_.out (by kernel_rfl)) ?_
  refine hK9 _ _ ?_
  have hs8 := size_set w7 ⟨Y.gt, s, none⟩ (.slice A7 (L.rows ++ r.1).length c7)
  have hk8 : Kp (fun b => O b ∨ w2.heap.size ≤ b) w6 (w7.setCell ⟨Y.gt, s, none⟩ (.slice A7 (L.rows ++ r.1).length c7)) := Kp.set ((Kp.of_grownBy hg7).mono (fun b hb => (HG6.out.2.2 b hb.symm).1)) (.inl (.inl HS.out.2.2.2.1)) _
  have hk9 : Kp (fun b => O b ∨ w2.heap.size ≤ b) w3 (w7.setCell ⟨Y.gt, s, none⟩ (.slice A7 (L.rows ++ r.1).length c7)) := (((Below.kp HZ.out.1).mono (S2 := fun b => O b ∨ w2.heap.size ≤ b) (fun _ h => h.elim)).then_ HZ.out.2.1 (fun b hb => .inl (.inl (by rw [hb, HS.out.1]; exact HOM.out.1)))).then_ hk8 (fun b hb => .inl hb)
  clear hz7 hf7 hct7 hg7 hat7 ho hb7
  simp only [List.length_append] at hI7 hs8 hk8 hk9 ⊢
  generalize w7.setCell ⟨Y.gt, s, none⟩ (.slice A7 (L.rows.length + r.1.length) c7) = w8 at hI7 hs8 hk8 hk9 ⊢
  have hOn : ∀ b, (Ox O w2.heap.size w2.heap.size w3 b ∨ w6.heap.size ≤ b) → b < w8.heap.size → (O b ∨ w2.heap.size ≤ b) ∧ b < w8.heap.size := fun b hb hl => ⟨hb.elim (fun h => h.1) (fun h => .inr (by have h1 := HZ.out.1.size; have h2 := HZ.out.2.1.size; have h3 := HZ.out.2.2.size; omega)), hl⟩
  obtain ⟨ca8, cga8, w9, hup9, ht9, hI9⟩ := HEV.out w8 _ _ _ (L.rows ++ r.1) hI7
  have hIL := InvL.of (L' := ⟨L.rows ++ r.1, (v, q) :: L.ev⟩) hI9 rfl rfl rfl
  have hs9 := (Kp.of_turned ht9).size
  have hk10 := hk9.then_ (Kp.of_turned ht9) (fun b hb => .inl (.inl (by rw [hb, HS.out.1]; exact HOM.out.2)))
  clear ht9 hI9
  go_wp2
  go_ret
  exact ⟨rfl, num_fin HS2.out HF.out HS.out.2.2.2.2.1 HS.out.2.2.2.2.2 HZ.out.2.2 (fun b => O b ∨ w2.heap.size ≤ b) hk10 (fun b hb => hb) (InvL.restrict hIL) (fun b hb => ⟨hb.1.elim (fun h => h.1) (fun h => .inr (by have h1 := HZ.out.1.size; have h2 := HZ.out.2.1.size; have h3 := HZ.out.2.2.size; omega)), hb.2⟩)⟩
set_option maxHeartbeats 4000000 in
set_option maxRecDepth 100000 in
theorem number_same_old {Y : Lay} {w0 : World} (hx : Ctx Y w0) {w : Int} {ws : List Int} (hN : NumC Y w0 ws) {pre : List Lv} {ps : List Int} {σ : List Lv} {L : Lv} {base : Nat} {O : Nat → Prop} {W : World} (e1 : ps ++ w :: ws = Y.W) (e2 : pre.length = ps.length) (hI : InvL Y w0 W (pre ++ L :: σ) O) (hlt : ∀ b, O b → b < W.heap.size) (hL : GoodL (pw w) base L) (hσ : GoodS ws σ base) (hb : base + szW (w :: ws) ≤ 1114112)
    (hu : (Y.U base (base + szW (w :: ws))).2 = true) (hh : L.ev.lookup (Y.U base (base + szW (w :: ws))).1 = none) {j : Nat} (hfd : findP (pw w) L.rows (manyP (fun k => numP Y.U ws (base + k * szW ws)) (pw w) σ).1 = some j) :
    Calls Try.prog 104 #[.int .i64 ((pre.length : Int) + 1), .int .i64 (base : Int), .int .i64 (szW (w :: ws) : Int), ptr Y.bl, ptr Y.bn, ptr Y.ba, ptr Y.bw, ptr Y.bb, ptr Y.bs, ptr Y.bt] W fun e W' => e = .returned (.int .i64 (numP Y.U (w :: ws) base (L :: σ)).1) ∧ InvL Y w0 W' (pre ++ (numP Y.U (w :: ws) base (L :: σ)).2) (On O W.heap.size W') ∧ Kp O W W' := by
  obtain ⟨hw, hp, hrd⟩ := at_mid e1 e2
  obtain ⟨w1', w2'⟩ := hx.ws w (List.mem_of_getElem? hw)
  have hn3 := hx.n3
  rw [numP]
  have hmp := pw_pos w
  have hml := pw_le w2'
  have hzz := szW_pos ws
  have hbl := fun (w1 : World) (h1 : InvL Y w0 w1 (pre ++ L :: σ) O) (h2 : ∀ b, O b → b < w1.heap.size) => block_calls Y w0 hx.hU hN (pre ++ [L]) (ps ++ [w]) σ base (pw w) O w1 (by rw [← e1]; simp) (by simp [e2]) (by rw [List.append_assoc]; exact h1) h2 hσ hmp hb (by simp; omega)
  obtain ⟨hg1, hg2⟩ := many_good hx.hU ws base σ hσ (pw w) hb
  have hcl := manyP_len (fun k => numP Y.U ws (base + k * szW ws)) σ (pw w)
  have hz0 : szW (w :: ws) = pw w * szW ws := rfl
  have hquo := Aside0.mk (quo_facts hz0 hmp (Nat.le_trans (Nat.le_add_left _ _) hb))
  generalize manyP (fun k => numP Y.U ws (base + k * szW ws)) (pw w) σ = r at hbl hg1 hg2 hcl hfd ⊢
  obtain ⟨s, hs⟩ : ∃ s, s = pre.length + 1 := ⟨_, rfl⟩
  obtain ⟨n1, hn1⟩ : ∃ n1, n1 = Y.W.length + 1 := ⟨_, rfl⟩
  have hzp := szW_pos (w :: ws)
  obtain ⟨m, hm⟩ : ∃ m, m = pw w := ⟨_, rfl⟩
  obtain ⟨zz, hzzz⟩ : ∃ zz, zz = szW ws := ⟨_, rfl⟩
  generalize szW (w :: ws) = z at hb hu hzp hz0 hquo hh ⊢
  obtain ⟨e, he⟩ : ∃ e, e = base + z := ⟨_, rfl⟩
  have hcast : (pre.length : Int) + 1 = (s : Int) := by omega
  rw [hcast, ← he]
  rw [← he] at hu hh
  unfold ptr at hbl ⊢
  simp only [List.length_append, List.length_singleton, ← hs, ← hm, ← hzzz] at hbl
  rw [← hm, ← hzzz] at hquo
  have huu := hx.unif hI.bel (base := base) (e := e) (by omega) (by omega)
  have hv := hx.hU base e
  have hud : Y.U base e = ((Y.U base e).1, true) := by rw [← hu]
  rw [hud]
  rw [hu] at huu
  generalize (Y.U base e).1 = v at huu hv hh ⊢
  rw [hitP_true, hh]
  simp only
  have q5 : (m = 0) = False := eq_false (by rw [hm]; exact Nat.pos_iff_ne_zero.1 hmp)
  have HMM := Aside0.mk (And.intro (w_addn base z e he (by omega)) (w_sub1 s pre.length hcast (by omega)))
  have t1 : decide (Y.W.length < s) = false := decide_eq_false (by omega)
  have k1 := eq_true (show s < n1 by omega)
  have k2 : decide ((0 : Int) ≤ (s : Int)) = true := decide_eq_true (Int.natCast_nonneg s)
  have k3 := eq_true (show (s : Int) < (n1 : Int) by omega)
  have j1 := eq_true hp
  have j2 : decide ((0 : Int) ≤ (pre.length : Int)) = true := decide_eq_true (Int.natCast_nonneg _)
  have j3 := eq_true (show (pre.length : Int) < (Y.W.length : Int) by omega)
  have wp1 : decide (0 ≤ w) = true := decide_eq_true (by omega)
  have wp2 := eq_true (show 0 ≤ w by omega)
  have wp3 : decide (w < 0) = false := decide_eq_false (by omega)
  have hrl : r.1.length ≤ 1000000000 := by omega
  have hbs : base ≤ 1000000000 := by omega
  have HUN := Aside0.mk huu
  have HBL := Aside0.mk hbl
  have HI := Aside0.mk hI
  have HF := Aside0.mk (And.intro hlt (And.intro hI.cs.lt hI.bel.size))
  have HS := Aside0.mk (And.intro hs (And.intro hn1 (And.intro hm (And.intro hI.og (And.intro hI.hO hI.co)))))
  have HOM := Aside0.mk (hI.om pre.length hp)
  have HK := Aside0.mk (And.intro hcl (And.intro hrl hbs))
  have HP := Aside0.mk hp
  have HLN := Aside0.mk (And.intro (Nat.le_trans hL.short (Nat.le_trans (Nat.le_add_right _ _) hb)) (show m ≤ 4096 by rw [hm]; exact hml))
  have cl : W.cell? ⟨Y.bl, 0, none⟩ = some (.slice Y.Al Y.ls.length Y.cl) := blk_cell hI.cs.l 0
  have HF1 := Aside0.mk (show ∀ w1, InvL Y w0 w1 (pre ++ L :: σ) O → ∃ ad, Y.Aw = some ad ∧ w1.cell? ⟨Y.bw, 0, none⟩ = some (.slice (some ad) Y.W.length Y.cw) ∧ w1.cell? (ad.add pre.length) = some (.int .i64 w) ∧ w1.cell? ⟨Y.bb, 0, none⟩ = some (.func (.func 103) #[] #[.pointer (some ⟨Y.bm, 0, none⟩)]) from fun w1 h1 => by
    obtain ⟨ad, cs, e, hl, hK, hcell⟩ := Kd.C_get (Kd.C_below hx.wrg h1.bel) 0 (pre.length : Int) (by omega) (by omega)
    obtain rfl : cs = [.int .i64 (Y.W.getD (pre.length : Int).toNat 0)] := hK
    have hz := hcell 0 _ rfl
    refine ⟨ad, e, by rw [← e]; exact blk_cell h1.cs.w 0, ?_, blk_cell h1.cs.b 0⟩
    have hz2 : w1.cell? (ad.add pre.length) = some (.int .i64 (Y.W.getD (pre.length : Int).toNat 0)) := by simpa [Kd.int, Kd.scalar] using hz
    rw [hz2]
    exact congrArg (fun x => some (Value.int .i64 x)) hrd)
  have HFA := Aside0.mk (show ∀ w1, InvL Y w0 w1 (pre ++ L :: σ) O → w1.cell? ⟨Y.ba, 0, none⟩ = some (.slice (some ⟨Y.ga, 0, none⟩) n1 n1) ∧ w1.cell? ⟨Y.ga, s, none⟩ = some (.map (some (Y.ma s))) ∧ (Instr.lookup 112 (.map (some (Y.ma s))) (.int .i64 v) true).run Try.prog w1 = .ok (.tuple #[.int .i64 0, .bool false]) w1 from fun w1 h1 => by
    refine ⟨by rw [hn1]; exact blk_cell h1.cs.a 0, cells_map h1.cs.ga (by omega), ?_⟩
    rw [hs, alike_run h1 hv, hh]; rfl)
  have HF4 := Aside0.mk (show ∀ w1 P, InvL Y w0 w1 (pre ++ L :: r.2) P → w1.cell? ⟨Y.bs, 0, none⟩ = some (.slice (some ⟨Y.gs, 0, none⟩) n1 n1) ∧ w1.cell? ⟨Y.gs, s, none⟩ = some (.map (some (Y.ms s))) ∧ (Instr.lookup 111 (.map (some (Y.ms s))) (.string (strOfNums (keyB r.1))) true).run Try.prog w1 = .ok (.tuple #[.int .i64 (j : Int), .bool true]) w1 from fun w1 P h1 => by
    refine ⟨by rw [hn1]; exact blk_cell h1.cs.s 0, cells_map h1.cs.gs (by omega), ?_⟩
    rw [hs, seen_run h1 hw hL hcl hrl hg1, hfd]; rfl)
  have HEV := Aside0.mk (show ∀ w1 rows sd P rws, InvD Y w0 w1 rows sd ((pre ++ L :: r.2).map evData) P → w1.cell? ⟨Y.ba, 0, none⟩ = some (.slice (some ⟨Y.ga, 0, none⟩) n1 n1) ∧ w1.cell? ⟨Y.ga, s, none⟩ = some (.map (some (Y.ma s))) ∧
      ∃ W', (Instr.mapUpdate 112 (.map (some (Y.ma s))) (.int .i64 v) (.int .i64 (j : Int))).run Try.prog w1 = .ok () W' ∧ w1.mapTurned W' (Y.ma s) ∧ InvD Y w0 W' rows sd ((pre ++ ⟨rws, (v, (j : Int)) :: L.ev⟩ :: r.2).map evData) P from fun w1 rows sd P rws h1 => by
    refine ⟨by rw [hn1]; exact blk_cell h1.cs.a 0, cells_map h1.cs.ga (by omega), ?_⟩
    rw [hs]
    exact alike_store h1 hp (by have := hL.few; omega) hv (i64in_nat (by have h1 := (findP_some hfd).1; have h2 := Nat.div_le_self L.rows.length (pw w); have h3 := hL.short; omega)) _)
  have hput : putP (pw w) L.rows r.1 = ((j : Int), L.rows) := by unfold putP; rw [hfd]
  rw [hput]
  simp only
  rw [if_pos trivial]
  obtain ⟨m1, m2⟩ := HMM.out
  obtain ⟨q1, q2, q3, q4⟩ := hquo.out
  have hsh2 := shl_raw w1' w2'
  rw [← hm] at hsh2
  have hc1 := fun (args : Array Value) (w : World) => enters_ Try.func103 (by kernel_rfl) rfl args w
  clear hs hn1 he hcast hlt hI hb hx huu hzp hp hu hv hw hL hcl hg1 hg2 hbl hm hzzz hn3 hmp hml hzz hz0 hσ hN e1 e2 w1' w2' hrd hud hrl hbs hput hfd hh
  go_enter Try.func104, Try.ntmps104
  go_wp2_with (go_at_call 105; refine HUN.out.mono ?_; rintro x w1 ⟨rfl, hb1⟩; have hI1 := HI.out.below hb1; have cn : w1.cell? ⟨Y.bn, 0, none⟩ = some (.int .i64 (Y.W.length : Int)) := blk_cell hI1.cs.n 0; obtain ⟨ad, had, cw, caw, cbb⟩ := HF1.out w1 hI1; clear had; obtain ⟨ca, cga, hlk⟩ := HFA.out w1 hI1)
  refine wp_region_still_tail 7 (by kernel_rfl) (by kernel_rfl) ?_
  simp only [List.take_succ_cons, List.take_zero, List.drop_succ_cons, List.drop_zero]
  have ew : ({ heap := w1.heap, tape := w1.tape, drawn := w1.drawn + 1, os := w1.os, output := w1.output } : World) = w1.drew := rfl
  rw [ew]
  clear ew
  have hI2 := hI1.below (W' := w1.drew) (below_drew1 (Below.refl _ _))
  have hs2 : Below W.heap.size W w1.drew := below_drew1 hb1
  generalize w1.drew = w2 at hI2 hs2 ⊢
  clear cw caw cbb hI1 hb1 cn cl ca cga hlk
  obtain ⟨ad2, had2, cw2, caw2, cbb2⟩ := HF1.out w2 hI2
  clear had2
  have HB2 := Aside0.mk (HBL.out w2 hI2 (fun b hb => by have := HF.out.1 b hb; have := hs2.size; omega))
  have HS2 := Aside0.mk hs2
  clear hI2 hs2
  repeat still_step
  refine wpStill_nil ?_
  go_wp2_with (first | (go_at_call 103; refine HB2.out.mono ?_; rintro x w3 ⟨rfl, hO3, hI3, hk3⟩) | (go_at_call 106; refine (key_calls' _ m m r.1 w3 (by rw [HS.out.2.2.1]; exact HK.out.1.symm) (OutIs.C hO3 (by rw [HS.out.2.2.1]; exact HK.out.1) (by have := HK.out.2.1; rw [HK.out.1, ← HS.out.2.2.1] at this; omega)) (Nat.le_refl _) (by have := HK.out.2.1; rw [HK.out.1, ← HS.out.2.2.1] at this; exact this)).mono ?_; rintro x w4 ⟨rfl, hb4⟩; have hI4 := (show InvL Y w0 w3 (pre ++ L :: r.2) _ from by have h := hI3; rw [List.append_assoc] at h; exact h).below hb4; obtain ⟨cs4, cgs4, hlk4⟩ := HF4.out w4 _ hI4; clear cw2 caw2 cbb2; obtain ⟨ca5, cga5, w5, hup5, ht5, hI5⟩ := HEV.out w4 _ _ _ L.rows hI4))
  go_ret
  exact ⟨rfl, num_fin HS2.out HF.out HS.out.2.2.2.2.1 HS.out.2.2.2.2.2 hk3 (fun b => b = Y.ma s) (((Below.kp hb4).mono (S2 := fun b => b = Y.ma s) (fun _ h => h.elim)).then_ (Kp.of_turned ht5) (fun i hi => .inl hi)) (fun b hb => .inl (by rw [hb, HS.out.1]; exact HOM.out.2)) (InvL.of hI5 rfl rfl rfl) (fun b hb => ⟨hb.1, by have h1 := hb4.size; have h2 := (Kp.of_turned ht5).size; have := hb.2.2; omega⟩)⟩
theorem number_all {Y : Lay} {w0 : World} (hx : Ctx Y w0) : ∀ ws : List Int, NumC Y w0 ws
  | [] => number_leaf hx
  | w :: ws => by
    have hN := number_all hx ws
    intro pre ps σ base O W e1 e2 hI hlt hG hb
    cases σ with
    | nil => exact hG.elim
    | cons L σ =>
      obtain ⟨hL, hσ⟩ := hG
      cases hu : (Y.U base (base + szW (w :: ws))).2 with
      | false =>
        cases hfd : findP (pw w) L.rows (manyP (fun k => numP Y.U ws (base + k * szW ws)) (pw w) σ).1 with
        | some j => exact number_other_old hx hN e1 e2 hI hlt hL hσ hb hu hfd
        | none => exact number_other_new hx hN e1 e2 hI hlt hL hσ hb hu hfd
      | true =>
        cases hh : L.ev.lookup (Y.U base (base + szW (w :: ws))).1 with
        | some k =>
          have h := number_hit hx (w := w) (ws := ws) (at_mid e1 e2).2.1 hI hlt hb hu hh
          have hud : Y.U base (base + szW (w :: ws)) = ((Y.U base (base + szW (w :: ws))).1, true) := by rw [← hu]
          rw [numP, hud, hitP_true, hh]
          exact h
        | none =>
          cases hfd : findP (pw w) L.rows (manyP (fun k => numP Y.U ws (base + k * szW ws)) (pw w) σ).1 with
          | some j => exact number_same_old hx hN e1 e2 hI hlt hL hσ hb hu hh hfd
          | none => exact number_same_new hx hN e1 e2 hI hlt hL hσ hb hu hh hfd
end Go.Proofs.Ytdlijioedokgjaa.Q

/- law15.ImageChanges by hand: a string's bytes are a row, one of them is changed, the row is a string again. -/
import Derived.Test.YtdlijioedokgjaaMChange
namespace Go.Proofs.Ytdlijioedokgjaa.Q
open Go.RowKit Go.Proofs.YtdlijioedokgjaaW.PrintWords Go.Proofs.YtdlijioedokgjaaW.PrintLast Go.Proofs.YtdlijioedokgjaaW.PrintMore
set_option linter.unusedVariables false
set_option linter.unusedSimpArgs false

/-- A row of bytes that a conversion made: its cells, and none of them frozen. -/
structure BRow (w : World) (ad : Addr) (l : List Int) : Prop where
  plain : ad = ⟨ad.block, 0, none⟩
  len : l.length ≤ 9223372036854775807
  cell : ∀ j, j < l.length → w.cell? (ad.add j) = some (.int .u8 (l.getD j 0))
  free : ∀ j, j < l.length → w.frozen? (ad.add j) = false
theorem BRow.conv (W : World) (s : ByteArray) (hs : s.size ≤ 9223372036854775807) : BRow (Lib.bytesWorld W 5 s) ⟨W.heap.size, 0, none⟩ (bytesOf s) := by
  have hl := bytesOf_length s
  refine ⟨rfl, by omega, fun j hj => ?_, fun j hj => ?_⟩
  · obtain ⟨ad, e, hc⟩ := (bytes_reads W 5 s hs).2.2 (by omega)
    injection e with e
    rw [← e] at hc
    exact hc j (by omega)
  · rw [Go.Proofs.YtdlijioedokgjaaW.PrintWords.add_plain]
    have h := Lib.bytesWorld_at_new W 5 s
    have hsz : s.size ≤ (Lib.bytesCells W 5 s).size := by
      have : s.data.size = s.size := rfl
      simp [Lib.bytesCells] <;> omega
    simp only [World.frozen?, h]
    simp; omega
theorem BRow.set {w : World} {ad : Addr} {l : List Int} (h : BRow w ad l) (p : Nat) (hp : p < l.length) (c : Int) : BRow (w.setCell (ad.add p) (.int .u8 c)) ad (l.set p c) := by
  have hc := h.cell
  have hf := h.free
  have hpl := h.plain
  generalize ad.block = g at hpl
  subst hpl
  simp only [Go.Proofs.YtdlijioedokgjaaW.PrintWords.add_plain] at hc hf ⊢
  have h0 := hc p hp
  obtain ⟨cs, t, fr, hg⟩ : ∃ cs t fr, w.heap[g]? = some (.cells cs t fr) := by
    simp only [World.cell?] at h0
    split at h0
    · rename_i cs t fr hg; exact ⟨cs, t, fr, hg⟩
    · cases h0
  have hlt : g < w.heap.size := by
    rcases Nat.lt_or_ge g w.heap.size with h | h
    · exact h
    · rw [Array.getElem?_eq_none h] at hg; cases hg
  have hg2 : (w.setCell ⟨g, p, none⟩ (.int .u8 c)).heap[g]? = some (.cells (cs.setIfInBounds p (.int .u8 c)) t fr) := by
    simp [World.setCell, Array.getElem?_modify, hg]
  refine ⟨rfl, by simpa using h.len, fun j hj => ?_, fun j hj => ?_⟩
  · rw [List.length_set] at hj
    have hj0 := hc j hj
    simp only [Go.Proofs.YtdlijioedokgjaaW.PrintWords.add_plain, World.cell?, hg2, hg] at hj0 h0 ⊢
    simp at hj0 h0 ⊢
    rw [Array.getElem?_setIfInBounds]
    by_cases e : p = j
    · subst e
      rw [if_pos rfl]
      have : p < cs.size := by
        rcases Nat.lt_or_ge p cs.size with h | h
        · exact h
        · rw [Array.getElem?_eq_none h] at h0; cases h0
      simp [this, hp]
    · rw [if_neg e, hj0, List.getElem?_set_ne e]
  · rw [List.length_set] at hj
    have := hf j hj
    simp only [Go.Proofs.YtdlijioedokgjaaW.PrintWords.add_plain, World.frozen?, hg2, hg] at this ⊢
    exact this
theorem BRow.reads {w : World} {ad : Addr} {l : List Int} (h : BRow w ad l) : ReadsInt w .u8 (some ad) l.length l := ⟨rfl, h.len, fun _ => ⟨ad, rfl, fun j hj => h.cell j hj⟩⟩
/-- The changed bytes of a sealed string. -/
theorem chg_cell {W : World} {g : Nat} {S : ByteArray} {p : Nat} {x : Int} (h : BRow W ⟨g, 0, none⟩ (bytesOf S)) (hp : p < (bytesOf S).length) (hx : (bytesOf S).getD p 0 = x) : W.cell? ⟨g, p, none⟩ = some (.int .u8 x) := by
  have := h.cell p hp
  rw [Go.Proofs.YtdlijioedokgjaaW.PrintWords.add_plain, hx] at this
  exact this
theorem chg_free {W : World} {g : Nat} {S : ByteArray} {p : Nat} (h : BRow W ⟨g, 0, none⟩ (bytesOf S)) (hp : p < (bytesOf S).length) : W.frozen? ⟨g, p, none⟩ = false := by
  have := h.free p hp
  rw [Go.Proofs.YtdlijioedokgjaaW.PrintWords.add_plain] at this
  exact this
theorem chg_str {W : World} {g n : Nat} {S : ByteArray} {p : Nat} (h : BRow W ⟨g, 0, none⟩ (bytesOf S)) (hp : p < (bytesOf S).length) (hn : (bytesOf S).length = n) (c : Int) (cp : Nat) :
    (convert 70 9 (.slice (some ⟨g, 0, none⟩) n cp)).run Try.prog (W.setCell ⟨g, p, none⟩ (.int .u8 c)) = .ok (.string (strOfNums ((bytesOf S).set p c))) (W.setCell ⟨g, p, none⟩ (.int .u8 c)) := by
  have h2 := (h.set p hp c).reads
  rw [Go.Proofs.YtdlijioedokgjaaW.PrintWords.add_plain, List.length_set, hn] at h2
  exact string_of_reads Try.underlying70 Try.underlying5 Try.underlying9 h2
set_option maxHeartbeats 4000000 in
set_option maxRecDepth 100000 in
theorem changes_calls (a0 : ByteArray) (a1 a2 : Int) (w : World) (b1 : 0 ≤ a1 ∧ a1 < 65536) (b2 : 0 ≤ a2 ∧ a2 < 256) (hsz : a0.size ≤ 9000000000000000000) : Calls Try.prog 18 #[.string a0, .int .u16 a1, .int .u8 a2] w fun e w' => e = .returned (.bool true) ∧ Below w.heap.size w w' := by
  have HB := Aside0.mk (Below.refl w.heap.size w)
  have hu70 := Try.underlying70
  by_cases h2 : (a0.size : Int) > 2000
  · obtain ⟨k, hk⟩ := alive15.exists_
    have HA := Aside0.mk hk
    have t0 : decide ((a0.size : Int) > 2000) = true := decide_eq_true h2
    have t1 : decide (2000 < (a0.size : Int)) = true := decide_eq_true h2
    clear hk h2
    go_enter Try.func18, Try.ntmps18
    go_wp2_with (first | ((with_reducible refine gate_callee (f := 30) rfl ?_); refine goesL_ (some 13) rfl rfl Try.func30 (by kernel_rfl) rfl #[] rfl (by (try simp only [List.map_toArray, List.map_cons, List.map_nil]); first | done | rfl) ?_; (with_reducible refine (unicodetextlaw15_alive.calls k true _ HA.out).mono ?_); rintro e w7 ⟨rfl, hb⟩; refine ⟨_, rfl, ?_⟩; have n0_ := Aside0.mk (below_step HB.out hb); clear HB; have HB := n0_; clear n0_; clear hb))
    go_ret
    exact ⟨rfl, HB.out⟩
  · obtain ⟨S, hS⟩ : ∃ S, S = sealB a0 := ⟨_, rfl⟩
    have hn : S.size = a0.size + 4 := by rw [hS, sealB_size]
    obtain ⟨p, hp⟩ : ∃ p, Int.tmod (wrap64 a1) (S.size : Int) = p := ⟨_, rfl⟩
    obtain ⟨k1, hk1⟩ := alive15
    obtain ⟨k2, hk2⟩ := image_Seal_ev a0 (by omega)
    obtain ⟨k3, hk3⟩ := image_Open_ev (strOfNums ((bytesOf S).set p.toNat (bits .xor .u8 ((bytesOf S).getD p.toNat 0) ((1 + Int.tmod a2 255) % 256)))) (by rw [sN_size, List.length_set, bytesOf_length]; omega)
    have HA := Aside0.mk (hk1 (k1 + k2 + k3) (by omega))
    have HS := Aside0.mk (hk2 (k1 + k2 + k3) (by omega))
    rw [← hS] at HS
    have HZ := Aside0.mk (show S.size ≤ 9223372036854775807 by omega)
    obtain ⟨k, hkk⟩ : ∃ k, k1 + k2 + k3 = k := ⟨_, rfl⟩
    rw [hkk] at HA HS
    have t0 : decide ((a0.size : Int) > 2000) = false := decide_eq_false h2
    have t1 : decide (2000 < (a0.size : Int)) = false := decide_eq_false (by omega)
    have t2 : ((S.size : Int) != wrap64 ((a0.size : Int) + 4)) = false := by rw [show wrap64 ((a0.size : Int) + 4) = (a0.size : Int) + 4 by unfold wrap64; omega, hn]; simp
    have t3 : ((S.size : Int) == 0) = false := by rw [beq_eq_false_iff_ne]; omega
    have t4 : ((S.size : Int) != 0) = true := by rw [bne_iff_ne]; omega
    have t5 : ¬ (S.size : Int) = 0 := by omega
    have hw : wrap64 a1 = a1 := by unfold wrap64; omega
    obtain ⟨q0, q1⟩ : 0 ≤ p ∧ p < S.size := by rw [← hp, hw]; exact ⟨Int.tmod_nonneg _ b1.1, Int.tmod_lt_of_pos _ (by omega)⟩
    have t6 : decide (0 ≤ p) = true := decide_eq_true q0
    have t7 : decide (p < (S.size : Int)) = true := decide_eq_true q1
    have t8 := eq_true q0
    have t9 := eq_true q1
    obtain ⟨x, hx⟩ : ∃ x, (bytesOf S).getD p.toNat 0 = x := ⟨_, rfl⟩
    have HX := Aside0.mk hx
    rw [hx] at hk3
    obtain ⟨ex, hex⟩ : ∃ ex, bits .xor .u8 x ((1 + Int.tmod a2 255) % 256) = ex := ⟨_, rfl⟩
    rw [hex] at hk3
    have hop : openS (strOfNums ((bytesOf S).set p.toNat ex)) = (⟨#[]⟩, 14) := by
      have hl : p.toNat < (bytesOf S).length := by rw [bytesOf_length]; omega
      have hx2 : x = (bytesOf S)[p.toNat] := by rw [← hx, List.getD_eq_getElem?_getD, List.getElem?_eq_getElem hl]; rfl
      have hxr := bytesOf_range S x (by rw [hx2]; exact List.getElem_mem _)
      have hd : 1 ≤ (1 + Int.tmod a2 255) % 256 ∧ (1 + Int.tmod a2 255) % 256 < 256 := by
        have h1 := Int.tmod_nonneg 255 b2.1
        have h2 := Int.tmod_lt_of_pos a2 (show (0 : Int) < 255 by omega)
        omega
      obtain ⟨e1, e2⟩ := xor8 x ((1 + Int.tmod a2 255) % 256) hxr.1 hxr.2 (by omega) hd.2
      rw [hex] at e1
      refine open_changed a0 (bytesOf S) (by rw [hS]) p.toNat ex hl (by omega) (by omega) ?_
      rw [← hx2]
      intro he
      generalize (1 + Int.tmod a2 255) % 256 = dd at e1 e2 hd
      have h3 : x.toNat ^^^ dd.toNat = x.toNat := by omega
      have h4 : dd.toNat = 0 := by
        have := congrArg (x.toNat ^^^ ·) h3
        simpa [← Nat.xor_assoc] using this
      omega
    have HO := Aside0.mk ((hk3 (k1 + k2 + k3) (by omega)).trans (congrArg some hop))
    rw [hkk] at HO
    have HL := Aside0.mk (show p.toNat < (bytesOf S).length by rw [bytesOf_length]; omega)
    have HN := Aside0.mk (bytesOf_length S)
    clear hx
    have BD := Aside0.mk (And.intro b1 (And.intro b2 (And.intro hn (And.intro hS (And.intro hw (And.intro q0 q1))))))
    clear hk1 hk2 hk3 hop hkk h2 b1 b2 hn hS hw q0 q1 hsz
    go_enter Try.func18, Try.ntmps18
    have kb := fun W => print_bytes (P := Try.prog) 9 70 5 Try.underlying9 Try.underlying70 Try.underlying5 S W
    go_wp2_with (first | ((with_reducible refine gate_callee (f := 61) rfl ?_); refine goesL_ (some 15) rfl rfl Try.func61 (by kernel_rfl) rfl #[.string a0] rfl (by (try simp only [List.map_toArray, List.map_cons, List.map_nil]); first | done | rfl) ?_; (with_reducible refine (image_Seal.calls k a0 S _ HS.out).mono ?_); rintro e w1 ⟨rfl, hb⟩; refine ⟨_, rfl, ?_⟩; have n0_ := Aside0.mk (below_step HB.out hb); clear HB; have HB := n0_; clear n0_; clear hb; have GE := Aside0.mk (show w.heap.size ≤ w1.heap.size from HB.out.size); have BR := Aside0.mk (BRow.conv w1 S HZ.out); have z1 : (Lib.bytesWorld w1 5 S).cell? ⟨w1.heap.size, p.toNat, none⟩ = some (.int .u8 x) := chg_cell BR.out HL.out HX.out; have z2 : (Lib.bytesWorld w1 5 S).frozen? ⟨w1.heap.size, p.toNat, none⟩ = false := chg_free BR.out HL.out; have kc := fun (c : Int) (cp : Nat) => chg_str BR.out HL.out HN.out c cp; have n0_ := Aside0.mk (bytes_below HB.out GE.out 5 S); clear HB; have HB := n0_; clear n0_) | ((with_reducible refine gate_callee (f := 62) rfl ?_); refine goesL_ (some 39) rfl rfl Try.func62 (by kernel_rfl) rfl #[.string (strOfNums ((bytesOf S).set p.toNat ex))] rfl (by (try simp only [List.map_toArray, List.map_cons, List.map_nil]); first | done | rfl) ?_; (with_reducible refine (image_Open.calls k _ _ _ _ HO.out).mono ?_); rintro e w2 ⟨rfl, hb⟩; refine ⟨_, rfl, ?_⟩; have n0_ := Aside0.mk (below_step (below_set HB.out GE.out) hb); clear HB; have HB := n0_; clear n0_; clear hb) | ((with_reducible refine gate_callee (f := 30) rfl ?_); (try (refine gate_guard (by rfl) ?_; dsimp only)); refine goesL_ (some 49) rfl rfl Try.func30 (by kernel_rfl) rfl #[] rfl (by (try simp only [List.map_toArray, List.map_cons, List.map_nil]); first | done | rfl) ?_; (with_reducible refine (unicodetextlaw15_alive.calls k true _ HA.out).mono ?_); rintro e w8 ⟨rfl, hb⟩; refine ⟨_, rfl, ?_⟩; have n0_ := Aside0.mk (below_step HB.out hb); clear HB; have HB := n0_; clear n0_; clear hb))
    go_ret
    exact ⟨rfl, HB.out⟩
def unicodetextlaw15_ImageChanges.f (a0 : ByteArray) (a1 a2 : Int) : Option Bool := if (0 ≤ a1 ∧ a1 < 65536) ∧ (0 ≤ a2 ∧ a2 < 256) ∧ a0.size ≤ 9000000000000000000 then some true else none
theorem unicodetextlaw15_ImageChanges.calls (a0 : ByteArray) (a1 a2 : Int) (r : Bool) (w : World) (h : unicodetextlaw15_ImageChanges.f a0 a1 a2 = some r) :
    Calls Try.prog 18 #[.string a0, .int .u16 a1, .int .u8 a2] w fun e w' => e = .returned (.bool r) ∧ Below w.heap.size w w' := by
  unfold unicodetextlaw15_ImageChanges.f at h
  split at h
  · rename_i hb
    injection h with h
    subst h
    exact changes_calls a0 a1 a2 w hb.1 hb.2.1 hb.2.2
  · cases h
end Go.Proofs.Ytdlijioedokgjaa.Q

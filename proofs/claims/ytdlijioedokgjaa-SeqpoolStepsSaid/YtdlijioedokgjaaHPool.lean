/- The contracts of seqpool's functions, as the printed texts ask for them. -/
import Derived.Test.YtdlijioedokgjaaHFind
namespace Go.Proofs.Ytdlijioedokgjaa.Q
open Go.RowKit Go.Proofs.YtdlijioedokgjaaW.PrintWords Go.Proofs.YtdlijioedokgjaaW.PrintLast Go.Proofs.YtdlijioedokgjaaW.PrintMore
def seqpool_Add.f (l0_0 : List Int) (l0_1 : List Int) (l0_2 : List Int) (l1 : List Int) : Option (List Int × List Int × List Int × Int) :=
  if l0_0.length ≤ 1000000000 ∧ l0_1.length ≤ 1000000000 ∧ l0_2.length ≤ 1000000000 ∧ l1.length ≤ 1000000000 then some ((AddPure (validB l0_0 l0_1 l0_2) l0_0 l0_1 l0_2 l1).1, (AddPure (validB l0_0 l0_1 l0_2) l0_0 l0_1 l0_2 l1).2.1, (AddPure (validB l0_0 l0_1 l0_2) l0_0 l0_1 l0_2 l1).2.2, ((AddPure (validB l0_0 l0_1 l0_2) l0_0 l0_1 l0_2 l1).2.1.length : Int) - 1) else none
theorem seqpool_Add.calls (A0_0 : Option Addr) (c0_0 : Nat) (l0_0 : List Int) (A0_1 : Option Addr) (c0_1 : Nat) (l0_1 : List Int) (A0_2 : Option Addr) (c0_2 : Nat) (l0_2 : List Int) (A1 : Option Addr) (c1 : Nat) (l1 : List Int) (r1 : List Int) (r2 : List Int) (r3 : List Int) (r4 : Int) (w : World) (hr0_0 : Kd.C (Kd.int .i64) w A0_0 l0_0.length l0_0) (hc0_0 : l0_0.length ≤ c0_0) (hr0_1 : Kd.C (Kd.int .i64) w A0_1 l0_1.length l0_1) (hc0_1 : l0_1.length ≤ c0_1) (hr0_2 : Kd.C (Kd.int .i64) w A0_2 l0_2.length l0_2) (hc0_2 : l0_2.length ≤ c0_2) (hr1 : Kd.C (Kd.int .i64) w A1 l1.length l1) (hc1 : l1.length ≤ c1) (h : seqpool_Add.f l0_0 l0_1 l0_2 l1 = some (r1, r2, r3, r4)) :
    Calls Try.prog 41 #[.agg #[.slice A0_0 l0_0.length c0_0, .slice A0_1 l0_1.length c0_1, .slice A0_2 l0_2.length c0_2], .slice A1 l1.length c1] w fun e w' => ∃ v0_ v1_ v2_ : Value, e = .returned (.tuple #[.agg #[v0_, v1_, v2_], .int .i64 r4]) ∧ Kd.R (Kd.int .i64) 3 w' w.heap.size (fun k_ => some k_ ≠ (v1_ : Value).ownBlock ∧ some k_ ≠ (v2_ : Value).ownBlock) v0_ r1 ∧ Kd.R (Kd.int .i64) 3 w' w.heap.size (fun k_ => some k_ ≠ (v0_ : Value).ownBlock ∧ some k_ ≠ (v2_ : Value).ownBlock) v1_ r2 ∧ Kd.R (Kd.int .i64) 3 w' w.heap.size (fun k_ => some k_ ≠ (v0_ : Value).ownBlock ∧ some k_ ≠ (v1_ : Value).ownBlock) v2_ r3 ∧ Below w.heap.size w w' := by
  unfold seqpool_Add.f at h
  split at h
  · rename_i hb
    injection h with h
    injection h with h1 h
    injection h with h2 h
    injection h with h3 h4
    subst h1 h2 h3 h4
    obtain ⟨k, hk⟩ := (Valid_ev l0_0 l0_1 l0_2 (by omega) (by omega)).exists_
    refine (Add_calls A0_0 c0_0 l0_0 A0_1 c0_1 l0_1 A0_2 c0_2 l0_2 A1 c1 l1 k _ w hr0_0 hc0_0 hr0_1 hc0_1 hr0_2 hc0_2 hr1 hc1 hb.1 hb.2.1 hb.2.2.1 hb.2.2.2 hk).mono ?_
    rintro e w' ⟨v0, v1, v2, rfl, hrs, hbel⟩
    exact ⟨v0, v1, v2, rfl, hrs.to3.1, hrs.to3.2.1, hrs.to3.2.2, hbel⟩
  · cases h
def seqpool_Pack.f (l0 : List (List Int)) : Option (List Int × List Int × List Int) :=
  if sumL l0 ≤ 1000000000 ∧ l0.length ≤ 1000000000 then some (packP l0) else none
theorem seqpool_Pack.calls (A0 : Option Addr) (c0 : Nat) (l0 : List (List Int)) (r1 : List Int) (r2 : List Int) (r3 : List Int) (w : World) (hr0 : Kd.C (Kd.slice 3 (Kd.int .i64)) w A0 l0.length l0) (hc0 : l0.length ≤ c0) (h : seqpool_Pack.f l0 = some (r1, r2, r3)) :
    Calls Try.prog 37 #[.slice A0 l0.length c0] w fun e w' => ∃ v0_ v1_ v2_ : Value, e = .returned (.agg #[v0_, v1_, v2_]) ∧ Kd.R (Kd.int .i64) 3 w' w.heap.size (fun k_ => some k_ ≠ (v1_ : Value).ownBlock ∧ some k_ ≠ (v2_ : Value).ownBlock) v0_ r1 ∧ Kd.R (Kd.int .i64) 3 w' w.heap.size (fun k_ => some k_ ≠ (v0_ : Value).ownBlock ∧ some k_ ≠ (v2_ : Value).ownBlock) v1_ r2 ∧ Kd.R (Kd.int .i64) 3 w' w.heap.size (fun k_ => some k_ ≠ (v0_ : Value).ownBlock ∧ some k_ ≠ (v1_ : Value).ownBlock) v2_ r3 ∧ Below w.heap.size w w' := by
  unfold seqpool_Pack.f at h
  split at h
  · rename_i hb
    injection h with h
    refine (Pack_calls A0 c0 l0 w hr0 hc0 hb.1 hb.2).mono ?_
    rintro e w' ⟨v0, v1, v2, rfl, hrs, hbel⟩
    rw [h] at hrs
    exact ⟨v0, v1, v2, rfl, hrs.to3.1, hrs.to3.2.1, hrs.to3.2.2, hbel⟩
  · cases h
def seqpool_Get.f (l0_0 : List Int) (l0_1 : List Int) (l0_2 : List Int) (a1 : Int) : Option (List Int × Bool) :=
  if l0_0.length ≤ 1000000000 ∧ l0_1.length ≤ 1000000000 ∧ l0_2.length ≤ 1000000000 then some (getP l0_0 l0_1 l0_2 a1) else none
theorem seqpool_Get.calls (A0_0 : Option Addr) (c0_0 : Nat) (l0_0 : List Int) (A0_1 : Option Addr) (c0_1 : Nat) (l0_1 : List Int) (A0_2 : Option Addr) (c0_2 : Nat) (l0_2 : List Int) (a1 : Int) (r1 : List Int) (r2 : Bool) (w : World) (hr0_0 : Kd.C (Kd.int .i64) w A0_0 l0_0.length l0_0) (hc0_0 : l0_0.length ≤ c0_0) (hr0_1 : Kd.C (Kd.int .i64) w A0_1 l0_1.length l0_1) (hc0_1 : l0_1.length ≤ c0_1) (hr0_2 : Kd.C (Kd.int .i64) w A0_2 l0_2.length l0_2) (hc0_2 : l0_2.length ≤ c0_2) (h : seqpool_Get.f l0_0 l0_1 l0_2 a1 = some (r1, r2)) :
    Calls Try.prog 57 #[.agg #[.slice A0_0 l0_0.length c0_0, .slice A0_1 l0_1.length c0_1, .slice A0_2 l0_2.length c0_2], .int .i64 a1] w fun e w' => ∃ v0_ : Value, e = .returned (.tuple #[v0_, .bool r2]) ∧ Kd.R (Kd.int .i64) 3 w' w.heap.size (fun _ => True) v0_ r1 ∧ Below w.heap.size w w' := by
  unfold seqpool_Get.f at h
  split at h
  · rename_i hb
    injection h with h
    obtain ⟨k, hk⟩ := (Valid_ev l0_0 l0_1 l0_2 (by omega) (by omega)).exists_
    refine (Get_calls A0_0 c0_0 l0_0 A0_1 c0_1 l0_1 A0_2 c0_2 l0_2 a1 k w hr0_0 hc0_0 hr0_1 hc0_1 hr0_2 hc0_2 hb.1 hb.2.1 hb.2.2 hk).mono ?_
    rintro e w' ⟨v, rfl, hv, hbel⟩
    rw [h] at hv ⊢
    exact ⟨v, rfl, hv, hbel⟩
  · cases h
def seqpool_Find.f (l0_0 : List Int) (l0_1 : List Int) (l0_2 : List Int) (l1 : List Int) : Option (Int × Bool) :=
  if l0_0.length ≤ 1000000000 ∧ l0_1.length ≤ 1000000000 ∧ l0_2.length ≤ 1000000000 then some (findP l0_0 l0_1 l0_2 l1) else none
theorem seqpool_Find.calls (A0_0 : Option Addr) (c0_0 : Nat) (l0_0 : List Int) (A0_1 : Option Addr) (c0_1 : Nat) (l0_1 : List Int) (A0_2 : Option Addr) (c0_2 : Nat) (l0_2 : List Int) (A1 : Option Addr) (c1 : Nat) (l1 : List Int) (r1 : Int) (r2 : Bool) (w : World) (hr0_0 : Kd.C (Kd.int .i64) w A0_0 l0_0.length l0_0) (hc0_0 : l0_0.length ≤ c0_0) (hr0_1 : Kd.C (Kd.int .i64) w A0_1 l0_1.length l0_1) (hc0_1 : l0_1.length ≤ c0_1) (hr0_2 : Kd.C (Kd.int .i64) w A0_2 l0_2.length l0_2) (hc0_2 : l0_2.length ≤ c0_2) (hr1 : Kd.C (Kd.int .i64) w A1 l1.length l1) (hc1 : l1.length ≤ c1) (h : seqpool_Find.f l0_0 l0_1 l0_2 l1 = some (r1, r2)) :
    Calls Try.prog 52 #[.agg #[.slice A0_0 l0_0.length c0_0, .slice A0_1 l0_1.length c0_1, .slice A0_2 l0_2.length c0_2], .slice A1 l1.length c1] w fun e w' => e = .returned (.tuple #[.int .i64 r1, .bool r2]) ∧ Below w.heap.size w w' := by
  unfold seqpool_Find.f at h
  split at h
  · rename_i hb
    injection h with h
    obtain ⟨k, hk⟩ := (Valid_ev l0_0 l0_1 l0_2 (by omega) (by omega)).exists_
    refine (Find_calls A0_0 c0_0 l0_0 A0_1 c0_1 l0_1 A0_2 c0_2 l0_2 A1 c1 l1 k w hr0_0 hc0_0 hr0_1 hc0_1 hr0_2 hc0_2 hr1 hc1 hk).mono ?_
    rintro e w' ⟨rfl, hbel⟩
    rw [h]
    exact ⟨rfl, hbel⟩
  · cases h
end Go.Proofs.Ytdlijioedokgjaa.Q

/- Texts laid together: Gz, Tz, Of, Ta. No condition. -/
import Derived.Defers
import Derived.Recover
import Derived.Laws.Pointers
import Derived.KernelRfl
import Derived.Test.YtggbjokhniigkaaGreatYTz12
set_option linter.unusedVariables false
set_option linter.unusedSimpArgs false
set_option maxRecDepth 100000
set_option maxHeartbeats 8000000
namespace Go.Proofs.YtggbjokhniigkaaGreat.Gz
open Ty Go.RowKit YtggbjokhniigkaaGreatW.PrintWords YtggbjokhniigkaaGreatW.PrintLast YtggbjokhniigkaaGreatW.PrintMore Mx Kx Wa Wb Wc Wd Wj Va Vb Vc PReplicaTakes
theorem entries_any (l : List Entry) : ∃ b : Bool, (b = false → l.length ≤ 1200) ∧ ∀ (A : Option Addr) (c : Nat) (w : World), Kd.C kE w A l.length l → l.length ≤ c → Calls Tryz.prog 31 #[.slice A l.length c] w fun e w' => e = .returned (.bool b) ∧ Below w.heap.size w w' := by
  obtain ⟨b, h1, h2⟩ := entries_f (l.map toS)
  refine ⟨b, fun h => by simpa using h2 h, fun A c w hl hc => ?_⟩
  have := falseworklaw11_entries.calls (l.length + 1) A c (l.map toS) b w (by rw [List.length_map]; exact C_toS hl) (by rw [List.length_map]; exact hc) (h1 _ (by simp))
  rw [List.length_map] at this
  exact this
theorem great_1 (r : Rep) (A5 A7 A8 A9 A10 : Option Addr) (c5 c7 c8 c9 c10 : Nat) (w : World) (h : RdRep w r A5 A7 A8 A9 A10) (hc : Fit r c5 c7 c8 c9 c10) (hE5 : ∀ (A : Option Addr) (c : Nat) (w : World), Kd.C kE w A r.f5.length r.f5 → r.f5.length ≤ c → Calls Tryz.prog 31 #[.slice A r.f5.length c] w fun e w' => e = .returned (.bool true) ∧ Below w.heap.size w w') :
    Calls Tryz.prog 30 #[.agg (Kx.rA r A5 A7 A8 A9 A10 c5 c7 c8 c9 c10)] w fun e w' => e = .returned (.bool true) ∧ Below w.heap.size w w' := by
  have H := Aside0.mk h
  have HC := Aside0.mk hc
  have HE5 := Aside0.mk hE5
  clear hE5
  have M1 := Aside0.mk ((Mem.nil w).allocAt (Kx.rA r A5 A7 A8 A9 A10 c5 c7 c8 c9 c10) 25 w.heap.size rfl)
  clear h hc
  go_enter Tryz.func30, Tryz.ntmps30
  go_wp2_with fail
  refine (HE5.out A5 c5 _ (Kd.C_below H.out.h5 M1.out.below) HC.out.h5).mono ?_
  rintro e w1 ⟨rfl, hb⟩
  have M2 := Aside0.mk (M1.out.grow hb)
  clear hb M1
  have cR := blk_cell (M2.out.blk_at 0 rfl)
  go_wp2
  all_goals
    go_ret
    exact ⟨rfl, M2.out.below⟩
theorem great_2 (r : Rep) (A5 A7 A8 A9 A10 : Option Addr) (c5 c7 c8 c9 c10 : Nat) (w : World) (h : RdRep w r A5 A7 A8 A9 A10) (hc : Fit r c5 c7 c8 c9 c10) (hE5 : ∀ (A : Option Addr) (c : Nat) (w : World), Kd.C kE w A r.f5.length r.f5 → r.f5.length ≤ c → Calls Tryz.prog 31 #[.slice A r.f5.length c] w fun e w' => e = .returned (.bool false) ∧ Below w.heap.size w w') (hE10 : ∀ (A : Option Addr) (c : Nat) (w : World), Kd.C kE w A r.f10.length r.f10 → r.f10.length ≤ c → Calls Tryz.prog 31 #[.slice A r.f10.length c] w fun e w' => e = .returned (.bool true) ∧ Below w.heap.size w w') :
    Calls Tryz.prog 30 #[.agg (Kx.rA r A5 A7 A8 A9 A10 c5 c7 c8 c9 c10)] w fun e w' => e = .returned (.bool true) ∧ Below w.heap.size w w' := by
  have H := Aside0.mk h
  have HC := Aside0.mk hc
  have HE5 := Aside0.mk hE5
  clear hE5
  have HE10 := Aside0.mk hE10
  clear hE10
  have M1 := Aside0.mk ((Mem.nil w).allocAt (Kx.rA r A5 A7 A8 A9 A10 c5 c7 c8 c9 c10) 25 w.heap.size rfl)
  clear h hc
  go_enter Tryz.func30, Tryz.ntmps30
  go_wp2_with fail
  refine (HE5.out A5 c5 _ (Kd.C_below H.out.h5 M1.out.below) HC.out.h5).mono ?_
  rintro e w1 ⟨rfl, hb⟩
  have M2 := Aside0.mk (M1.out.grow hb)
  clear hb M1
  have cR := blk_cell (M2.out.blk_at 0 rfl)
  go_wp2_with fail
  refine (HE10.out A10 c10 _ (Kd.C_below H.out.h10 M2.out.below) HC.out.h10).mono ?_
  rintro e w2 ⟨rfl, hb⟩
  have M3 := Aside0.mk (M2.out.grow hb)
  clear hb M2 cR
  have cR := blk_cell (M3.out.blk_at 0 rfl)
  go_wp2
  all_goals
    go_ret
    exact ⟨rfl, M3.out.below⟩
theorem great_3 (r : Rep) (A5 A7 A8 A9 A10 : Option Addr) (c5 c7 c8 c9 c10 : Nat) (w : World) (h : RdRep w r A5 A7 A8 A9 A10) (hc : Fit r c5 c7 c8 c9 c10) (hE5 : ∀ (A : Option Addr) (c : Nat) (w : World), Kd.C kE w A r.f5.length r.f5 → r.f5.length ≤ c → Calls Tryz.prog 31 #[.slice A r.f5.length c] w fun e w' => e = .returned (.bool false) ∧ Below w.heap.size w w') (hE10 : ∀ (A : Option Addr) (c : Nat) (w : World), Kd.C kE w A r.f10.length r.f10 → r.f10.length ≤ c → Calls Tryz.prog 31 #[.slice A r.f10.length c] w fun e w' => e = .returned (.bool false) ∧ Below w.heap.size w w') (g7 : 20 < r.f7.length) :
    Calls Tryz.prog 30 #[.agg (Kx.rA r A5 A7 A8 A9 A10 c5 c7 c8 c9 c10)] w fun e w' => e = .returned (.bool true) ∧ Below w.heap.size w w' := by
  have H := Aside0.mk h
  have HC := Aside0.mk hc
  have HE5 := Aside0.mk hE5
  clear hE5
  have HE10 := Aside0.mk hE10
  clear hE10
  have e7 : decide (20 < (r.f7.length : Int)) = true := by simp; omega
  clear g7
  have M1 := Aside0.mk ((Mem.nil w).allocAt (Kx.rA r A5 A7 A8 A9 A10 c5 c7 c8 c9 c10) 25 w.heap.size rfl)
  clear h hc
  go_enter Tryz.func30, Tryz.ntmps30
  go_wp2_with fail
  refine (HE5.out A5 c5 _ (Kd.C_below H.out.h5 M1.out.below) HC.out.h5).mono ?_
  rintro e w1 ⟨rfl, hb⟩
  have M2 := Aside0.mk (M1.out.grow hb)
  clear hb M1
  have cR := blk_cell (M2.out.blk_at 0 rfl)
  go_wp2_with fail
  refine (HE10.out A10 c10 _ (Kd.C_below H.out.h10 M2.out.below) HC.out.h10).mono ?_
  rintro e w2 ⟨rfl, hb⟩
  have M3 := Aside0.mk (M2.out.grow hb)
  clear hb M2 cR
  have cR := blk_cell (M3.out.blk_at 0 rfl)
  go_wp2
  all_goals
    go_ret
    exact ⟨rfl, M3.out.below⟩
theorem great_4 (r : Rep) (A5 A7 A8 A9 A10 : Option Addr) (c5 c7 c8 c9 c10 : Nat) (w : World) (h : RdRep w r A5 A7 A8 A9 A10) (hc : Fit r c5 c7 c8 c9 c10) (hE5 : ∀ (A : Option Addr) (c : Nat) (w : World), Kd.C kE w A r.f5.length r.f5 → r.f5.length ≤ c → Calls Tryz.prog 31 #[.slice A r.f5.length c] w fun e w' => e = .returned (.bool false) ∧ Below w.heap.size w w') (hE10 : ∀ (A : Option Addr) (c : Nat) (w : World), Kd.C kE w A r.f10.length r.f10 → r.f10.length ≤ c → Calls Tryz.prog 31 #[.slice A r.f10.length c] w fun e w' => e = .returned (.bool false) ∧ Below w.heap.size w w') (g7 : ¬ 20 < r.f7.length) (g8 : 20 < r.f8.length) :
    Calls Tryz.prog 30 #[.agg (Kx.rA r A5 A7 A8 A9 A10 c5 c7 c8 c9 c10)] w fun e w' => e = .returned (.bool true) ∧ Below w.heap.size w w' := by
  have H := Aside0.mk h
  have HC := Aside0.mk hc
  have HE5 := Aside0.mk hE5
  clear hE5
  have HE10 := Aside0.mk hE10
  clear hE10
  have e7 : decide (20 < (r.f7.length : Int)) = false := by simp; omega
  clear g7
  have e8 : decide (20 < (r.f8.length : Int)) = true := by simp; omega
  clear g8
  have M1 := Aside0.mk ((Mem.nil w).allocAt (Kx.rA r A5 A7 A8 A9 A10 c5 c7 c8 c9 c10) 25 w.heap.size rfl)
  clear h hc
  go_enter Tryz.func30, Tryz.ntmps30
  go_wp2_with fail
  refine (HE5.out A5 c5 _ (Kd.C_below H.out.h5 M1.out.below) HC.out.h5).mono ?_
  rintro e w1 ⟨rfl, hb⟩
  have M2 := Aside0.mk (M1.out.grow hb)
  clear hb M1
  have cR := blk_cell (M2.out.blk_at 0 rfl)
  go_wp2_with fail
  refine (HE10.out A10 c10 _ (Kd.C_below H.out.h10 M2.out.below) HC.out.h10).mono ?_
  rintro e w2 ⟨rfl, hb⟩
  have M3 := Aside0.mk (M2.out.grow hb)
  clear hb M2 cR
  have cR := blk_cell (M3.out.blk_at 0 rfl)
  go_wp2
  all_goals
    go_ret
    exact ⟨rfl, M3.out.below⟩
theorem great_5 (r : Rep) (A5 A7 A8 A9 A10 : Option Addr) (c5 c7 c8 c9 c10 : Nat) (w : World) (h : RdRep w r A5 A7 A8 A9 A10) (hc : Fit r c5 c7 c8 c9 c10) (hE5 : ∀ (A : Option Addr) (c : Nat) (w : World), Kd.C kE w A r.f5.length r.f5 → r.f5.length ≤ c → Calls Tryz.prog 31 #[.slice A r.f5.length c] w fun e w' => e = .returned (.bool false) ∧ Below w.heap.size w w') (hE10 : ∀ (A : Option Addr) (c : Nat) (w : World), Kd.C kE w A r.f10.length r.f10 → r.f10.length ≤ c → Calls Tryz.prog 31 #[.slice A r.f10.length c] w fun e w' => e = .returned (.bool false) ∧ Below w.heap.size w w') (g7 : ¬ 20 < r.f7.length) (g8 : ¬ 20 < r.f8.length) (g9 : 20 < r.f9.length) :
    Calls Tryz.prog 30 #[.agg (Kx.rA r A5 A7 A8 A9 A10 c5 c7 c8 c9 c10)] w fun e w' => e = .returned (.bool true) ∧ Below w.heap.size w w' := by
  have H := Aside0.mk h
  have HC := Aside0.mk hc
  have HE5 := Aside0.mk hE5
  clear hE5
  have HE10 := Aside0.mk hE10
  clear hE10
  have e7 : decide (20 < (r.f7.length : Int)) = false := by simp; omega
  clear g7
  have e8 : decide (20 < (r.f8.length : Int)) = false := by simp; omega
  clear g8
  have e9 : decide (20 < (r.f9.length : Int)) = true := by simp; omega
  clear g9
  have M1 := Aside0.mk ((Mem.nil w).allocAt (Kx.rA r A5 A7 A8 A9 A10 c5 c7 c8 c9 c10) 25 w.heap.size rfl)
  clear h hc
  go_enter Tryz.func30, Tryz.ntmps30
  go_wp2_with fail
  refine (HE5.out A5 c5 _ (Kd.C_below H.out.h5 M1.out.below) HC.out.h5).mono ?_
  rintro e w1 ⟨rfl, hb⟩
  have M2 := Aside0.mk (M1.out.grow hb)
  clear hb M1
  have cR := blk_cell (M2.out.blk_at 0 rfl)
  go_wp2_with fail
  refine (HE10.out A10 c10 _ (Kd.C_below H.out.h10 M2.out.below) HC.out.h10).mono ?_
  rintro e w2 ⟨rfl, hb⟩
  have M3 := Aside0.mk (M2.out.grow hb)
  clear hb M2 cR
  have cR := blk_cell (M3.out.blk_at 0 rfl)
  go_wp2
  all_goals
    go_ret
    exact ⟨rfl, M3.out.below⟩
theorem great_6 (r : Rep) (A5 A7 A8 A9 A10 : Option Addr) (c5 c7 c8 c9 c10 : Nat) (w : World) (h : RdRep w r A5 A7 A8 A9 A10) (hc : Fit r c5 c7 c8 c9 c10) (hE5 : ∀ (A : Option Addr) (c : Nat) (w : World), Kd.C kE w A r.f5.length r.f5 → r.f5.length ≤ c → Calls Tryz.prog 31 #[.slice A r.f5.length c] w fun e w' => e = .returned (.bool false) ∧ Below w.heap.size w w') (hE10 : ∀ (A : Option Addr) (c : Nat) (w : World), Kd.C kE w A r.f10.length r.f10 → r.f10.length ≤ c → Calls Tryz.prog 31 #[.slice A r.f10.length c] w fun e w' => e = .returned (.bool false) ∧ Below w.heap.size w w') (g7 : ¬ 20 < r.f7.length) (g8 : ¬ 20 < r.f8.length) (g9 : ¬ 20 < r.f9.length) :
    Calls Tryz.prog 30 #[.agg (Kx.rA r A5 A7 A8 A9 A10 c5 c7 c8 c9 c10)] w fun e w' => e = .returned (.bool false) ∧ Below w.heap.size w w' := by
  have H := Aside0.mk h
  have HC := Aside0.mk hc
  have HE5 := Aside0.mk hE5
  clear hE5
  have HE10 := Aside0.mk hE10
  clear hE10
  have e7 : decide (20 < (r.f7.length : Int)) = false := by simp; omega
  clear g7
  have e8 : decide (20 < (r.f8.length : Int)) = false := by simp; omega
  clear g8
  have e9 : decide (20 < (r.f9.length : Int)) = false := by simp; omega
  clear g9
  have M1 := Aside0.mk ((Mem.nil w).allocAt (Kx.rA r A5 A7 A8 A9 A10 c5 c7 c8 c9 c10) 25 w.heap.size rfl)
  clear h hc
  go_enter Tryz.func30, Tryz.ntmps30
  go_wp2_with fail
  refine (HE5.out A5 c5 _ (Kd.C_below H.out.h5 M1.out.below) HC.out.h5).mono ?_
  rintro e w1 ⟨rfl, hb⟩
  have M2 := Aside0.mk (M1.out.grow hb)
  clear hb M1
  have cR := blk_cell (M2.out.blk_at 0 rfl)
  go_wp2_with fail
  refine (HE10.out A10 c10 _ (Kd.C_below H.out.h10 M2.out.below) HC.out.h10).mono ?_
  rintro e w2 ⟨rfl, hb⟩
  have M3 := Aside0.mk (M2.out.grow hb)
  clear hb M2 cR
  have cR := blk_cell (M3.out.blk_at 0 rfl)
  go_wp2
  all_goals
    go_ret
    exact ⟨rfl, M3.out.below⟩
/-- Whether there is more than is gone through: the same at each call. -/
theorem Great_any (r : Rep) : ∃ b : Bool, (b = false → r.f5.length ≤ 1200 ∧ r.f7.length ≤ 20 ∧ r.f8.length ≤ 20 ∧ r.f9.length ≤ 20 ∧ r.f10.length ≤ 1200) ∧ ∀ (A5 A7 A8 A9 A10 : Option Addr) (c5 c7 c8 c9 c10 : Nat) (w : World), RdRep w r A5 A7 A8 A9 A10 → Fit r c5 c7 c8 c9 c10 →
    Calls Tryz.prog 30 #[.agg (Kx.rA r A5 A7 A8 A9 A10 c5 c7 c8 c9 c10)] w fun e w' => e = .returned (.bool b) ∧ Below w.heap.size w w' := by
  obtain ⟨b5, g5, hE5⟩ := entries_any r.f5
  obtain ⟨b10, g10, hE10⟩ := entries_any r.f10
  cases b5 with
  | true => exact ⟨true, (fun h => by cases h), fun A5 A7 A8 A9 A10 c5 c7 c8 c9 c10 w h hc => great_1 r A5 A7 A8 A9 A10 c5 c7 c8 c9 c10 w h hc hE5⟩
  | false =>
  cases b10 with
  | true => exact ⟨true, (fun h => by cases h), fun A5 A7 A8 A9 A10 c5 c7 c8 c9 c10 w h hc => great_2 r A5 A7 A8 A9 A10 c5 c7 c8 c9 c10 w h hc hE5 hE10⟩
  | false =>
  by_cases h7 : 20 < r.f7.length
  · exact ⟨true, (fun h => by cases h), fun A5 A7 A8 A9 A10 c5 c7 c8 c9 c10 w h hc => great_3 r A5 A7 A8 A9 A10 c5 c7 c8 c9 c10 w h hc hE5 hE10 h7⟩
  by_cases h8 : 20 < r.f8.length
  · exact ⟨true, (fun h => by cases h), fun A5 A7 A8 A9 A10 c5 c7 c8 c9 c10 w h hc => great_4 r A5 A7 A8 A9 A10 c5 c7 c8 c9 c10 w h hc hE5 hE10 h7 h8⟩
  by_cases h9 : 20 < r.f9.length
  · exact ⟨true, (fun h => by cases h), fun A5 A7 A8 A9 A10 c5 c7 c8 c9 c10 w h hc => great_5 r A5 A7 A8 A9 A10 c5 c7 c8 c9 c10 w h hc hE5 hE10 h7 h8 h9⟩
  exact ⟨false, fun _ => ⟨g5 rfl, by omega, by omega, by omega, g10 rfl⟩, fun A5 A7 A8 A9 A10 c5 c7 c8 c9 c10 w h hc => great_6 r A5 A7 A8 A9 A10 c5 c7 c8 c9 c10 w h hc hE5 hE10 h7 h8 h9⟩
end Go.Proofs.YtggbjokhniigkaaGreat.Gz
namespace Go.Proofs.YtggbjokhniigkaaGreat.Tz
open Ty Go.RowKit YtggbjokhniigkaaGreatW.PrintWords YtggbjokhniigkaaGreatW.PrintLast YtggbjokhniigkaaGreatW.PrintMore Mx Kx Wa Wb Wc Wd We Wj Va Vb Vc Rd Tr Sm Jk Gz Wk PReplicaTakes
theorem wrapB (j : Nat) (h : j ≤ 2000000000) : wrap64 ((j : Int) + 1) = ((j + 1 : Nat) : Int) := by
  rw [wrap64_id (by omega) (by omega)]
  push_cast
  rfl
theorem Mem.none_ {w0 w : World} {rs : List Res} (h : Mem w0 w rs) : Mem w0 w [] := ⟨h.os, h.tape, h.output, h.size, h.old, fun _ => 0, fun i r hi => by simp at hi⟩
/-- Both Takes make the same of a message. -/
def TakesAs (r : Rep) (m : Msg) (A5 A7 A8 A9 A10 A : Option Addr) (c5 c7 c8 c9 c10 c : Nat) : Prop :=
  ∃ (s : Rep) (msgs : List Msg) (code : Int), (s.f5.length ≤ 1000000 ∧ Small s) ∧ (msgs.length ≤ 1000000000 ∧ ∀ i, (rd_Msg msgs i).f7.length ≤ 1000000000) ∧
    (∀ w, RdRep w r A5 A7 A8 A9 A10 → Kd.C kE w A m.f7.length m.f7 → Calls Tryz.prog 34 #[.agg (rc r (.slice A5 r.f5.length c5) (.slice A7 r.f7.length c7) (.slice A8 r.f8.length c8) (.slice A9 r.f9.length c9) (.slice A10 r.f10.length c10)), .agg (Kx.mA m A c)] w fun e w' => ∃ v5 v7 v8 v9 v10 vout : Value, e = .returned (.tuple #[.agg (rc s v5 v7 v8 v9 v10), vout, .int .i64 code]) ∧ Mem w w' (rows s v5 v7 v8 v9 v10 ++ [row kM 27 vout msgs])) ∧
    (∀ w, RdRep w r A5 A7 A8 A9 A10 → Kd.C kE w A m.f7.length m.f7 → Calls Tryz.prog 35 #[.agg (Kx.rA r A5 A7 A8 A9 A10 c5 c7 c8 c9 c10), .agg (Kx.mA m A c)] w fun e w' => OutS w w' e s msgs code)
theorem takes_great (r : Rep) (m : Msg) (A5 A7 A8 A9 A10 A : Option Addr) (c5 c7 c8 c9 c10 c : Nat) (w : World) (h : RdRep w r A5 A7 A8 A9 A10) (hc : Fit r c5 c7 c8 c9 c10) (hl : Kd.C kE w A m.f7.length m.f7) (hlc : m.f7.length ≤ c) (hG : ∀ (A5 A7 A8 A9 A10 : Option Addr) (c5 c7 c8 c9 c10 : Nat) (w : World), RdRep w r A5 A7 A8 A9 A10 → Fit r c5 c7 c8 c9 c10 → Calls Tryz.prog 30 #[.agg (Kx.rA r A5 A7 A8 A9 A10 c5 c7 c8 c9 c10)] w fun e w' => e = .returned (.bool true) ∧ Below w.heap.size w w') :
    Calls Tryz.prog 15 #[.agg (Kx.rA r A5 A7 A8 A9 A10 c5 c7 c8 c9 c10), .agg (Kx.mA m A c)] w fun e w' => e = .returned (.bool true) ∧ Mem w w' [] := by
  have HG := Aside0.mk hG
  clear hG
  have H := Aside0.mk h
  have HC := Aside0.mk hc
  have HL := Aside0.mk hl
  have HLC := Aside0.mk hlc
  have M1 := Aside0.mk (((Mem.nil w).allocAt (Kx.rA r A5 A7 A8 A9 A10 c5 c7 c8 c9 c10) 25 w.heap.size rfl).allocAt (Kx.mA m A c) 27 (w.heap.size + 1) (by simp))
  clear h hc hl hlc
  go_enter Tryz.func15, Tryz.ntmps15
  go_wp2_with fail
  refine (HG.out A5 A7 A8 A9 A10 c5 c7 c8 c9 c10 _ (H.out.below M1.out.below) HC.out).mono ?_
  rintro e w1 ⟨rfl, hb⟩
  have M2 := Aside0.mk (M1.out.grow hb)
  clear hb M1
  have cM := blk_cell (M2.out.blk_at 0 rfl)
  have cR := blk_cell (M2.out.blk_at 1 rfl)
  go_wp2_with fail
  refine (awake_calls _).mono ?_
  rintro e w2 ⟨rfl, hM⟩
  have M3 := Aside0.mk (M2.out.trans hM)
  clear hM
  go_wp2
  go_ret
  exact ⟨rfl, Mem.sel (ps := [_, _]) (F := []) [] 2 M3.out rfl rfl⟩
theorem takes_long (r : Rep) (m : Msg) (A5 A7 A8 A9 A10 A : Option Addr) (c5 c7 c8 c9 c10 c : Nat) (w : World) (h : RdRep w r A5 A7 A8 A9 A10) (hc : Fit r c5 c7 c8 c9 c10) (hl : Kd.C kE w A m.f7.length m.f7) (hlc : m.f7.length ≤ c) (hG : ∀ (A5 A7 A8 A9 A10 : Option Addr) (c5 c7 c8 c9 c10 : Nat) (w : World), RdRep w r A5 A7 A8 A9 A10 → Fit r c5 c7 c8 c9 c10 → Calls Tryz.prog 30 #[.agg (Kx.rA r A5 A7 A8 A9 A10 c5 c7 c8 c9 c10)] w fun e w' => e = .returned (.bool false) ∧ Below w.heap.size w w') (hE : ∀ (A : Option Addr) (c : Nat) (w : World), Kd.C kE w A m.f7.length m.f7 → m.f7.length ≤ c → Calls Tryz.prog 31 #[.slice A m.f7.length c] w fun e w' => e = .returned (.bool true) ∧ Below w.heap.size w w') :
    Calls Tryz.prog 15 #[.agg (Kx.rA r A5 A7 A8 A9 A10 c5 c7 c8 c9 c10), .agg (Kx.mA m A c)] w fun e w' => e = .returned (.bool true) ∧ Mem w w' [] := by
  have HG := Aside0.mk hG
  have HE := Aside0.mk hE
  clear hG hE
  have H := Aside0.mk h
  have HC := Aside0.mk hc
  have HL := Aside0.mk hl
  have HLC := Aside0.mk hlc
  have M1 := Aside0.mk (((Mem.nil w).allocAt (Kx.rA r A5 A7 A8 A9 A10 c5 c7 c8 c9 c10) 25 w.heap.size rfl).allocAt (Kx.mA m A c) 27 (w.heap.size + 1) (by simp))
  clear h hc hl hlc
  go_enter Tryz.func15, Tryz.ntmps15
  go_wp2_with fail
  refine (HG.out A5 A7 A8 A9 A10 c5 c7 c8 c9 c10 _ (H.out.below M1.out.below) HC.out).mono ?_
  rintro e w1 ⟨rfl, hb⟩
  have M2 := Aside0.mk (M1.out.grow hb)
  clear hb M1
  have cM := blk_cell (M2.out.blk_at 0 rfl)
  have cR := blk_cell (M2.out.blk_at 1 rfl)
  go_wp2_with fail
  refine (HE.out A c _ (Kd.C_below HL.out M2.out.below) HLC.out).mono ?_
  rintro e w2 ⟨rfl, hb⟩
  have M3 := Aside0.mk (M2.out.grow hb)
  clear hb M2 cM cR
  have cM := blk_cell (M3.out.blk_at 0 rfl)
  have cR := blk_cell (M3.out.blk_at 1 rfl)
  go_wp2_with fail
  refine (awake_calls _).mono ?_
  rintro e w3 ⟨rfl, hM⟩
  have M4 := Aside0.mk (M3.out.trans hM)
  clear hM
  go_wp2
  go_ret
  exact ⟨rfl, Mem.sel (ps := [_, _]) (F := []) [] 2 M4.out rfl rfl⟩
theorem takes_good (r : Rep) (m : Msg) (A5 A7 A8 A9 A10 A : Option Addr) (c5 c7 c8 c9 c10 c : Nat) (w : World) (h : RdRep w r A5 A7 A8 A9 A10) (hc : Fit r c5 c7 c8 c9 c10) (hl : Kd.C kE w A m.f7.length m.f7) (hlc : m.f7.length ≤ c) (hG : ∀ (A5 A7 A8 A9 A10 : Option Addr) (c5 c7 c8 c9 c10 : Nat) (w : World), RdRep w r A5 A7 A8 A9 A10 → Fit r c5 c7 c8 c9 c10 → Calls Tryz.prog 30 #[.agg (Kx.rA r A5 A7 A8 A9 A10 c5 c7 c8 c9 c10)] w fun e w' => e = .returned (.bool false) ∧ Below w.heap.size w w') (hE : ∀ (A : Option Addr) (c : Nat) (w : World), Kd.C kE w A m.f7.length m.f7 → m.f7.length ≤ c → Calls Tryz.prog 31 #[.slice A m.f7.length c] w fun e w' => e = .returned (.bool false) ∧ Below w.heap.size w w') (hn : r.f5.length ≤ 1200 ∧ r.f7.length ≤ 20 ∧ r.f8.length ≤ 20 ∧ r.f9.length ≤ 20 ∧ r.f10.length ≤ 1200) (hT : TakesAs r m A5 A7 A8 A9 A10 A c5 c7 c8 c9 c10 c) :
    Calls Tryz.prog 15 #[.agg (Kx.rA r A5 A7 A8 A9 A10 c5 c7 c8 c9 c10), .agg (Kx.mA m A c)] w fun e w' => e = .returned (.bool true) ∧ Mem w w' [] := by
  have HG := Aside0.mk hG
  have HE := Aside0.mk hE
  have HSm := Aside0.mk (show Small r from ⟨Nat.le_trans hn.1 (by decide), Nat.le_trans hn.2.1 (by decide), Nat.le_trans hn.2.2.1 (by decide), Nat.le_trans hn.2.2.2.1 (by decide), Nat.le_trans hn.2.2.2.2 (by decide)⟩)
  obtain ⟨s, msgs, code, ⟨hs5, hss⟩, hms, tk, tk11⟩ := hT
  have HS5 := Aside0.mk hs5
  have HSs := Aside0.mk hss
  have HMS := Aside0.mk hms
  have TK := Aside0.mk tk
  have TK11 := Aside0.mk tk11
  have ecc : (code == code) = true := by simp
  clear hG hE hn hs5 hss hms tk tk11
  have H := Aside0.mk h
  have HC := Aside0.mk hc
  have HL := Aside0.mk hl
  have HLC := Aside0.mk hlc
  have M1 := Aside0.mk (((Mem.nil w).allocAt (Kx.rA r A5 A7 A8 A9 A10 c5 c7 c8 c9 c10) 25 w.heap.size rfl).allocAt (Kx.mA m A c) 27 (w.heap.size + 1) (by simp))
  clear h hc hl hlc
  go_enter Tryz.func15, Tryz.ntmps15
  go_wp2_with fail
  refine (HG.out A5 A7 A8 A9 A10 c5 c7 c8 c9 c10 _ (H.out.below M1.out.below) HC.out).mono ?_
  rintro e w1 ⟨rfl, hb⟩
  have M2 := Aside0.mk (M1.out.grow hb)
  clear hb M1
  have cM := blk_cell (M2.out.blk_at 0 rfl)
  have cR := blk_cell (M2.out.blk_at 1 rfl)
  go_wp2_with fail
  refine (HE.out A c _ (Kd.C_below HL.out M2.out.below) HLC.out).mono ?_
  rintro e w2 ⟨rfl, hb⟩
  have M3 := Aside0.mk (M2.out.grow hb)
  clear hb M2 cM cR
  have cM := blk_cell (M3.out.blk_at 0 rfl)
  have cR := blk_cell (M3.out.blk_at 1 rfl)
  go_wp2_with fail
  refine (Copy11_calls r A5 A7 A8 A9 A10 c5 c7 c8 c9 c10 _ (H.out.below M3.out.below) HSm.out).mono ?_
  rintro e w3 ⟨v5, v7, v8, v9, v10, rfl, hM⟩
  unfold rc
  obtain ⟨B5, b5, rfl, LB5, _⟩ := hM.row_at 0 rfl
  obtain ⟨B7, b7, rfl, LB7, _⟩ := hM.row_at 1 rfl
  obtain ⟨B8, b8, rfl, LB8, _⟩ := hM.row_at 2 rfl
  obtain ⟨B9, b9, rfl, LB9, _⟩ := hM.row_at 3 rfl
  obtain ⟨B10, b10, rfl, LB10, _⟩ := hM.row_at 4 rfl
  have M4 := Aside0.mk (M3.out.trans hM)
  clear hM M3 cM cR LB5 LB7 LB8 LB9 LB10
  have cM := blk_cell (M4.out.blk_at 5 rfl)
  have cR := blk_cell (M4.out.blk_at 6 rfl)
  have hR := blk_lt (M4.out.blk_at 6 rfl)
  have hMm := blk_lt (M4.out.blk_at 5 rfl)
  go_wp2_with fail
  have M5 := Aside0.mk (M4.out.allocAt #[.int .i64 r.f0, .int .i64 r.f1, .int .i64 r.f2, .int .i64 r.f3, .int .i64 r.f4, .slice B5 r.f5.length b5, .int .i64 r.f6, .slice B7 r.f7.length b7, .slice B8 r.f8.length b8, .slice B9 r.f9.length b9, .slice B10 r.f10.length b10, .int .i64 r.f11, .int .i64 r.f12] 25 w3.heap.size rfl)
  refine (TK.out _ (H.out.below M5.out.below) (Kd.C_below HL.out M5.out.below)).mono ?_
  rintro e w4 ⟨v5, v7, v8, v9, v10, vo, rfl, hM⟩
  unfold rc
  obtain ⟨S5, s5, rfl, LS5, _⟩ := hM.row_at 0 rfl
  obtain ⟨S7, s7, rfl, LS7, _⟩ := hM.row_at 1 rfl
  obtain ⟨S8, s8, rfl, LS8, _⟩ := hM.row_at 2 rfl
  obtain ⟨S9, s9, rfl, LS9, _⟩ := hM.row_at 3 rfl
  obtain ⟨S10, s10, rfl, LS10, _⟩ := hM.row_at 4 rfl
  obtain ⟨So, so, rfl, LSo, _⟩ := hM.row_at 5 rfl
  have M6 := Aside0.mk (M5.out.trans hM)
  clear hM M4 M5 cM cR hR hMm LS5 LS7 LS8 LS9 LS10 LSo
  have cM := blk_cell (M6.out.blk_at 12 rfl)
  have cR := blk_cell (M6.out.blk_at 13 rfl)
  have hR := blk_lt (M6.out.blk_at 13 rfl)
  have hMm := blk_lt (M6.out.blk_at 12 rfl)
  have cW := blk_cell (M6.out.blk_at 6 rfl)
  have hW := blk_lt (M6.out.blk_at 6 rfl)
  go_wp2_with fail
  have M7 := Aside0.mk (M6.out.allocAt #[.int .i64 s.f0, .int .i64 s.f1, .int .i64 s.f2, .int .i64 s.f3, .int .i64 s.f4, .slice S5 s.f5.length s5, .int .i64 s.f6, .slice S7 s.f7.length s7, .slice S8 s.f8.length s8, .slice S9 s.f9.length s9, .slice S10 s.f10.length s10, .int .i64 s.f11, .int .i64 s.f12] 25 w4.heap.size rfl)
  refine (TK11.out _ (H.out.below M7.out.below) (Kd.C_below HL.out M7.out.below)).mono ?_
  rintro e w5 ⟨T5, T7, T8, T9, T10, To, t5, t7, t8, t9, t10, tq, rfl, hR5, hF5, hC5, hl5, hb⟩
  have M8 := Aside0.mk (M7.out.grow hb)
  have HT := Aside0.mk hR5
  have HTM := Aside0.mk hC5
  clear hR5 hF5 hC5 hl5 hb M6 M7 cM cR hR hMm cW hW
  have cM := blk_cell (M8.out.blk_at 13 rfl)
  have cR := blk_cell (M8.out.blk_at 14 rfl)
  have hR := blk_lt (M8.out.blk_at 14 rfl)
  have cW := blk_cell (M8.out.blk_at 7 rfl)
  have hW := blk_lt (M8.out.blk_at 7 rfl)
  have cS := blk_cell (M8.out.blk_at 0 rfl)
  have hS := blk_lt (M8.out.blk_at 0 rfl)
  go_wp2_with fail
  have M9 := Aside0.mk (M8.out.allocAt #[.int .i64 s.f0, .int .i64 s.f1, .int .i64 s.f2, .int .i64 s.f3, .int .i64 s.f4, .slice T5 s.f5.length t5, .int .i64 s.f6, .slice T7 s.f7.length t7, .slice T8 s.f8.length t8, .slice T9 s.f9.length t9, .slice T10 s.f10.length t10, .int .i64 s.f11, .int .i64 s.f12] 25 w5.heap.size rfl)
  have G9 := Aside0.mk (below_alloc (Below.refl w5.heap.size w5) (Obj.cells #[.int .i64 s.f0, .int .i64 s.f1, .int .i64 s.f2, .int .i64 s.f3, .int .i64 s.f4, .slice T5 s.f5.length t5, .int .i64 s.f6, .slice T7 s.f7.length t7, .slice T8 s.f8.length t8, .slice T9 s.f9.length t9, .slice T10 s.f10.length t10, .int .i64 s.f11, .int .i64 s.f12] 25))
  refine (Same_good s S5 S7 S8 S9 S10 T5 T7 T8 T9 T10 s5 s7 s8 s9 s10 t5 t7 t8 t9 t10 _ ⟨M9.out.row_C 2 rfl, M9.out.row_C 3 rfl, M9.out.row_C 4 rfl, M9.out.row_C 5 rfl, M9.out.row_C 6 rfl⟩ (HT.out.below G9.out) HSs.out).mono ?_
  rintro e w6 ⟨rfl, hM⟩
  have MA := Aside0.mk (M9.out.trans hM)
  have GA := Aside0.mk (below_step G9.out hM.below)
  clear hM M8 M9 cM cR hR cW hW cS hS
  go_wp2_with fail
  refine (Ms.messages_calls So To so tq msgs _ (MA.out.row_C 7 rfl) (Kd.C_below HTM.out GA.out) HMS.out.1 HMS.out.2).mono ?_
  rintro e w7 ⟨rfl, hM⟩
  have MB := Aside0.mk (MA.out.trans hM)
  clear hM MA
  go_wp2_with fail
  refine (falseworklaw11_num.calls code code _ rfl).mono ?_
  rintro e w8 ⟨rfl, hD⟩
  have MC := Aside0.mk (MB.out.drawn hD)
  clear hD MB
  have cR := blk_cell (MC.out.blk_at 15 rfl)
  have cW := blk_cell (MC.out.blk_at 8 rfl)
  go_wp2_with fail
  refine (Same_good r A5 A7 A8 A9 A10 B5 B7 B8 B9 B10 c5 c7 c8 c9 c10 b5 b7 b8 b9 b10 _ (H.out.below MC.out.below) ⟨MC.out.row_C 9 rfl, MC.out.row_C 10 rfl, MC.out.row_C 11 rfl, MC.out.row_C 12 rfl, MC.out.row_C 13 rfl⟩ HSm.out).mono ?_
  rintro e w9 ⟨rfl, hM⟩
  have MD := Aside0.mk (MC.out.trans hM)
  clear hM MC cR cW
  go_wp2_with fail
  obtain ⟨L, hMJ, hL1, hL2, hL7, hL8, hL9, hL10, hL11, hL12, hL13, hL15⟩ : ∃ L : List Res, Mem w w9 L ∧ L[1]? = some (blk w4.heap.size 25 #[.int .i64 s.f0, .int .i64 s.f1, .int .i64 s.f2, .int .i64 s.f3, .int .i64 s.f4, .slice S5 s.f5.length s5, .int .i64 s.f6, .slice S7 s.f7.length s7, .slice S8 s.f8.length s8, .slice S9 s.f9.length s9, .slice S10 s.f10.length s10, .int .i64 s.f11, .int .i64 s.f12]) ∧ L[2]? = some (junkE (.slice S5 s.f5.length s5) s.f5.length) ∧ L[7]? = some (junk (.slice So msgs.length so) (msgs.map (fun m => m.f7.length))) ∧
      L[8]? = some (blk w3.heap.size 25 #[.int .i64 r.f0, .int .i64 r.f1, .int .i64 r.f2, .int .i64 r.f3, .int .i64 r.f4, .slice B5 r.f5.length b5, .int .i64 r.f6, .slice B7 r.f7.length b7, .slice B8 r.f8.length b8, .slice B9 r.f9.length b9, .slice B10 r.f10.length b10, .int .i64 r.f11, .int .i64 r.f12]) ∧ L[9]? = some (row kE 68 (.slice B5 r.f5.length b5) r.f5) ∧ L[10]? = some (row (Kd.int .i64) 3 (.slice B7 r.f7.length b7) r.f7) ∧ L[11]? = some (row (Kd.int .i64) 3 (.slice B8 r.f8.length b8) r.f8) ∧ L[12]? = some (row (Kd.int .i64) 3 (.slice B9 r.f9.length b9) r.f9) ∧ L[13]? = some (row kE 68 (.slice B10 r.f10.length b10) r.f10) ∧ L[15]? = some (blk w.heap.size 25 (Kx.rA r A5 A7 A8 A9 A10 c5 c7 c8 c9 c10)) :=
    ⟨_, Mem.to_junk (Mem.to_junkE MD.out 2 rfl) 7 rfl, rfl, rfl, rfl, rfl, rfl, rfl, rfl, rfl, rfl, rfl⟩
  have MJ := Aside0.mk hMJ
  have L1 := Aside0.mk hL1
  have L2 := Aside0.mk hL2
  have L7 := Aside0.mk hL7
  have L8 := Aside0.mk hL8
  have L9 := Aside0.mk (show _ ∧ _ ∧ _ ∧ _ ∧ _ from ⟨hL9, hL10, hL11, hL12, hL13⟩)
  have L15 := Aside0.mk hL15
  have HN5 := Aside0.mk (show s.f5.length ≤ 1000000 from HS5.out)
  clear MD hMJ hL1 hL2 hL7 hL8 hL9 hL10 hL11 hL12 hL13 hL15
  go_loopg [12] (s.f5.length + 1) (fun kq v12 w' => ∃ (k : Nat), v12 = .int .i64 k ∧ Aside0 (k ≤ s.f5.length ∧ kq = s.f5.length + 1 - k) ∧ Aside0 (Mem w w' L))
  case atStart => exact ⟨0, rfl, ⟨Nat.zero_le _, rfl⟩, MJ⟩
  case round =>
    obtain ⟨k, rfl, HK, MK⟩ := hrel
    clear MJ
    have cS := blk_cell (MK.out.blk_at 1 L1.out)
    by_cases hlt : k < s.f5.length
    · obtain ⟨g, cap, a, hv, hg, hcl, hfz, hst⟩ := Mem.junkE_at MK.out 2 L2.out k hlt
      cases hv
      have HST := Aside0.mk hst
      clear hst
      have p1 : (0 ≤ (k : Int)) = True := eq_true (by omega)
      have q1 : ((k : Int) < (s.f5.length : Int)) = True := eq_true (by omega)
      have q2 : decide ((k : Int) < (s.f5.length : Int)) = true := decide_eq_true (by omega)
      go_wp2
      go_roundg (s.f5.length - k)
      case measure => have := HK.out; omega
      case rel => exact ⟨k + 1, by rw [wrapB k (by have := HN5.out; omega)], ⟨by omega, by have := HK.out; omega⟩, ⟨HST.out (-1)⟩⟩
    have hk : k = s.f5.length := by have := HK.out.1; omega
    subst hk
    have q2 : decide ((s.f5.length : Int) < (s.f5.length : Int)) = false := by simp
    have q3 : ((s.f5.length : Int) < (s.f5.length : Int)) = False := by simp
    go_wp2
    clear cS q2 q3 hlt
    go_loopg [13] (msgs.length + 1) (fun kq v13 w' => ∃ (j : Nat), v13 = .int .i64 j ∧ Aside0 (j ≤ msgs.length ∧ kq = msgs.length + 1 - j) ∧ Aside0 (Mem w w' L))
    case atStart => exact ⟨0, rfl, ⟨Nat.zero_le _, rfl⟩, MK⟩
    case round =>
      obtain ⟨j, rfl, HJ, MK2⟩ := hrel
      clear MK HK
      by_cases hlt : j < msgs.length
      · have p1 : (0 ≤ (j : Int)) = True := eq_true (by omega)
        have q1 : ((j : Int) < (msgs.length : Int)) = True := eq_true (by omega)
        have q2 : decide ((j : Int) < (msgs.length : Int)) = true := decide_eq_true (by omega)
        obtain ⟨n, hn⟩ : ∃ n, (msgs.map (fun m => m.f7.length)).getD j 0 = n := ⟨_, rfl⟩
        have HNn := Aside0.mk hn
        have HB := Aside0.mk (show n ≤ 1000000000 by
          rw [← hn, List.getD, List.getElem?_map, List.getElem?_eq_getElem hlt]
          have := HMS.out.2 (j : Int)
          unfold rd_Msg at this
          rw [Int.toNat_natCast, List.getD, List.getElem?_eq_getElem hlt] at this
          exact this)
        clear hn
        go_wp2
        go_loopg [14] (n + 1) (fun kq v14 w' => ∃ (k : Nat), v14 = .int .i64 k ∧ Aside0 (k ≤ n ∧ kq = n + 1 - k) ∧ Aside0 (Mem w w' L))
        case atStart => exact ⟨0, rfl, ⟨Nat.zero_le _, rfl⟩, MK2⟩
        case round =>
          obtain ⟨k, rfl, HK, MK⟩ := hrel
          clear MK2
          obtain ⟨ad, cap, A7, c7, hv, hcl, hin⟩ := Mem.junk_at MK.out 7 L7.out j (by simpa using hlt)
          rw [List.length_map] at hv
          rw [HNn.out] at hcl hin
          cases hv
          by_cases hlk : k < n
          · obtain ⟨g, a, hA, hg, hc, hfz, hst⟩ := hin k hlk
            cases hA
            have HST := Aside0.mk hst
            clear hst hin
            have p3 : (0 ≤ (k : Int)) = True := eq_true (by omega)
            have q3 : ((k : Int) < (n : Int)) = True := eq_true (by omega)
            have q4 : decide ((k : Int) < (n : Int)) = true := decide_eq_true (by omega)
            go_wp2
            go_roundg (n - k)
            case measure => have := HK.out; omega
            case rel => exact ⟨k + 1, by rw [wrapB k (by have := HB.out; omega)], ⟨by omega, by have := HK.out; omega⟩, ⟨HST.out (-1)⟩⟩
          · have hk : k = n := by have := HK.out.1; omega
            subst hk
            clear hin
            have q3 : ((k : Int) < (k : Int)) = False := by simp
            have q4 : decide ((k : Int) < (k : Int)) = false := by simp
            go_wp2
            go_roundg (msgs.length - j)
            case measure => have := HJ.out; omega
            case rel => exact ⟨j + 1, by rw [wrapB j (by have := HMS.out.1; omega)], ⟨by omega, by have := HJ.out; omega⟩, MK⟩
      · have hj : j = msgs.length := by have := HJ.out.1; omega
        subst hj
        have q1 : ((msgs.length : Int) < (msgs.length : Int)) = False := by simp
        have q2 : decide ((msgs.length : Int) < (msgs.length : Int)) = false := by simp
        have cR := blk_cell (MK2.out.blk_at 15 L15.out)
        have cW := blk_cell (MK2.out.blk_at 8 L8.out)
        go_wp2_with fail
        refine (Same_good r A5 A7 A8 A9 A10 B5 B7 B8 B9 B10 c5 c7 c8 c9 c10 b5 b7 b8 b9 b10 _ (H.out.below MK2.out.below) ⟨MK2.out.row_C 9 L9.out.1, MK2.out.row_C 10 L9.out.2.1, MK2.out.row_C 11 L9.out.2.2.1, MK2.out.row_C 12 L9.out.2.2.2.1, MK2.out.row_C 13 L9.out.2.2.2.2⟩ HSm.out).mono ?_
        rintro e w10 ⟨rfl, hM⟩
        have MX := Aside0.mk (MK2.out.trans hM)
        clear hM
        go_wp2_with fail
        refine (awake_calls _).mono ?_
        rintro e w11 ⟨rfl, hM⟩
        have MY := Aside0.mk (MX.out.trans hM)
        clear hM
        go_wp2
        go_ret
        exact ⟨rfl, Mem.none_ MY.out⟩
theorem takes_calls (r : Rep) (m : Msg) (A5 A7 A8 A9 A10 A : Option Addr) (c5 c7 c8 c9 c10 c : Nat) (w : World) (h : RdRep w r A5 A7 A8 A9 A10) (hc : Fit r c5 c7 c8 c9 c10) (hl : Kd.C kE w A m.f7.length m.f7) (hlc : m.f7.length ≤ c) (hT : r.f5.length ≤ 1200 ∧ r.f7.length ≤ 20 ∧ r.f8.length ≤ 20 ∧ r.f9.length ≤ 20 ∧ r.f10.length ≤ 1200 → m.f7.length ≤ 1200 → TakesAs r m A5 A7 A8 A9 A10 A c5 c7 c8 c9 c10 c) :
    Calls Tryz.prog 15 #[.agg (Kx.rA r A5 A7 A8 A9 A10 c5 c7 c8 c9 c10), .agg (Kx.mA m A c)] w fun e w' => e = .returned (.bool true) ∧ Mem w w' [] := by
  obtain ⟨b, hg, hG⟩ := Great_any r
  obtain ⟨b', he, hE⟩ := entries_any m.f7
  cases b with
  | true => exact takes_great r m A5 A7 A8 A9 A10 A c5 c7 c8 c9 c10 c w h hc hl hlc hG
  | false =>
    cases b' with
    | true => exact takes_long r m A5 A7 A8 A9 A10 A c5 c7 c8 c9 c10 c w h hc hl hlc hG hE
    | false => exact takes_good r m A5 A7 A8 A9 A10 A c5 c7 c8 c9 c10 c w h hc hl hlc hG hE (hg rfl) (hT (hg rfl) (he rfl))
end Go.Proofs.YtggbjokhniigkaaGreat.Tz
namespace Go.Proofs.YtggbjokhniigkaaGreat.Of
open Ty Go.RowKit YtggbjokhniigkaaGreatW.PrintWords YtggbjokhniigkaaGreatW.PrintLast YtggbjokhniigkaaGreatW.PrintMore Mx Kx Wa Wb Wd Vc Ve Fi Tz
theorem C_bound {α : Type} {d : Kd α} {w : World} {A : Option Addr} {n : Nat} {xs : List α} (h : d.C w A n xs) : n ≤ 9223372036854775807 := h.2.1
end Go.Proofs.YtggbjokhniigkaaGreat.Of
namespace Go.Proofs.YtggbjokhniigkaaGreat.Ta
open Ty Go.RowKit YtggbjokhniigkaaGreatW.PrintWords YtggbjokhniigkaaGreatW.PrintLast YtggbjokhniigkaaGreatW.PrintMore Mx Kx Wa
theorem ta_nil (w : World) : (Instr.typeAssert Value.nilIface 20 124 true).run Tryz.prog w = .ok (.tuple #[.agg #[], .bool false]) w := by kernel_rfl
theorem ta_refusal (w : World) : (Instr.typeAssert (Value.iface 124 (.agg #[])) 20 124 true).run Tryz.prog w = .ok (.tuple #[.agg #[], .bool true]) w := by kernel_rfl
theorem catch_idle (p : Addr) (w : World) :
    CallsD Tryz.prog 102 #[.pointer (some p)] .returning w fun e u' w' =>
      e = .returned (.tuple #[]) ∧ u' = .returning ∧ Mem w w' [] := by
  refine callsD_of_wpS Tryz.func102 rfl fun c₀ cs hu => ?_
  apply wpS_seq
  apply wpS_region
  simp [wpOpsS, go_sem, recoverD, hu, Tryz.ntmps102, Exit.thenS, ta_nil]
  apply wpS_seq
  apply wpS_region
  simp [wpOpsS, go_sem, Exit.thenS]
  refine wpS_cond (t := false) (by simp [Act.eval, Array.replicate]) ?_
  simp only [Bool.false_eq_true, if_false]
  refine wpS_of_wp (wp_skip ?_)
  have hM : Mem w (w.alloc (Obj.cells #[] 124)) [] := Mem.sel (ps := [_]) (F := []) [] 1 ((Mem.nil w).alloc #[] 124) rfl rfl
  cases c₀
  simp_all [bodyPostS, results, Tryz.results102]
theorem catch_panicking (p : Addr) (older : List PanicEntry) (w : World) (x : Bool) (hc : w.cell? p = some (.bool x)) (hz : w.frozen? p = false) :
    CallsD Tryz.prog 102 #[.pointer (some p)] (.panicking ({ v := .iface 124 (.agg #[]), recovered := false } :: older)) w fun e u' w' =>
      e = .returned (.tuple #[]) ∧ u' = .panicking ({ v := .iface 124 (.agg #[]), recovered := true } :: older) ∧ ∃ w1, Mem w w1 [] ∧ w' = w1.setCell p (.bool false) := by
  refine callsD_of_wpS Tryz.func102 rfl fun c₀ cs hu => ?_
  apply wpS_seq
  apply wpS_region
  simp [wpOpsS, go_sem, recoverD, hu, Tryz.ntmps102, Exit.thenS, ta_refusal]
  apply wpS_seq
  apply wpS_region
  simp [wpOpsS, go_sem, Exit.thenS]
  refine wpS_cond (t := true) (by simp [Act.eval, Array.replicate]) ?_
  simp only [if_true]
  have hM : Mem w (w.alloc (Obj.cells #[] 124)) [] := Mem.sel (ps := [_]) (F := []) [] 1 ((Mem.nil w).alloc #[] 124) rfl rfl
  have hlt := World.block_lt_of_cell? w p hc
  have hc' : (w.alloc (Obj.cells #[] 124)).cell? p = some (.bool x) := (hM.below.cell hlt).trans hc
  have hz' : (w.alloc (Obj.cells #[] 124)).frozen? p = false := (hM.below.frozen hlt).trans hz
  apply wpS_region
  simp [wpOpsS, go_sem, hc', hz', bodyPostS, results, Tryz.results102]
  exact ⟨_, hM, rfl⟩
end Go.Proofs.YtggbjokhniigkaaGreat.Ta

/- Texts laid together: Ve, Rd, Tn, Tr, Ms, Sm, Jk, Gz, Tz, Ua, Un. No condition. -/
import Derived.Deep.RegionHeld3
import Derived.Deep.LoopGhost
import Derived.OrdersHeld
import Derived.Test.YtggbjokhniigkaaYGz9
import Derived.Test.YtggbjokhniigkaaYGz10
set_option linter.unusedVariables false
set_option linter.unusedSimpArgs false
set_option maxRecDepth 100000
set_option maxHeartbeats 8000000
namespace Go.Proofs.Ytggbjokhniigkaa.Ve
open Ty Go.RowKit YtggbjokhniigkaaW.PrintWords YtggbjokhniigkaaW.PrintLast YtggbjokhniigkaaW.PrintMore Mx Kx Wa Wb Wc Wj Va Vb Vc Wd PReplicaProposes
theorem May11_any (r : Rep) (A5 A7 A8 A9 A10 : Option Addr) (c5 c7 c8 c9 c10 : Nat) (w : World) (h : RdRep w r A5 A7 A8 A9 A10) (hc : Fit r c5 c7 c8 c9 c10) (hs : r.f5.length ≤ 9223372036854775807 ∧ r.f7.length ≤ 9223372036854775807 ∧ r.f8.length ≤ 9223372036854775807 ∧ r.f9.length ≤ 9223372036854775807 ∧ r.f10.length ≤ 9223372036854775807) :
    Calls Try.prog 32 #[.agg (Kx.rA r A5 A7 A8 A9 A10 c5 c7 c8 c9 c10)] w fun e w' => e = .returned (.bool (may r)) ∧ Below w.heap.size w w' :=
  (Hm.May_calls11 r A5 A7 A8 A9 A10 c5 c7 c8 c9 c10 w h hs).mono fun _ _ h => ⟨h.1, h.2.below⟩
end Go.Proofs.Ytggbjokhniigkaa.Ve
namespace Go.Proofs.Ytggbjokhniigkaa.Rd
end Go.Proofs.Ytggbjokhniigkaa.Rd
namespace Go.Proofs.Ytggbjokhniigkaa.Tn
open Ty Go.RowKit YtggbjokhniigkaaW.PrintWords YtggbjokhniigkaaW.PrintLast YtggbjokhniigkaaW.PrintMore Mx Kx Wa Wb Tb Wj PReplicaProposes
/-- May a replica take a message? -/
def mayMsg (r : Rep) (m : Msg) : Bool := decide (1 ≤ m.f0) && (decide (m.f0 ≤ 8) && mayM r m)
end Go.Proofs.Ytggbjokhniigkaa.Tn
namespace Go.Proofs.Ytggbjokhniigkaa.Tr
end Go.Proofs.Ytggbjokhniigkaa.Tr
namespace Go.Proofs.Ytggbjokhniigkaa.Ms
open Ty Go.RowKit YtggbjokhniigkaaW.PrintWords YtggbjokhniigkaaW.PrintLast YtggbjokhniigkaaW.PrintMore Mx Kx
theorem eqEntry (d : Nat) (w : World) (x0 y0 : Int) (x1 y1 : ByteArray) :
    (Op.equalIn (d + 2) 102 (.agg #[.int .i64 x0, .string x1]) (.agg #[.int .i64 y0, .string y1])).run Try.prog w = .ok (x0 == y0 && (x1.toList == y1.toList)) w := by
  refine eqA_of Try.underlying102 (by kernel_rfl) ?_
  refine eqf_cons (by rfl) (by go_simp; rfl) (by go_simp; rfl) (by go_simp) ?_
  exact eqf_last (by rfl) (by go_simp; rfl) (by go_simp; rfl) (by go_simp)
attribute [local go_sem high] eqEntry
theorem logs_calls (A B : Option Addr) (c d : Nat) (l : List Entry) (w : World) (hl : Kd.C kE w A l.length l) (hm : Kd.C kE w B l.length l) (hn : l.length ≤ 1000000000) :
    Calls Try.prog 50 #[.slice A l.length c, .slice B l.length d] w fun e w' => e = .returned (.bool true) ∧ Drawn0 w w' := by
  have hu := Try.underlying102
  have HL := Aside0.mk hl
  have HM := Aside0.mk hm
  clear hl hm
  have c3b0 : ((l.length : Int) == (l.length : Int)) = true := by simp
  have c3b1 : ((l.length : Int) != (l.length : Int)) = false := by simp
  go_enter Try.func50, Try.ntmps50
  go_wp2
  repeat (go_quiet (fail); try go_wp2)
  go_loopg [5] (l.length + 1) (fun kq v5 w' => ∃ (k : Nat), v5 = .int .i64 k ∧ Aside0 (k ≤ l.length ∧ kq = l.length + 1 - k) ∧ Drawn0 w w')
  case atStart => exact ⟨0, rfl, ⟨Nat.zero_le _, rfl⟩, by repeat (first | exact Drawn0.refl _ | apply Drawn0.step)⟩
  case round =>
    obtain ⟨k, rfl, HK, ⟨m1, rfl⟩⟩ := hrel
    by_cases hlt : k < l.length
    · obtain ⟨ad, e, hx0, hx1⟩ := at_Entry HL.out (k : Int) (by omega) (by omega)
      cases e
      obtain ⟨ae, e, hy0, hy1⟩ := at_Entry HM.out (k : Int) (by omega) (by omega)
      cases e
      simp only [Int.toNat_natCast] at hx0 hx1 hy0 hy1
      have p1 : (0 ≤ (k : Int)) = True := eq_true (by omega)
      have q1 : ((k : Int) < (l.length : Int)) = True := eq_true (by omega)
      have q2 : decide ((k : Int) < (l.length : Int)) = true := decide_eq_true (by omega)
      go_wp2
      go_quiet (fail)
      try go_wp2
      go_roundg (l.length - k)
      case measure => have := HK.out; omega
      case rel => exact ⟨k + 1, by go_num, ⟨by omega, by have := HK.out; omega⟩, by repeat (first | exact Drawn0.refl _ | apply Drawn0.step)⟩
    · have hk : k = l.length := by have := HK.out.1; omega
      subst hk
      go_wp2
      go_ret
      exact ⟨rfl, by repeat (first | exact Drawn0.refl _ | apply Drawn0.step)⟩
end Go.Proofs.Ytggbjokhniigkaa.Ms
namespace Go.Proofs.Ytggbjokhniigkaa.Sm
open Ty Go.RowKit YtggbjokhniigkaaW.PrintWords YtggbjokhniigkaaW.PrintLast YtggbjokhniigkaaW.PrintMore Mx Kx Wd
theorem at_IntC {w : World} {A : Option Addr} {n : Nat} {xs : List Int} (h : Kd.C (Kd.int .i64) w A n xs) (i : Int) (h0 : 0 ≤ i) (h1 : i < n) : ∃ ad, A = some ad ∧ w.cell? (ad.add i.toNat) = some (.int .i64 (rd xs i)) := by
  obtain ⟨ad, c, e, _, hK, hc0⟩ := Kd.C_get h 0 i h0 h1
  subst e
  exact ⟨ad, rfl, Kd.foot_int h i h0 h1⟩
theorem ints_calls (A B : Option Addr) (c d : Nat) (l : List Int) (w : World) (hl : Kd.C (Kd.int .i64) w A l.length l) (hm : Kd.C (Kd.int .i64) w B l.length l) (hn : l.length ≤ 1000000000) :
    Calls Try.prog 66 #[.slice A l.length c, .slice B l.length d] w fun e w' => e = .returned (.bool true) ∧ Drawn0 w w' := by
  have HL := Aside0.mk hl
  have HM := Aside0.mk hm
  clear hl hm
  have c3b0 : ((l.length : Int) == (l.length : Int)) = true := by simp
  have c3b1 : ((l.length : Int) != (l.length : Int)) = false := by simp
  go_enter Try.func66, Try.ntmps66
  go_wp2
  repeat (go_quiet (fail); try go_wp2)
  go_loopg [5] (l.length + 1) (fun kq v5 w' => ∃ (k : Nat), v5 = .int .i64 k ∧ Aside0 (k ≤ l.length ∧ kq = l.length + 1 - k) ∧ Drawn0 w w')
  case atStart => exact ⟨0, rfl, ⟨Nat.zero_le _, rfl⟩, by repeat (first | exact Drawn0.refl _ | apply Drawn0.step)⟩
  case round =>
    obtain ⟨k, rfl, HK, ⟨m1, rfl⟩⟩ := hrel
    by_cases hlt : k < l.length
    · obtain ⟨ad, e, hx0⟩ := at_IntC HL.out (k : Int) (by omega) (by omega)
      cases e
      obtain ⟨ae, e, hy0⟩ := at_IntC HM.out (k : Int) (by omega) (by omega)
      cases e
      simp only [Int.toNat_natCast] at hx0 hy0
      have p1 : (0 ≤ (k : Int)) = True := eq_true (by omega)
      have q1 : ((k : Int) < (l.length : Int)) = True := eq_true (by omega)
      have q2 : decide ((k : Int) < (l.length : Int)) = true := decide_eq_true (by omega)
      go_wp2
      go_quiet (fail)
      try go_wp2
      go_roundg (l.length - k)
      case measure => have := HK.out; omega
      case rel => exact ⟨k + 1, by go_num, ⟨by omega, by have := HK.out; omega⟩, by repeat (first | exact Drawn0.refl _ | apply Drawn0.step)⟩
    · have hk : k = l.length := by have := HK.out.1; omega
      subst hk
      go_wp2
      go_ret
      exact ⟨rfl, by repeat (first | exact Drawn0.refl _ | apply Drawn0.step)⟩
theorem Same_good (s : Rep) (A5 A7 A8 A9 A10 B5 B7 B8 B9 B10 : Option Addr) (a5 a7 a8 a9 a10 b5 b7 b8 b9 b10 : Nat) (w : World) (h : RdRep w s A5 A7 A8 A9 A10) (h' : RdRep w s B5 B7 B8 B9 B10) (hn : Small s) :
    Calls Try.prog 27 #[.agg #[.int .i64 s.f0, .int .i64 s.f1, .int .i64 s.f2, .int .i64 s.f3, .int .i64 s.f4, .slice A5 s.f5.length a5, .int .i64 s.f6, .slice A7 s.f7.length a7, .slice A8 s.f8.length a8, .slice A9 s.f9.length a9, .slice A10 s.f10.length a10, .int .i64 s.f11, .int .i64 s.f12], .agg #[.int .i64 s.f0, .int .i64 s.f1, .int .i64 s.f2, .int .i64 s.f3, .int .i64 s.f4, .slice B5 s.f5.length b5, .int .i64 s.f6, .slice B7 s.f7.length b7, .slice B8 s.f8.length b8, .slice B9 s.f9.length b9, .slice B10 s.f10.length b10, .int .i64 s.f11, .int .i64 s.f12]] w fun e w' => e = .returned (.bool true) ∧ Mem w w' [] := by
  have H := Aside0.mk h
  have H' := Aside0.mk h'
  have HN := Aside0.mk hn
  have M1 := Aside0.mk (((Mem.nil w).alloc #[.int .i64 s.f0, .int .i64 s.f1, .int .i64 s.f2, .int .i64 s.f3, .int .i64 s.f4, .slice A5 s.f5.length a5, .int .i64 s.f6, .slice A7 s.f7.length a7, .slice A8 s.f8.length a8, .slice A9 s.f9.length a9, .slice A10 s.f10.length a10, .int .i64 s.f11, .int .i64 s.f12] 45).allocAt #[.int .i64 s.f0, .int .i64 s.f1, .int .i64 s.f2, .int .i64 s.f3, .int .i64 s.f4, .slice B5 s.f5.length b5, .int .i64 s.f6, .slice B7 s.f7.length b7, .slice B8 s.f8.length b8, .slice B9 s.f9.length b9, .slice B10 s.f10.length b10, .int .i64 s.f11, .int .i64 s.f12] 45 (w.heap.size + 1) (by simp))
  clear h h' hn
  have e0 : (s.f0 == s.f0) = true := by simp
  have e1 : (s.f1 == s.f1) = true := by simp
  have e2 : (s.f2 == s.f2) = true := by simp
  have e3 : (s.f3 == s.f3) = true := by simp
  have e4 : (s.f4 == s.f4) = true := by simp
  have e6 : (s.f6 == s.f6) = true := by simp
  have e11 : (s.f11 == s.f11) = true := by simp
  have e12 : (s.f12 == s.f12) = true := by simp
  go_enter Try.func27, Try.ntmps27
  go_wp2_with fail
  refine (Ms.logs_calls A5 B5 a5 b5 s.f5 _ (Kd.C_below H.out.h5 M1.out.below) (Kd.C_below H'.out.h5 M1.out.below) HN.out.1).mono ?_
  rintro e w1 ⟨rfl, hD⟩
  have M2 := Aside0.mk (M1.out.drawn hD)
  clear hD M1
  have cA := blk_cell (M2.out.blk_at 1 rfl)
  have cB := blk_cell (M2.out.blk_at 0 rfl)
  go_wp2_with fail
  refine (Ms.logs_calls A10 B10 a10 b10 s.f10 _ (Kd.C_below H.out.h10 M2.out.below) (Kd.C_below H'.out.h10 M2.out.below) HN.out.2.2.2.2).mono ?_
  rintro e w2 ⟨rfl, hD⟩
  have M3 := Aside0.mk (M2.out.drawn hD)
  clear hD M2 cA cB
  have cA := blk_cell (M3.out.blk_at 1 rfl)
  have cB := blk_cell (M3.out.blk_at 0 rfl)
  go_wp2_with fail
  refine (ints_calls A7 B7 a7 b7 s.f7 _ (Kd.C_below H.out.h7 M3.out.below) (Kd.C_below H'.out.h7 M3.out.below) HN.out.2.1).mono ?_
  rintro e w3 ⟨rfl, hD⟩
  have M4 := Aside0.mk (M3.out.drawn hD)
  clear hD M3 cA cB
  have cA := blk_cell (M4.out.blk_at 1 rfl)
  have cB := blk_cell (M4.out.blk_at 0 rfl)
  go_wp2_with fail
  refine (ints_calls A8 B8 a8 b8 s.f8 _ (Kd.C_below H.out.h8 M4.out.below) (Kd.C_below H'.out.h8 M4.out.below) HN.out.2.2.1).mono ?_
  rintro e w4 ⟨rfl, hD⟩
  have M5 := Aside0.mk (M4.out.drawn hD)
  clear hD M4 cA cB
  have cA := blk_cell (M5.out.blk_at 1 rfl)
  have cB := blk_cell (M5.out.blk_at 0 rfl)
  go_wp2_with fail
  refine (ints_calls A9 B9 a9 b9 s.f9 _ (Kd.C_below H.out.h9 M5.out.below) (Kd.C_below H'.out.h9 M5.out.below) HN.out.2.2.2.1).mono ?_
  rintro e w5 ⟨rfl, hD⟩
  have M6 := Aside0.mk (M5.out.drawn hD)
  clear hD M5 cA cB
  have cA := blk_cell (M6.out.blk_at 1 rfl)
  have cB := blk_cell (M6.out.blk_at 0 rfl)
  go_wp2
  go_ret
  exact ⟨rfl, Mem.sel (ps := [_, _]) (F := []) [] 2 M6.out rfl rfl⟩
end Go.Proofs.Ytggbjokhniigkaa.Sm
namespace Go.Proofs.Ytggbjokhniigkaa.Jk
end Go.Proofs.Ytggbjokhniigkaa.Jk
namespace Go.Proofs.Ytggbjokhniigkaa.Gz
open Ty Go.RowKit YtggbjokhniigkaaW.PrintWords YtggbjokhniigkaaW.PrintLast YtggbjokhniigkaaW.PrintMore Mx Kx Wa Wb Wc Wd Wj Va Vb Vc PReplicaProposes
theorem entries_any (l : List Entry) : ∃ b : Bool, (b = false → l.length ≤ 1200) ∧ ∀ (A : Option Addr) (c : Nat) (w : World), Kd.C kE w A l.length l → l.length ≤ c → Calls Try.prog 40 #[.slice A l.length c] w fun e w' => e = .returned (.bool b) ∧ Below w.heap.size w w' := by
  obtain ⟨b, h1, h2⟩ := entries_f (l.map toS)
  refine ⟨b, fun h => by simpa using h2 h, fun A c w hl hc => ?_⟩
  have := falseworklaw11_entries.calls (l.length + 1) A c (l.map toS) b w (by rw [List.length_map]; exact C_toS hl) (by rw [List.length_map]; exact hc) (h1 _ (by simp))
  rw [List.length_map] at this
  exact this
theorem great_1 (r : Rep) (A5 A7 A8 A9 A10 : Option Addr) (c5 c7 c8 c9 c10 : Nat) (w : World) (h : RdRep w r A5 A7 A8 A9 A10) (hc : Fit r c5 c7 c8 c9 c10) (hE5 : ∀ (A : Option Addr) (c : Nat) (w : World), Kd.C kE w A r.f5.length r.f5 → r.f5.length ≤ c → Calls Try.prog 40 #[.slice A r.f5.length c] w fun e w' => e = .returned (.bool true) ∧ Below w.heap.size w w') :
    Calls Try.prog 30 #[.agg (Kx.rA r A5 A7 A8 A9 A10 c5 c7 c8 c9 c10)] w fun e w' => e = .returned (.bool true) ∧ Below w.heap.size w w' := by
  have H := Aside0.mk h
  have HC := Aside0.mk hc
  have HE5 := Aside0.mk hE5
  clear hE5
  have M1 := Aside0.mk ((Mem.nil w).allocAt (Kx.rA r A5 A7 A8 A9 A10 c5 c7 c8 c9 c10) 45 w.heap.size rfl)
  clear h hc
  go_enter Try.func30, Try.ntmps30
  go_wp2_with fail
  refine (HE5.out A5 c5 _ (Kd.C_below H.out.h5 M1.out.below) HC.out.h5).mono ?_
  rintro e w1 ⟨rfl, hb⟩
  have M2 := Aside0.mk (M1.out.grow hb)
  clear hb M1
  have cR := blk_cell (M2.out.blk_at 0 rfl)
  go_wp2
  all_goals
    go_ret
    exact ⟨rfl, M2.out.below⟩
theorem great_2 (r : Rep) (A5 A7 A8 A9 A10 : Option Addr) (c5 c7 c8 c9 c10 : Nat) (w : World) (h : RdRep w r A5 A7 A8 A9 A10) (hc : Fit r c5 c7 c8 c9 c10) (hE5 : ∀ (A : Option Addr) (c : Nat) (w : World), Kd.C kE w A r.f5.length r.f5 → r.f5.length ≤ c → Calls Try.prog 40 #[.slice A r.f5.length c] w fun e w' => e = .returned (.bool false) ∧ Below w.heap.size w w') (hE10 : ∀ (A : Option Addr) (c : Nat) (w : World), Kd.C kE w A r.f10.length r.f10 → r.f10.length ≤ c → Calls Try.prog 40 #[.slice A r.f10.length c] w fun e w' => e = .returned (.bool true) ∧ Below w.heap.size w w') :
    Calls Try.prog 30 #[.agg (Kx.rA r A5 A7 A8 A9 A10 c5 c7 c8 c9 c10)] w fun e w' => e = .returned (.bool true) ∧ Below w.heap.size w w' := by
  have H := Aside0.mk h
  have HC := Aside0.mk hc
  have HE5 := Aside0.mk hE5
  clear hE5
  have HE10 := Aside0.mk hE10
  clear hE10
  have M1 := Aside0.mk ((Mem.nil w).allocAt (Kx.rA r A5 A7 A8 A9 A10 c5 c7 c8 c9 c10) 45 w.heap.size rfl)
  clear h hc
  go_enter Try.func30, Try.ntmps30
  go_wp2_with fail
  refine (HE5.out A5 c5 _ (Kd.C_below H.out.h5 M1.out.below) HC.out.h5).mono ?_
  rintro e w1 ⟨rfl, hb⟩
  have M2 := Aside0.mk (M1.out.grow hb)
  clear hb M1
  have cR := blk_cell (M2.out.blk_at 0 rfl)
  go_wp2_with fail
  refine (HE10.out A10 c10 _ (Kd.C_below H.out.h10 M2.out.below) HC.out.h10).mono ?_
  rintro e w2 ⟨rfl, hb⟩
  have M3 := Aside0.mk (M2.out.grow hb)
  clear hb M2 cR
  have cR := blk_cell (M3.out.blk_at 0 rfl)
  go_wp2
  all_goals
    go_ret
    exact ⟨rfl, M3.out.below⟩
theorem great_3 (r : Rep) (A5 A7 A8 A9 A10 : Option Addr) (c5 c7 c8 c9 c10 : Nat) (w : World) (h : RdRep w r A5 A7 A8 A9 A10) (hc : Fit r c5 c7 c8 c9 c10) (hE5 : ∀ (A : Option Addr) (c : Nat) (w : World), Kd.C kE w A r.f5.length r.f5 → r.f5.length ≤ c → Calls Try.prog 40 #[.slice A r.f5.length c] w fun e w' => e = .returned (.bool false) ∧ Below w.heap.size w w') (hE10 : ∀ (A : Option Addr) (c : Nat) (w : World), Kd.C kE w A r.f10.length r.f10 → r.f10.length ≤ c → Calls Try.prog 40 #[.slice A r.f10.length c] w fun e w' => e = .returned (.bool false) ∧ Below w.heap.size w w') (g7 : 20 < r.f7.length) :
    Calls Try.prog 30 #[.agg (Kx.rA r A5 A7 A8 A9 A10 c5 c7 c8 c9 c10)] w fun e w' => e = .returned (.bool true) ∧ Below w.heap.size w w' := by
  have H := Aside0.mk h
  have HC := Aside0.mk hc
  have HE5 := Aside0.mk hE5
  clear hE5
  have HE10 := Aside0.mk hE10
  clear hE10
  have e7 : decide (20 < (r.f7.length : Int)) = true := by simp; omega
  clear g7
  have M1 := Aside0.mk ((Mem.nil w).allocAt (Kx.rA r A5 A7 A8 A9 A10 c5 c7 c8 c9 c10) 45 w.heap.size rfl)
  clear h hc
  go_enter Try.func30, Try.ntmps30
  go_wp2_with fail
  refine (HE5.out A5 c5 _ (Kd.C_below H.out.h5 M1.out.below) HC.out.h5).mono ?_
  rintro e w1 ⟨rfl, hb⟩
  have M2 := Aside0.mk (M1.out.grow hb)
  clear hb M1
  have cR := blk_cell (M2.out.blk_at 0 rfl)
  go_wp2_with fail
  refine (HE10.out A10 c10 _ (Kd.C_below H.out.h10 M2.out.below) HC.out.h10).mono ?_
  rintro e w2 ⟨rfl, hb⟩
  have M3 := Aside0.mk (M2.out.grow hb)
  clear hb M2 cR
  have cR := blk_cell (M3.out.blk_at 0 rfl)
  go_wp2
  all_goals
    go_ret
    exact ⟨rfl, M3.out.below⟩
theorem great_4 (r : Rep) (A5 A7 A8 A9 A10 : Option Addr) (c5 c7 c8 c9 c10 : Nat) (w : World) (h : RdRep w r A5 A7 A8 A9 A10) (hc : Fit r c5 c7 c8 c9 c10) (hE5 : ∀ (A : Option Addr) (c : Nat) (w : World), Kd.C kE w A r.f5.length r.f5 → r.f5.length ≤ c → Calls Try.prog 40 #[.slice A r.f5.length c] w fun e w' => e = .returned (.bool false) ∧ Below w.heap.size w w') (hE10 : ∀ (A : Option Addr) (c : Nat) (w : World), Kd.C kE w A r.f10.length r.f10 → r.f10.length ≤ c → Calls Try.prog 40 #[.slice A r.f10.length c] w fun e w' => e = .returned (.bool false) ∧ Below w.heap.size w w') (g7 : ¬ 20 < r.f7.length) (g8 : 20 < r.f8.length) :
    Calls Try.prog 30 #[.agg (Kx.rA r A5 A7 A8 A9 A10 c5 c7 c8 c9 c10)] w fun e w' => e = .returned (.bool true) ∧ Below w.heap.size w w' := by
  have H := Aside0.mk h
  have HC := Aside0.mk hc
  have HE5 := Aside0.mk hE5
  clear hE5
  have HE10 := Aside0.mk hE10
  clear hE10
  have e7 : decide (20 < (r.f7.length : Int)) = false := by simp; omega
  clear g7
  have e8 : decide (20 < (r.f8.length : Int)) = true := by simp; omega
  clear g8
  have M1 := Aside0.mk ((Mem.nil w).allocAt (Kx.rA r A5 A7 A8 A9 A10 c5 c7 c8 c9 c10) 45 w.heap.size rfl)
  clear h hc
  go_enter Try.func30, Try.ntmps30
  go_wp2_with fail
  refine (HE5.out A5 c5 _ (Kd.C_below H.out.h5 M1.out.below) HC.out.h5).mono ?_
  rintro e w1 ⟨rfl, hb⟩
  have M2 := Aside0.mk (M1.out.grow hb)
  clear hb M1
  have cR := blk_cell (M2.out.blk_at 0 rfl)
  go_wp2_with fail
  refine (HE10.out A10 c10 _ (Kd.C_below H.out.h10 M2.out.below) HC.out.h10).mono ?_
  rintro e w2 ⟨rfl, hb⟩
  have M3 := Aside0.mk (M2.out.grow hb)
  clear hb M2 cR
  have cR := blk_cell (M3.out.blk_at 0 rfl)
  go_wp2
  all_goals
    go_ret
    exact ⟨rfl, M3.out.below⟩
theorem great_5 (r : Rep) (A5 A7 A8 A9 A10 : Option Addr) (c5 c7 c8 c9 c10 : Nat) (w : World) (h : RdRep w r A5 A7 A8 A9 A10) (hc : Fit r c5 c7 c8 c9 c10) (hE5 : ∀ (A : Option Addr) (c : Nat) (w : World), Kd.C kE w A r.f5.length r.f5 → r.f5.length ≤ c → Calls Try.prog 40 #[.slice A r.f5.length c] w fun e w' => e = .returned (.bool false) ∧ Below w.heap.size w w') (hE10 : ∀ (A : Option Addr) (c : Nat) (w : World), Kd.C kE w A r.f10.length r.f10 → r.f10.length ≤ c → Calls Try.prog 40 #[.slice A r.f10.length c] w fun e w' => e = .returned (.bool false) ∧ Below w.heap.size w w') (g7 : ¬ 20 < r.f7.length) (g8 : ¬ 20 < r.f8.length) (g9 : 20 < r.f9.length) :
    Calls Try.prog 30 #[.agg (Kx.rA r A5 A7 A8 A9 A10 c5 c7 c8 c9 c10)] w fun e w' => e = .returned (.bool true) ∧ Below w.heap.size w w' := by
  have H := Aside0.mk h
  have HC := Aside0.mk hc
  have HE5 := Aside0.mk hE5
  clear hE5
  have HE10 := Aside0.mk hE10
  clear hE10
  have e7 : decide (20 < (r.f7.length : Int)) = false := by simp; omega
  clear g7
  have e8 : decide (20 < (r.f8.length : Int)) = false := by simp; omega
  clear g8
  have e9 : decide (20 < (r.f9.length : Int)) = true := by simp; omega
  clear g9
  have M1 := Aside0.mk ((Mem.nil w).allocAt (Kx.rA r A5 A7 A8 A9 A10 c5 c7 c8 c9 c10) 45 w.heap.size rfl)
  clear h hc
  go_enter Try.func30, Try.ntmps30
  go_wp2_with fail
  refine (HE5.out A5 c5 _ (Kd.C_below H.out.h5 M1.out.below) HC.out.h5).mono ?_
  rintro e w1 ⟨rfl, hb⟩
  have M2 := Aside0.mk (M1.out.grow hb)
  clear hb M1
  have cR := blk_cell (M2.out.blk_at 0 rfl)
  go_wp2_with fail
  refine (HE10.out A10 c10 _ (Kd.C_below H.out.h10 M2.out.below) HC.out.h10).mono ?_
  rintro e w2 ⟨rfl, hb⟩
  have M3 := Aside0.mk (M2.out.grow hb)
  clear hb M2 cR
  have cR := blk_cell (M3.out.blk_at 0 rfl)
  go_wp2
  all_goals
    go_ret
    exact ⟨rfl, M3.out.below⟩
theorem great_6 (r : Rep) (A5 A7 A8 A9 A10 : Option Addr) (c5 c7 c8 c9 c10 : Nat) (w : World) (h : RdRep w r A5 A7 A8 A9 A10) (hc : Fit r c5 c7 c8 c9 c10) (hE5 : ∀ (A : Option Addr) (c : Nat) (w : World), Kd.C kE w A r.f5.length r.f5 → r.f5.length ≤ c → Calls Try.prog 40 #[.slice A r.f5.length c] w fun e w' => e = .returned (.bool false) ∧ Below w.heap.size w w') (hE10 : ∀ (A : Option Addr) (c : Nat) (w : World), Kd.C kE w A r.f10.length r.f10 → r.f10.length ≤ c → Calls Try.prog 40 #[.slice A r.f10.length c] w fun e w' => e = .returned (.bool false) ∧ Below w.heap.size w w') (g7 : ¬ 20 < r.f7.length) (g8 : ¬ 20 < r.f8.length) (g9 : ¬ 20 < r.f9.length) :
    Calls Try.prog 30 #[.agg (Kx.rA r A5 A7 A8 A9 A10 c5 c7 c8 c9 c10)] w fun e w' => e = .returned (.bool false) ∧ Below w.heap.size w w' := by
  have H := Aside0.mk h
  have HC := Aside0.mk hc
  have HE5 := Aside0.mk hE5
  clear hE5
  have HE10 := Aside0.mk hE10
  clear hE10
  have e7 : decide (20 < (r.f7.length : Int)) = false := by simp; omega
  clear g7
  have e8 : decide (20 < (r.f8.length : Int)) = false := by simp; omega
  clear g8
  have e9 : decide (20 < (r.f9.length : Int)) = false := by simp; omega
  clear g9
  have M1 := Aside0.mk ((Mem.nil w).allocAt (Kx.rA r A5 A7 A8 A9 A10 c5 c7 c8 c9 c10) 45 w.heap.size rfl)
  clear h hc
  go_enter Try.func30, Try.ntmps30
  go_wp2_with fail
  refine (HE5.out A5 c5 _ (Kd.C_below H.out.h5 M1.out.below) HC.out.h5).mono ?_
  rintro e w1 ⟨rfl, hb⟩
  have M2 := Aside0.mk (M1.out.grow hb)
  clear hb M1
  have cR := blk_cell (M2.out.blk_at 0 rfl)
  go_wp2_with fail
  refine (HE10.out A10 c10 _ (Kd.C_below H.out.h10 M2.out.below) HC.out.h10).mono ?_
  rintro e w2 ⟨rfl, hb⟩
  have M3 := Aside0.mk (M2.out.grow hb)
  clear hb M2 cR
  have cR := blk_cell (M3.out.blk_at 0 rfl)
  go_wp2
  all_goals
    go_ret
    exact ⟨rfl, M3.out.below⟩
/-- Whether there is more than is gone through: the same at each call. -/
theorem Great_any (r : Rep) : ∃ b : Bool, (b = false → r.f5.length ≤ 1200 ∧ r.f7.length ≤ 20 ∧ r.f8.length ≤ 20 ∧ r.f9.length ≤ 20 ∧ r.f10.length ≤ 1200) ∧ ∀ (A5 A7 A8 A9 A10 : Option Addr) (c5 c7 c8 c9 c10 : Nat) (w : World), RdRep w r A5 A7 A8 A9 A10 → Fit r c5 c7 c8 c9 c10 →
    Calls Try.prog 30 #[.agg (Kx.rA r A5 A7 A8 A9 A10 c5 c7 c8 c9 c10)] w fun e w' => e = .returned (.bool b) ∧ Below w.heap.size w w' := by
  obtain ⟨b5, g5, hE5⟩ := entries_any r.f5
  obtain ⟨b10, g10, hE10⟩ := entries_any r.f10
  cases b5 with
  | true => exact ⟨true, (fun h => by cases h), fun A5 A7 A8 A9 A10 c5 c7 c8 c9 c10 w h hc => great_1 r A5 A7 A8 A9 A10 c5 c7 c8 c9 c10 w h hc hE5⟩
  | false =>
  cases b10 with
  | true => exact ⟨true, (fun h => by cases h), fun A5 A7 A8 A9 A10 c5 c7 c8 c9 c10 w h hc => great_2 r A5 A7 A8 A9 A10 c5 c7 c8 c9 c10 w h hc hE5 hE10⟩
  | false =>
  by_cases h7 : 20 < r.f7.length
  · exact ⟨true, (fun h => by cases h), fun A5 A7 A8 A9 A10 c5 c7 c8 c9 c10 w h hc => great_3 r A5 A7 A8 A9 A10 c5 c7 c8 c9 c10 w h hc hE5 hE10 h7⟩
  by_cases h8 : 20 < r.f8.length
  · exact ⟨true, (fun h => by cases h), fun A5 A7 A8 A9 A10 c5 c7 c8 c9 c10 w h hc => great_4 r A5 A7 A8 A9 A10 c5 c7 c8 c9 c10 w h hc hE5 hE10 h7 h8⟩
  by_cases h9 : 20 < r.f9.length
  · exact ⟨true, (fun h => by cases h), fun A5 A7 A8 A9 A10 c5 c7 c8 c9 c10 w h hc => great_5 r A5 A7 A8 A9 A10 c5 c7 c8 c9 c10 w h hc hE5 hE10 h7 h8 h9⟩
  exact ⟨false, fun _ => ⟨g5 rfl, by omega, by omega, by omega, g10 rfl⟩, fun A5 A7 A8 A9 A10 c5 c7 c8 c9 c10 w h hc => great_6 r A5 A7 A8 A9 A10 c5 c7 c8 c9 c10 w h hc hE5 hE10 h7 h8 h9⟩
end Go.Proofs.Ytggbjokhniigkaa.Gz
namespace Go.Proofs.Ytggbjokhniigkaa.Tz
open Ty Go.RowKit YtggbjokhniigkaaW.PrintWords YtggbjokhniigkaaW.PrintLast YtggbjokhniigkaaW.PrintMore Mx Kx Wa Wb Wc Wd We Wj Va Vb Vc Rd Tr Sm Jk Gz Wk PReplicaProposes
theorem wrapB (j : Nat) (h : j ≤ 2000000000) : wrap64 ((j : Int) + 1) = ((j + 1 : Nat) : Int) := by
  rw [wrap64_id (by omega) (by omega)]
  push_cast
  rfl
theorem Mem.none_ {w0 w : World} {rs : List Res} (h : Mem w0 w rs) : Mem w0 w [] := ⟨h.os, h.tape, h.output, h.size, h.old, fun _ => 0, fun i r hi => by simp at hi⟩
end Go.Proofs.Ytggbjokhniigkaa.Tz
namespace Go.Proofs.Ytggbjokhniigkaa.Ua
open Ty Go.RowKit YtggbjokhniigkaaW.PrintWords YtggbjokhniigkaaW.PrintLast YtggbjokhniigkaaW.PrintMore Mx Kx Wa Wb Wc Wd Vc Sa Wj Tk Tb Tn Tt Tx Tr Tz
theorem mayP_iff (r : Rep) (m : Msg) : mayMsgP r m ↔ mayMsg r m = true := by
  unfold mayMsgP mayMsg mayM
  simp only [Bool.and_eq_true, decide_eq_true_eq, Bool.or_eq_true, Bool.not_eq_true', beq_eq_false_iff_ne, beq_iff_eq, ne_eq]
  constructor
  · rintro ⟨a1, a2, a3, a4, a5, a6, a7, a8, a9, a10, a11, a12⟩
    refine ⟨a1, a2, a3, a4, a5, a6, a7, a8, a9, a10, a11, ?_⟩
    by_cases h : m.f0 = 1
    · exact .inr (by have := a12 h; omega)
    · exact .inl h
  · rintro ⟨a1, a2, a3, a4, a5, a6, a7, a8, a9, a10, a11, a12⟩
    exact ⟨a1, a2, a3, a4, a5, a6, a7, a8, a9, a10, a11, fun h => a12.elim (fun h' => absurd h h') (fun h' => by omega)⟩
theorem mayMsg_in (r : Rep) (m : Msg) (h1 : 1 ≤ m.f0) (h8 : m.f0 ≤ 8) : mayMsg r m = mayM r m := by simp [mayMsg, h1, h8]
theorem may_P {r : Rep} {m : Msg} (h1 : 1 ≤ m.f0) (h8 : m.f0 ≤ 8) (h : mayM r m = true) : mayMsgP r m := (mayP_iff r m).2 ((mayMsg_in r m h1 h8).trans h)
end Go.Proofs.Ytggbjokhniigkaa.Ua
namespace Go.Proofs.Ytggbjokhniigkaa.Un
open Ty Go.RowKit YtggbjokhniigkaaW.PrintWords YtggbjokhniigkaaW.PrintLast YtggbjokhniigkaaW.PrintMore Mx Kx Wa Wd Vc Wj Tk Tb Tn Tz Ua
structure Nums (r : Rep) (m : Msg) : Prop where
  i0 : 0 ≤ r.f0
  i1 : r.f0 < r.f1
  n5 : r.f1 ≤ 5
  w0 : 0 ≤ r.f2
  w1 : r.f2 ≤ 4611686018427387904
  v0 : 0 ≤ m.f3
  v1 : m.f3 ≤ 4611686018427387904
  x0 : 0 ≤ m.f4
  x1 : m.f4 ≤ 4611686018427387904
  y0 : 0 ≤ m.f5
  y1 : m.f5 ≤ 4611686018427387904
  f0 : 0 ≤ m.f1
  f1 : m.f1 < r.f1
  c0 : 0 ≤ r.f6
  c1 : r.f6 ≤ (r.f5.length : Int)
theorem below_num {n : Int} (h : below n = true) : 0 ≤ n ∧ n ≤ 4611686018427387904 := by
  unfold below maxTime at h
  simp at h
  omega
theorem nums {r : Rep} {m : Msg} (k1 : 1 ≤ m.f0) (k8 : m.f0 ≤ 8) (h1 : may r = true) (h2 : mayM r m = true) : Nums r m := by
  have P := (may_iff r).1 h1
  have Q := may_P k1 k8 h2
  have n5 : r.f1 ≤ 5 := by
    have := P.1
    unfold size at this
    simp at this
    omega
  have w := below_num P.2.2.2.1
  have v := below_num Q.2.2.2.2.2.2.1
  have x := below_num Q.2.2.2.2.2.2.2.1
  have y := below_num Q.2.2.2.2.2.2.2.2.1
  exact ⟨P.2.1, P.2.2.1, n5, w.1, w.2, v.1, v.2, x.1, x.2, y.1, y.2, Q.2.2.1, Q.2.2.2.1, P.2.2.2.2.2.2.2.2.2.2.1, P.2.2.2.2.2.2.2.2.2.2.2.1⟩
end Go.Proofs.Ytggbjokhniigkaa.Un

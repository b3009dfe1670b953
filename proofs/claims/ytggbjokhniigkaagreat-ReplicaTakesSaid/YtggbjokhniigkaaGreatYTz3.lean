/- Texts laid together: Kind, Or, Wa, Wb. No condition. -/
import Derived.Test.YtggbjokhniigkaaGreatProg
import Derived.KernelRfl
import Derived.WalkKit
import Derived.ProofKit
import Derived.OpenShut
import Derived.ChangeOld
import Derived.Below
import Derived.Deep.Slices
import Derived.WalkSpells
import Derived.WalkLawsBesides
import Derived.RegionTactic
import Derived.Deep.RegionLaw
import Derived.Deep.QuietTactic
import Derived.BigQuiet
import Derived.BigRegion
import Derived.Outline
import Derived.ChangeAlike
import Derived.Deep.DeepMust
import Derived.Deep.LoopGhost
import Derived.OrdersHeld
import Derived.Test.YtggbjokhniigkaaGreatYTz2
set_option linter.unusedVariables false
set_option linter.unusedSimpArgs false
set_option maxRecDepth 100000
set_option maxHeartbeats 8000000
namespace Go.Proofs.YtggbjokhniigkaaGreat.Kx
open Ty Go.RowKit YtggbjokhniigkaaGreatW.PrintWords YtggbjokhniigkaaGreatW.PrintLast YtggbjokhniigkaaGreatW.PrintMore
theorem infoInt : (Tryz.prog.info? 3).map (fun i => (i.zero, i.size, i.bytes)) = some (some (.int .i64 0), 1, 8) := by kernel_rfl
theorem infoMsg : (Tryz.prog.info? 27).map (fun i => (i.zero, i.size, i.bytes)) = some (some (.agg #[(.int .i64 0), (.int .i64 0), (.int .i64 0), (.int .i64 0), (.int .i64 0), (.int .i64 0), (.int .i64 0), (.slice none 0 0)]), 8, 80) := by kernel_rfl
theorem infoEntry : (Tryz.prog.info? 68).map (fun i => (i.zero, i.size, i.bytes)) = some (some (.agg #[(.int .i64 0), (.string ⟨#[]⟩)]), 2, 24) := by kernel_rfl
-- the values' own types
/-! #### struct type 68 -/
def zE : Entry := ⟨(0 : Int), (⟨#[]⟩ : ByteArray)⟩
def kE : Kd Entry := Kd.iso (Kd.pair (Kd.int .i64) Kd.string) (fun x : Entry => (x.f0, x.f1))
theorem kE_open {w : World} {x : Entry} {cs : List Value} (h : kE.K w x cs) : cs = [.int .i64 x.f0, .string x.f1] := by
  obtain ⟨_, _, rfl, rfl, rfl⟩ := h
  exact rfl
theorem kE_openM {w : World} {base : Nat} {ok : Nat → Prop} {x : Entry} {cs : List Value} (h : kE.M w base ok x cs) : cs = [.int .i64 x.f0, .string x.f1] := by
  obtain ⟨_, _, rfl, rfl, rfl⟩ := h
  exact rfl
theorem kE_mk (w : World) (x : Entry)  : kE.K w x [.int .i64 x.f0, .string x.f1] := ⟨[.int .i64 x.f0], [.string x.f1], rfl, rfl, rfl⟩
theorem kE_mkM (w : World) (base : Nat) (ok : Nat → Prop) (x : Entry)  : kE.M w base ok x [.int .i64 x.f0, .string x.f1] := ⟨[.int .i64 x.f0], [.string x.f1], rfl, rfl, rfl⟩
def rd_Entry (xs : List Entry) (i : Int) : Entry := xs.getD i.toNat zE
theorem at_Entry {w : World} {A : Option Addr} {n : Nat} {xs : List Entry} (h : Kd.C kE w A n xs) (i : Int) (h0 : 0 ≤ i) (h1 : i < n) : ∃ ad , A = some ad ∧ w.cell? (ad.add (i.toNat * 2)) = some (.int .i64 (rd_Entry xs i).f0) ∧ w.cell? ⟨(ad.add (i.toNat * 2)).block, (ad.add (i.toNat * 2)).off + 1, none⟩ = some (.string (rd_Entry xs i).f1) := by
  obtain ⟨ad, c, e, _, hK, hc0⟩ := Kd.C_get h zE i h0 h1
  have hc : ∀ j u, c[j]? = some u → w.cell? (ad.add (i.toNat * 2 + j)) = some u := hc0
  obtain rfl := kE_open hK
  exact ⟨ad, e, hc 0 _ rfl, by rw [← add_field _ _ 1 (by omega)]; exact hc 1 _ rfl⟩
/-! #### struct type 27 -/
def zM : Msg := ⟨(0 : Int), (0 : Int), (0 : Int), (0 : Int), (0 : Int), (0 : Int), (0 : Int), ([] : List Entry)⟩
def kM : Kd Msg := Kd.iso (Kd.pair (Kd.int .i64) (Kd.pair (Kd.int .i64) (Kd.pair (Kd.int .i64) (Kd.pair (Kd.int .i64) (Kd.pair (Kd.int .i64) (Kd.pair (Kd.int .i64) (Kd.pair (Kd.int .i64) (Kd.slice 68 kE)))))))) (fun x : Msg => (x.f0, x.f1, x.f2, x.f3, x.f4, x.f5, x.f6, x.f7))
theorem kM_open {w : World} {x : Msg} {cs : List Value} (h : kM.K w x cs) : ∃ A7 c7, cs = [.int .i64 x.f0, .int .i64 x.f1, .int .i64 x.f2, .int .i64 x.f3, .int .i64 x.f4, .int .i64 x.f5, .int .i64 x.f6, .slice A7 x.f7.length c7] ∧ x.f7.length ≤ c7 ∧ kE.C w A7 x.f7.length x.f7 := by
  obtain ⟨_, _, rfl, rfl, ⟨_, _, rfl, rfl, ⟨_, _, rfl, rfl, ⟨_, _, rfl, rfl, ⟨_, _, rfl, rfl, ⟨_, _, rfl, rfl, ⟨_, _, rfl, rfl, ⟨A7, c7, rfl, l7, g7⟩⟩⟩⟩⟩⟩⟩⟩ := h
  exact ⟨A7, c7, rfl, l7, g7⟩
theorem kM_openM {w : World} {base : Nat} {ok : Nat → Prop} {x : Msg} {cs : List Value} (h : kM.M w base ok x cs) : ∃ v7, cs = [.int .i64 x.f0, .int .i64 x.f1, .int .i64 x.f2, .int .i64 x.f3, .int .i64 x.f4, .int .i64 x.f5, .int .i64 x.f6, v7] ∧ kE.R 68 w base ok v7 x.f7 := by
  obtain ⟨_, _, rfl, rfl, ⟨_, _, rfl, rfl, ⟨_, _, rfl, rfl, ⟨_, _, rfl, rfl, ⟨_, _, rfl, rfl, ⟨_, _, rfl, rfl, ⟨_, _, rfl, rfl, ⟨v7, rfl, g7⟩⟩⟩⟩⟩⟩⟩⟩ := h
  exact ⟨v7, rfl, g7⟩
theorem kM_mk (w : World) (x : Msg) {A7 : Option Addr} {c7 : Nat} (l7 : x.f7.length ≤ c7) (g7 : kE.C w A7 x.f7.length x.f7) : kM.K w x [.int .i64 x.f0, .int .i64 x.f1, .int .i64 x.f2, .int .i64 x.f3, .int .i64 x.f4, .int .i64 x.f5, .int .i64 x.f6, .slice A7 x.f7.length c7] := ⟨[.int .i64 x.f0], [.int .i64 x.f1, .int .i64 x.f2, .int .i64 x.f3, .int .i64 x.f4, .int .i64 x.f5, .int .i64 x.f6, .slice A7 x.f7.length c7], rfl, rfl, ⟨[.int .i64 x.f1], [.int .i64 x.f2, .int .i64 x.f3, .int .i64 x.f4, .int .i64 x.f5, .int .i64 x.f6, .slice A7 x.f7.length c7], rfl, rfl, ⟨[.int .i64 x.f2], [.int .i64 x.f3, .int .i64 x.f4, .int .i64 x.f5, .int .i64 x.f6, .slice A7 x.f7.length c7], rfl, rfl, ⟨[.int .i64 x.f3], [.int .i64 x.f4, .int .i64 x.f5, .int .i64 x.f6, .slice A7 x.f7.length c7], rfl, rfl, ⟨[.int .i64 x.f4], [.int .i64 x.f5, .int .i64 x.f6, .slice A7 x.f7.length c7], rfl, rfl, ⟨[.int .i64 x.f5], [.int .i64 x.f6, .slice A7 x.f7.length c7], rfl, rfl, ⟨[.int .i64 x.f6], [.slice A7 x.f7.length c7], rfl, rfl, ⟨A7, c7, rfl, l7, g7⟩⟩⟩⟩⟩⟩⟩⟩
theorem kM_mkM (w : World) (base : Nat) (ok : Nat → Prop) (x : Msg) {v7 : Value} (g7 : kE.R 68 w base ok v7 x.f7) : kM.M w base ok x [.int .i64 x.f0, .int .i64 x.f1, .int .i64 x.f2, .int .i64 x.f3, .int .i64 x.f4, .int .i64 x.f5, .int .i64 x.f6, v7] := ⟨[.int .i64 x.f0], [.int .i64 x.f1, .int .i64 x.f2, .int .i64 x.f3, .int .i64 x.f4, .int .i64 x.f5, .int .i64 x.f6, v7], rfl, rfl, ⟨[.int .i64 x.f1], [.int .i64 x.f2, .int .i64 x.f3, .int .i64 x.f4, .int .i64 x.f5, .int .i64 x.f6, v7], rfl, rfl, ⟨[.int .i64 x.f2], [.int .i64 x.f3, .int .i64 x.f4, .int .i64 x.f5, .int .i64 x.f6, v7], rfl, rfl, ⟨[.int .i64 x.f3], [.int .i64 x.f4, .int .i64 x.f5, .int .i64 x.f6, v7], rfl, rfl, ⟨[.int .i64 x.f4], [.int .i64 x.f5, .int .i64 x.f6, v7], rfl, rfl, ⟨[.int .i64 x.f5], [.int .i64 x.f6, v7], rfl, rfl, ⟨[.int .i64 x.f6], [v7], rfl, rfl, ⟨v7, rfl, g7⟩⟩⟩⟩⟩⟩⟩⟩
def rd_Msg (xs : List Msg) (i : Int) : Msg := xs.getD i.toNat zM
theorem at_Msg {w : World} {A : Option Addr} {n : Nat} {xs : List Msg} (h : Kd.C kM w A n xs) (i : Int) (h0 : 0 ≤ i) (h1 : i < n) : ∃ ad A7 c7, A = some ad ∧ w.cell? (ad.add (i.toNat * 8)) = some (.int .i64 (rd_Msg xs i).f0) ∧ w.cell? ⟨(ad.add (i.toNat * 8)).block, (ad.add (i.toNat * 8)).off + 1, none⟩ = some (.int .i64 (rd_Msg xs i).f1) ∧ w.cell? ⟨(ad.add (i.toNat * 8)).block, (ad.add (i.toNat * 8)).off + 2, none⟩ = some (.int .i64 (rd_Msg xs i).f2) ∧ w.cell? ⟨(ad.add (i.toNat * 8)).block, (ad.add (i.toNat * 8)).off + 3, none⟩ = some (.int .i64 (rd_Msg xs i).f3) ∧ w.cell? ⟨(ad.add (i.toNat * 8)).block, (ad.add (i.toNat * 8)).off + 4, none⟩ = some (.int .i64 (rd_Msg xs i).f4) ∧ w.cell? ⟨(ad.add (i.toNat * 8)).block, (ad.add (i.toNat * 8)).off + 5, none⟩ = some (.int .i64 (rd_Msg xs i).f5) ∧ w.cell? ⟨(ad.add (i.toNat * 8)).block, (ad.add (i.toNat * 8)).off + 6, none⟩ = some (.int .i64 (rd_Msg xs i).f6) ∧ w.cell? ⟨(ad.add (i.toNat * 8)).block, (ad.add (i.toNat * 8)).off + 7, none⟩ = some (.slice A7 (rd_Msg xs i).f7.length c7) ∧ (rd_Msg xs i).f7.length ≤ c7 ∧ kE.C w A7 (rd_Msg xs i).f7.length (rd_Msg xs i).f7 := by
  obtain ⟨ad, c, e, _, hK, hc0⟩ := Kd.C_get h zM i h0 h1
  have hc : ∀ j u, c[j]? = some u → w.cell? (ad.add (i.toNat * 8 + j)) = some u := hc0
  obtain ⟨A7, c7, rfl, l7, g7⟩ := kM_open hK
  exact ⟨ad, A7, c7, e, hc 0 _ rfl, by rw [← add_field _ _ 1 (by omega)]; exact hc 1 _ rfl, by rw [← add_field _ _ 2 (by omega)]; exact hc 2 _ rfl, by rw [← add_field _ _ 3 (by omega)]; exact hc 3 _ rfl, by rw [← add_field _ _ 4 (by omega)]; exact hc 4 _ rfl, by rw [← add_field _ _ 5 (by omega)]; exact hc 5 _ rfl, by rw [← add_field _ _ 6 (by omega)]; exact hc 6 _ rfl, by rw [← add_field _ _ 7 (by omega)]; exact hc 7 _ rfl, l7, g7⟩
/-! #### struct type 25 -/
def kR : Kd Rep := Kd.iso (Kd.pair (Kd.int .i64) (Kd.pair (Kd.int .i64) (Kd.pair (Kd.int .i64) (Kd.pair (Kd.int .i64) (Kd.pair (Kd.int .i64) (Kd.pair (Kd.slice 68 kE) (Kd.pair (Kd.int .i64) (Kd.pair (Kd.slice 3 (Kd.int .i64)) (Kd.pair (Kd.slice 3 (Kd.int .i64)) (Kd.pair (Kd.slice 3 (Kd.int .i64)) (Kd.pair (Kd.slice 68 kE) (Kd.pair (Kd.int .i64) (Kd.int .i64))))))))))))) (fun x : Rep => (x.f0, x.f1, x.f2, x.f3, x.f4, x.f5, x.f6, x.f7, x.f8, x.f9, x.f10, x.f11, x.f12))
theorem kR_open {w : World} {x : Rep} {cs : List Value} (h : kR.K w x cs) : ∃ A5 c5 A7 c7 A8 c8 A9 c9 A10 c10, cs = [.int .i64 x.f0, .int .i64 x.f1, .int .i64 x.f2, .int .i64 x.f3, .int .i64 x.f4, .slice A5 x.f5.length c5, .int .i64 x.f6, .slice A7 x.f7.length c7, .slice A8 x.f8.length c8, .slice A9 x.f9.length c9, .slice A10 x.f10.length c10, .int .i64 x.f11, .int .i64 x.f12] ∧ x.f5.length ≤ c5 ∧ kE.C w A5 x.f5.length x.f5 ∧ x.f7.length ≤ c7 ∧ (Kd.int .i64).C w A7 x.f7.length x.f7 ∧ x.f8.length ≤ c8 ∧ (Kd.int .i64).C w A8 x.f8.length x.f8 ∧ x.f9.length ≤ c9 ∧ (Kd.int .i64).C w A9 x.f9.length x.f9 ∧ x.f10.length ≤ c10 ∧ kE.C w A10 x.f10.length x.f10 := by
  obtain ⟨_, _, rfl, rfl, ⟨_, _, rfl, rfl, ⟨_, _, rfl, rfl, ⟨_, _, rfl, rfl, ⟨_, _, rfl, rfl, ⟨_, _, rfl, ⟨A5, c5, rfl, l5, g5⟩, ⟨_, _, rfl, rfl, ⟨_, _, rfl, ⟨A7, c7, rfl, l7, g7⟩, ⟨_, _, rfl, ⟨A8, c8, rfl, l8, g8⟩, ⟨_, _, rfl, ⟨A9, c9, rfl, l9, g9⟩, ⟨_, _, rfl, ⟨A10, c10, rfl, l10, g10⟩, ⟨_, _, rfl, rfl, rfl⟩⟩⟩⟩⟩⟩⟩⟩⟩⟩⟩⟩ := h
  exact ⟨A5, c5, A7, c7, A8, c8, A9, c9, A10, c10, rfl, l5, g5, l7, g7, l8, g8, l9, g9, l10, g10⟩
theorem kR_mk (w : World) (x : Rep) {A5 : Option Addr} {c5 : Nat} (l5 : x.f5.length ≤ c5) (g5 : kE.C w A5 x.f5.length x.f5) {A7 : Option Addr} {c7 : Nat} (l7 : x.f7.length ≤ c7) (g7 : (Kd.int .i64).C w A7 x.f7.length x.f7) {A8 : Option Addr} {c8 : Nat} (l8 : x.f8.length ≤ c8) (g8 : (Kd.int .i64).C w A8 x.f8.length x.f8) {A9 : Option Addr} {c9 : Nat} (l9 : x.f9.length ≤ c9) (g9 : (Kd.int .i64).C w A9 x.f9.length x.f9) {A10 : Option Addr} {c10 : Nat} (l10 : x.f10.length ≤ c10) (g10 : kE.C w A10 x.f10.length x.f10) : kR.K w x [.int .i64 x.f0, .int .i64 x.f1, .int .i64 x.f2, .int .i64 x.f3, .int .i64 x.f4, .slice A5 x.f5.length c5, .int .i64 x.f6, .slice A7 x.f7.length c7, .slice A8 x.f8.length c8, .slice A9 x.f9.length c9, .slice A10 x.f10.length c10, .int .i64 x.f11, .int .i64 x.f12] := ⟨[.int .i64 x.f0], [.int .i64 x.f1, .int .i64 x.f2, .int .i64 x.f3, .int .i64 x.f4, .slice A5 x.f5.length c5, .int .i64 x.f6, .slice A7 x.f7.length c7, .slice A8 x.f8.length c8, .slice A9 x.f9.length c9, .slice A10 x.f10.length c10, .int .i64 x.f11, .int .i64 x.f12], rfl, rfl, ⟨[.int .i64 x.f1], [.int .i64 x.f2, .int .i64 x.f3, .int .i64 x.f4, .slice A5 x.f5.length c5, .int .i64 x.f6, .slice A7 x.f7.length c7, .slice A8 x.f8.length c8, .slice A9 x.f9.length c9, .slice A10 x.f10.length c10, .int .i64 x.f11, .int .i64 x.f12], rfl, rfl, ⟨[.int .i64 x.f2], [.int .i64 x.f3, .int .i64 x.f4, .slice A5 x.f5.length c5, .int .i64 x.f6, .slice A7 x.f7.length c7, .slice A8 x.f8.length c8, .slice A9 x.f9.length c9, .slice A10 x.f10.length c10, .int .i64 x.f11, .int .i64 x.f12], rfl, rfl, ⟨[.int .i64 x.f3], [.int .i64 x.f4, .slice A5 x.f5.length c5, .int .i64 x.f6, .slice A7 x.f7.length c7, .slice A8 x.f8.length c8, .slice A9 x.f9.length c9, .slice A10 x.f10.length c10, .int .i64 x.f11, .int .i64 x.f12], rfl, rfl, ⟨[.int .i64 x.f4], [.slice A5 x.f5.length c5, .int .i64 x.f6, .slice A7 x.f7.length c7, .slice A8 x.f8.length c8, .slice A9 x.f9.length c9, .slice A10 x.f10.length c10, .int .i64 x.f11, .int .i64 x.f12], rfl, rfl, ⟨[.slice A5 x.f5.length c5], [.int .i64 x.f6, .slice A7 x.f7.length c7, .slice A8 x.f8.length c8, .slice A9 x.f9.length c9, .slice A10 x.f10.length c10, .int .i64 x.f11, .int .i64 x.f12], rfl, ⟨A5, c5, rfl, l5, g5⟩, ⟨[.int .i64 x.f6], [.slice A7 x.f7.length c7, .slice A8 x.f8.length c8, .slice A9 x.f9.length c9, .slice A10 x.f10.length c10, .int .i64 x.f11, .int .i64 x.f12], rfl, rfl, ⟨[.slice A7 x.f7.length c7], [.slice A8 x.f8.length c8, .slice A9 x.f9.length c9, .slice A10 x.f10.length c10, .int .i64 x.f11, .int .i64 x.f12], rfl, ⟨A7, c7, rfl, l7, g7⟩, ⟨[.slice A8 x.f8.length c8], [.slice A9 x.f9.length c9, .slice A10 x.f10.length c10, .int .i64 x.f11, .int .i64 x.f12], rfl, ⟨A8, c8, rfl, l8, g8⟩, ⟨[.slice A9 x.f9.length c9], [.slice A10 x.f10.length c10, .int .i64 x.f11, .int .i64 x.f12], rfl, ⟨A9, c9, rfl, l9, g9⟩, ⟨[.slice A10 x.f10.length c10], [.int .i64 x.f11, .int .i64 x.f12], rfl, ⟨A10, c10, rfl, l10, g10⟩, ⟨[.int .i64 x.f11], [.int .i64 x.f12], rfl, rfl, rfl⟩⟩⟩⟩⟩⟩⟩⟩⟩⟩⟩⟩
abbrev mA (m : Msg) (A : Option Addr) (c : Nat) : Array Value := #[.int .i64 m.f0, .int .i64 m.f1, .int .i64 m.f2, .int .i64 m.f3, .int .i64 m.f4, .int .i64 m.f5, .int .i64 m.f6, .slice A m.f7.length c]
abbrev rA (r : Rep) (A5 A7 A8 A9 A10 : Option Addr) (c5 c7 c8 c9 c10 : Nat) : Array Value := #[.int .i64 r.f0, .int .i64 r.f1, .int .i64 r.f2, .int .i64 r.f3, .int .i64 r.f4, .slice A5 r.f5.length c5, .int .i64 r.f6, .slice A7 r.f7.length c7, .slice A8 r.f8.length c8, .slice A9 r.f9.length c9, .slice A10 r.f10.length c10, .int .i64 r.f11, .int .i64 r.f12]
abbrev sL (r : Rep) (v5 v7 v8 v9 v10 : Value) (F : List Mx.Res) : List Mx.Res := Mx.row kE 68 v5 r.f5 :: Mx.row (Kd.int .i64) 3 v7 r.f7 :: Mx.row (Kd.int .i64) 3 v8 r.f8 :: Mx.row (Kd.int .i64) 3 v9 r.f9 :: Mx.row kE 68 v10 r.f10 :: F
end Go.Proofs.YtggbjokhniigkaaGreat.Kx
namespace Go.Proofs.YtggbjokhniigkaaGreat.Or
open Go.ChangeShapes Go.WideShapes Go.ChangeAt Go.RowKit Go.Deep YtggbjokhniigkaaGreatW.PrintWords Ty Kx Mx
def Opens (P : Program) (t : TypeId) {α : Type} (d : Kd α) : Prop := P.cellsOf t = d.sz ∧ ∀ {H : Type} (enc : TypeId × Value → H) (w : World) (base : Nat) (spare : Nat → Bool) (held : Bool) (fuel : Nat) (cs : List Value) (x : DataW H × List MemPlace), DataW.trod enc P w base spare held fuel t cs = some x → ∃ a : α, d.K w a cs
theorem opens_slice {P : Program} {t e : TypeId} {α : Type} {d : Kd α} (ht : P.underlying t = some (.slice e)) (hc : P.cellsOf t = 1) (hd : Opens P e d) : Opens P t (Kd.slice e d) := by
  refine ⟨hc, fun enc w base spare held fuel cs x h => ?_⟩
  rcases open_slice ht h with ⟨rfl, _⟩ | ⟨a, len, cap, m, n, D, Pl, rfl, hb, hl, hm, hmm, rfl, hx⟩
  · exact ⟨[], none, 0, rfl, Nat.le_refl _, Kd.C_nil d w⟩
  · have hlm : len ≤ m := by rw [hmm]; split <;> omega
    have hex : ∀ k, k ≤ len → ∃ l : List α, l.length = k ∧ ∀ j p, l[j]? = some p → ∃ cs', w.cells? base (a.add (j * P.cellsOf e)) (P.cellsOf e) = some cs' ∧ d.K w p cs' := by
      intro k
      induction k with
      | zero => exact fun _ => ⟨[], rfl, fun j p h => by simp at h⟩
      | succ k ih =>
        intro hk
        obtain ⟨l, h1, h2⟩ := ih (by omega)
        obtain ⟨cs', h3, h4⟩ := hx k (by omega)
        obtain ⟨y, hy⟩ := hd.2 enc w base spare held n cs' _ h4
        refine ⟨l ++ [y], by simp [h1], fun j p h => ?_⟩
        rw [List.getElem?_append] at h
        split at h
        · exact h2 j p h
        · have : j = k := by
            have := (List.getElem?_eq_some_iff.1 h).1
            simp at this
            omega
          subst this
          rw [h1, Nat.sub_self] at h
          obtain rfl : y = p := by simpa using h
          exact ⟨cs', h3, hy⟩
    obtain ⟨l, h1, h2⟩ := hex len (Nat.le_refl _)
    subst h1
    refine ⟨l, some a, cap, rfl, hl, rfl, ?_, fun _ => ⟨a, rfl, fun j p hj => ?_⟩⟩
    · have : maxLen ≤ 9223372036854775807 := by decide
      omega
    · obtain ⟨cs', h3, h4⟩ := h2 j p hj
      obtain ⟨_, h5, h6⟩ := World.cells?_some h3
      rw [hd.1] at h5 h6
      refine ⟨cs', h5, h4, fun i u hu => ?_⟩
      have hi : i < d.sz := by rw [← h5]; exact (List.getElem?_eq_some_iff.1 hu).1
      have := h6 i hi
      rw [Go.Deep.add_add] at this
      rw [this, hu]
theorem opens_int : Opens Tryz.prog 3 (Kd.int .i64) := ⟨by kernel_rfl, fun enc w base spare held fuel cs x h => by
  obtain ⟨n, rfl, _⟩ := DataW.trod_int Tryz.underlying3 h
  exact ⟨n, rfl⟩⟩
theorem opens_entry : Opens Tryz.prog 68 kE := by
  refine ⟨by kernel_rfl, fun enc w base spare held fuel cs x h => ?_⟩
  obtain ⟨ys, n, rfl, rfl, hl, hyl, hf⟩ := DataW.trod_struct Tryz.underlying68 h
  rw [show Tryz.prog.cellsOf 68 = 2 from by kernel_rfl] at hl
  match cs, hl with
  | [c0, c1], _ =>
    have ex : ∀ i, i < 2 → ∃ y, ys[i]? = some y := fun i hi => ⟨_, List.getElem?_eq_getElem (by rw [hyl]; exact hi)⟩
    have h0 := hf 0 _ rfl
    obtain ⟨y0, e0⟩ := ex 0 (by decide)
    rw [e0] at h0
    obtain ⟨n0, g0, _⟩ := DataW.trod_int Tryz.underlying3 h0
    replace g0 : List.take (Tryz.prog.cellsOf 3) (List.drop 0 [c0, c1]) = [.int .i64 n0] := g0
    rw [show Tryz.prog.cellsOf 3 = 1 from by kernel_rfl] at g0
    injection g0 with g0 _
    have h1 := hf 1 _ rfl
    obtain ⟨y1, e1⟩ := ex 1 (by decide)
    rw [e1] at h1
    obtain ⟨n1, g1, _⟩ := DataW.trod_string Tryz.underlying9 h1
    replace g1 : List.take (Tryz.prog.cellsOf 9) (List.drop 1 [c0, c1]) = [.string n1] := g1
    rw [show Tryz.prog.cellsOf 9 = 1 from by kernel_rfl] at g1
    injection g1 with g1 _
    subst g0; subst g1
    exact ⟨⟨n0, n1⟩, kE_mk w ⟨n0, n1⟩⟩
theorem opens_msg : Opens Tryz.prog 27 kM := by
  refine ⟨by kernel_rfl, fun enc w base spare held fuel cs x h => ?_⟩
  obtain ⟨ys, n, rfl, rfl, hl, hyl, hf⟩ := DataW.trod_struct Tryz.underlying27 h
  rw [show Tryz.prog.cellsOf 27 = 8 from by kernel_rfl] at hl
  match cs, hl with
  | [c0, c1, c2, c3, c4, c5, c6, c7], _ =>
    have ex : ∀ i, i < 8 → ∃ y, ys[i]? = some y := fun i hi => ⟨_, List.getElem?_eq_getElem (by rw [hyl]; exact hi)⟩
    have h0 := hf 0 _ rfl
    obtain ⟨y0, e0⟩ := ex 0 (by decide)
    rw [e0] at h0
    obtain ⟨n0, g0, _⟩ := DataW.trod_int Tryz.underlying3 h0
    replace g0 : List.take (Tryz.prog.cellsOf 3) (List.drop 0 [c0, c1, c2, c3, c4, c5, c6, c7]) = [.int .i64 n0] := g0
    rw [show Tryz.prog.cellsOf 3 = 1 from by kernel_rfl] at g0
    injection g0 with g0 _
    have h1 := hf 1 _ rfl
    obtain ⟨y1, e1⟩ := ex 1 (by decide)
    rw [e1] at h1
    obtain ⟨n1, g1, _⟩ := DataW.trod_int Tryz.underlying3 h1
    replace g1 : List.take (Tryz.prog.cellsOf 3) (List.drop 1 [c0, c1, c2, c3, c4, c5, c6, c7]) = [.int .i64 n1] := g1
    rw [show Tryz.prog.cellsOf 3 = 1 from by kernel_rfl] at g1
    injection g1 with g1 _
    have h2 := hf 2 _ rfl
    obtain ⟨y2, e2⟩ := ex 2 (by decide)
    rw [e2] at h2
    obtain ⟨n2, g2, _⟩ := DataW.trod_int Tryz.underlying3 h2
    replace g2 : List.take (Tryz.prog.cellsOf 3) (List.drop 2 [c0, c1, c2, c3, c4, c5, c6, c7]) = [.int .i64 n2] := g2
    rw [show Tryz.prog.cellsOf 3 = 1 from by kernel_rfl] at g2
    injection g2 with g2 _
    have h3 := hf 3 _ rfl
    obtain ⟨y3, e3⟩ := ex 3 (by decide)
    rw [e3] at h3
    obtain ⟨n3, g3, _⟩ := DataW.trod_int Tryz.underlying3 h3
    replace g3 : List.take (Tryz.prog.cellsOf 3) (List.drop 3 [c0, c1, c2, c3, c4, c5, c6, c7]) = [.int .i64 n3] := g3
    rw [show Tryz.prog.cellsOf 3 = 1 from by kernel_rfl] at g3
    injection g3 with g3 _
    have h4 := hf 4 _ rfl
    obtain ⟨y4, e4⟩ := ex 4 (by decide)
    rw [e4] at h4
    obtain ⟨n4, g4, _⟩ := DataW.trod_int Tryz.underlying3 h4
    replace g4 : List.take (Tryz.prog.cellsOf 3) (List.drop 4 [c0, c1, c2, c3, c4, c5, c6, c7]) = [.int .i64 n4] := g4
    rw [show Tryz.prog.cellsOf 3 = 1 from by kernel_rfl] at g4
    injection g4 with g4 _
    have h5 := hf 5 _ rfl
    obtain ⟨y5, e5⟩ := ex 5 (by decide)
    rw [e5] at h5
    obtain ⟨n5, g5, _⟩ := DataW.trod_int Tryz.underlying3 h5
    replace g5 : List.take (Tryz.prog.cellsOf 3) (List.drop 5 [c0, c1, c2, c3, c4, c5, c6, c7]) = [.int .i64 n5] := g5
    rw [show Tryz.prog.cellsOf 3 = 1 from by kernel_rfl] at g5
    injection g5 with g5 _
    have h6 := hf 6 _ rfl
    obtain ⟨y6, e6⟩ := ex 6 (by decide)
    rw [e6] at h6
    obtain ⟨n6, g6, _⟩ := DataW.trod_int Tryz.underlying3 h6
    replace g6 : List.take (Tryz.prog.cellsOf 3) (List.drop 6 [c0, c1, c2, c3, c4, c5, c6, c7]) = [.int .i64 n6] := g6
    rw [show Tryz.prog.cellsOf 3 = 1 from by kernel_rfl] at g6
    injection g6 with g6 _
    have h7 := hf 7 _ rfl
    obtain ⟨y7, e7⟩ := ex 7 (by decide)
    rw [e7] at h7
    obtain ⟨n7, A7, d7, g7, hl7, hC7⟩ := (opens_slice Tryz.underlying22 (by kernel_rfl) opens_entry).2 enc w base spare held n _ _ h7
    replace g7 : List.take (Tryz.prog.cellsOf 22) (List.drop 7 [c0, c1, c2, c3, c4, c5, c6, c7]) = [.slice A7 n7.length d7] := g7
    rw [show Tryz.prog.cellsOf 22 = 1 from by kernel_rfl] at g7
    injection g7 with g7 _
    subst g0; subst g1; subst g2; subst g3; subst g4; subst g5; subst g6; subst g7
    exact ⟨⟨n0, n1, n2, n3, n4, n5, n6, n7⟩, kM_mk w ⟨n0, n1, n2, n3, n4, n5, n6, n7⟩ hl7 hC7⟩
theorem opens_rep : Opens Tryz.prog 25 kR := by
  refine ⟨by kernel_rfl, fun enc w base spare held fuel cs x h => ?_⟩
  obtain ⟨ys, n, rfl, rfl, hl, hyl, hf⟩ := DataW.trod_struct Tryz.underlying25 h
  rw [show Tryz.prog.cellsOf 25 = 13 from by kernel_rfl] at hl
  match cs, hl with
  | [c0, c1, c2, c3, c4, c5, c6, c7, c8, c9, c10, c11, c12], _ =>
    have ex : ∀ i, i < 13 → ∃ y, ys[i]? = some y := fun i hi => ⟨_, List.getElem?_eq_getElem (by rw [hyl]; exact hi)⟩
    have h0 := hf 0 _ rfl
    obtain ⟨y0, e0⟩ := ex 0 (by decide)
    rw [e0] at h0
    obtain ⟨n0, g0, _⟩ := DataW.trod_int Tryz.underlying3 h0
    replace g0 : List.take (Tryz.prog.cellsOf 3) (List.drop 0 [c0, c1, c2, c3, c4, c5, c6, c7, c8, c9, c10, c11, c12]) = [.int .i64 n0] := g0
    rw [show Tryz.prog.cellsOf 3 = 1 from by kernel_rfl] at g0
    injection g0 with g0 _
    have h1 := hf 1 _ rfl
    obtain ⟨y1, e1⟩ := ex 1 (by decide)
    rw [e1] at h1
    obtain ⟨n1, g1, _⟩ := DataW.trod_int Tryz.underlying3 h1
    replace g1 : List.take (Tryz.prog.cellsOf 3) (List.drop 1 [c0, c1, c2, c3, c4, c5, c6, c7, c8, c9, c10, c11, c12]) = [.int .i64 n1] := g1
    rw [show Tryz.prog.cellsOf 3 = 1 from by kernel_rfl] at g1
    injection g1 with g1 _
    have h2 := hf 2 _ rfl
    obtain ⟨y2, e2⟩ := ex 2 (by decide)
    rw [e2] at h2
    obtain ⟨n2, g2, _⟩ := DataW.trod_int Tryz.underlying3 h2
    replace g2 : List.take (Tryz.prog.cellsOf 3) (List.drop 2 [c0, c1, c2, c3, c4, c5, c6, c7, c8, c9, c10, c11, c12]) = [.int .i64 n2] := g2
    rw [show Tryz.prog.cellsOf 3 = 1 from by kernel_rfl] at g2
    injection g2 with g2 _
    have h3 := hf 3 _ rfl
    obtain ⟨y3, e3⟩ := ex 3 (by decide)
    rw [e3] at h3
    obtain ⟨n3, g3, _⟩ := DataW.trod_int Tryz.underlying3 h3
    replace g3 : List.take (Tryz.prog.cellsOf 3) (List.drop 3 [c0, c1, c2, c3, c4, c5, c6, c7, c8, c9, c10, c11, c12]) = [.int .i64 n3] := g3
    rw [show Tryz.prog.cellsOf 3 = 1 from by kernel_rfl] at g3
    injection g3 with g3 _
    have h4 := hf 4 _ rfl
    obtain ⟨y4, e4⟩ := ex 4 (by decide)
    rw [e4] at h4
    obtain ⟨n4, g4, _⟩ := DataW.trod_int Tryz.underlying3 h4
    replace g4 : List.take (Tryz.prog.cellsOf 3) (List.drop 4 [c0, c1, c2, c3, c4, c5, c6, c7, c8, c9, c10, c11, c12]) = [.int .i64 n4] := g4
    rw [show Tryz.prog.cellsOf 3 = 1 from by kernel_rfl] at g4
    injection g4 with g4 _
    have h5 := hf 5 _ rfl
    obtain ⟨y5, e5⟩ := ex 5 (by decide)
    rw [e5] at h5
    obtain ⟨n5, A5, d5, g5, hl5, hC5⟩ := (opens_slice Tryz.underlying22 (by kernel_rfl) opens_entry).2 enc w base spare held n _ _ h5
    replace g5 : List.take (Tryz.prog.cellsOf 22) (List.drop 5 [c0, c1, c2, c3, c4, c5, c6, c7, c8, c9, c10, c11, c12]) = [.slice A5 n5.length d5] := g5
    rw [show Tryz.prog.cellsOf 22 = 1 from by kernel_rfl] at g5
    injection g5 with g5 _
    have h6 := hf 6 _ rfl
    obtain ⟨y6, e6⟩ := ex 6 (by decide)
    rw [e6] at h6
    obtain ⟨n6, g6, _⟩ := DataW.trod_int Tryz.underlying3 h6
    replace g6 : List.take (Tryz.prog.cellsOf 3) (List.drop 6 [c0, c1, c2, c3, c4, c5, c6, c7, c8, c9, c10, c11, c12]) = [.int .i64 n6] := g6
    rw [show Tryz.prog.cellsOf 3 = 1 from by kernel_rfl] at g6
    injection g6 with g6 _
    have h7 := hf 7 _ rfl
    obtain ⟨y7, e7⟩ := ex 7 (by decide)
    rw [e7] at h7
    obtain ⟨n7, A7, d7, g7, hl7, hC7⟩ := (opens_slice Tryz.underlying23 (by kernel_rfl) opens_int).2 enc w base spare held n _ _ h7
    replace g7 : List.take (Tryz.prog.cellsOf 23) (List.drop 7 [c0, c1, c2, c3, c4, c5, c6, c7, c8, c9, c10, c11, c12]) = [.slice A7 n7.length d7] := g7
    rw [show Tryz.prog.cellsOf 23 = 1 from by kernel_rfl] at g7
    injection g7 with g7 _
    have h8 := hf 8 _ rfl
    obtain ⟨y8, e8⟩ := ex 8 (by decide)
    rw [e8] at h8
    obtain ⟨n8, A8, d8, g8, hl8, hC8⟩ := (opens_slice Tryz.underlying23 (by kernel_rfl) opens_int).2 enc w base spare held n _ _ h8
    replace g8 : List.take (Tryz.prog.cellsOf 23) (List.drop 8 [c0, c1, c2, c3, c4, c5, c6, c7, c8, c9, c10, c11, c12]) = [.slice A8 n8.length d8] := g8
    rw [show Tryz.prog.cellsOf 23 = 1 from by kernel_rfl] at g8
    injection g8 with g8 _
    have h9 := hf 9 _ rfl
    obtain ⟨y9, e9⟩ := ex 9 (by decide)
    rw [e9] at h9
    obtain ⟨n9, A9, d9, g9, hl9, hC9⟩ := (opens_slice Tryz.underlying23 (by kernel_rfl) opens_int).2 enc w base spare held n _ _ h9
    replace g9 : List.take (Tryz.prog.cellsOf 23) (List.drop 9 [c0, c1, c2, c3, c4, c5, c6, c7, c8, c9, c10, c11, c12]) = [.slice A9 n9.length d9] := g9
    rw [show Tryz.prog.cellsOf 23 = 1 from by kernel_rfl] at g9
    injection g9 with g9 _
    have h10 := hf 10 _ rfl
    obtain ⟨y10, e10⟩ := ex 10 (by decide)
    rw [e10] at h10
    obtain ⟨n10, A10, d10, g10, hl10, hC10⟩ := (opens_slice Tryz.underlying22 (by kernel_rfl) opens_entry).2 enc w base spare held n _ _ h10
    replace g10 : List.take (Tryz.prog.cellsOf 22) (List.drop 10 [c0, c1, c2, c3, c4, c5, c6, c7, c8, c9, c10, c11, c12]) = [.slice A10 n10.length d10] := g10
    rw [show Tryz.prog.cellsOf 22 = 1 from by kernel_rfl] at g10
    injection g10 with g10 _
    have h11 := hf 11 _ rfl
    obtain ⟨y11, e11⟩ := ex 11 (by decide)
    rw [e11] at h11
    obtain ⟨n11, g11, _⟩ := DataW.trod_int Tryz.underlying3 h11
    replace g11 : List.take (Tryz.prog.cellsOf 3) (List.drop 11 [c0, c1, c2, c3, c4, c5, c6, c7, c8, c9, c10, c11, c12]) = [.int .i64 n11] := g11
    rw [show Tryz.prog.cellsOf 3 = 1 from by kernel_rfl] at g11
    injection g11 with g11 _
    have h12 := hf 12 _ rfl
    obtain ⟨y12, e12⟩ := ex 12 (by decide)
    rw [e12] at h12
    obtain ⟨n12, g12, _⟩ := DataW.trod_int Tryz.underlying3 h12
    replace g12 : List.take (Tryz.prog.cellsOf 3) (List.drop 12 [c0, c1, c2, c3, c4, c5, c6, c7, c8, c9, c10, c11, c12]) = [.int .i64 n12] := g12
    rw [show Tryz.prog.cellsOf 3 = 1 from by kernel_rfl] at g12
    injection g12 with g12 _
    subst g0; subst g1; subst g2; subst g3; subst g4; subst g5; subst g6; subst g7; subst g8; subst g9; subst g10; subst g11; subst g12
    exact ⟨⟨n0, n1, n2, n3, n4, n5, n6, n7, n8, n9, n10, n11, n12⟩, kR_mk w ⟨n0, n1, n2, n3, n4, n5, n6, n7, n8, n9, n10, n11, n12⟩ hl5 hC5 hl7 hC7 hl8 hC8 hl9 hC9 hl10 hC10⟩
theorem open_rep {base : Nat} {H : Type} {enc : TypeId × Value → H} {W : World} {v : Value} {d : DataW H} {p : List MemPlace} (hv : Value.okWide Tryz.prog W .any base 25 v) (h : DataW.Trod enc Tryz.prog W 0 (fun _ => true) true 25 v d p) :
    ∃ (r : Rep) (A5 : Option Addr) (c5 : Nat) (A7 : Option Addr) (c7 : Nat) (A8 : Option Addr) (c8 : Nat) (A9 : Option Addr) (c9 : Nat) (A10 : Option Addr) (c10 : Nat), v = .agg (Kx.rA r A5 A7 A8 A9 A10 c5 c7 c8 c9 c10) ∧ r.f5.length ≤ c5 ∧ kE.C W A5 r.f5.length r.f5 ∧ r.f7.length ≤ c7 ∧ (Kd.int .i64).C W A7 r.f7.length r.f7 ∧ r.f8.length ≤ c8 ∧ (Kd.int .i64).C W A8 r.f8.length r.f8 ∧ r.f9.length ≤ c9 ∧ (Kd.int .i64).C W A9 r.f9.length r.f9 ∧ r.f10.length ≤ c10 ∧ kE.C W A10 r.f10.length r.f10 := by
  obtain ⟨cs, rfl, _⟩ := okWide_struct Tryz.underlying25 hv
  obtain ⟨fuel, hf⟩ := h
  obtain ⟨r, hr⟩ := opens_rep.2 enc W 0 _ true fuel _ _ hf
  obtain ⟨A5, c5, A7, c7, A8, c8, A9, c9, A10, c10, he, l5, g5, l7, g7, l8, g8, l9, g9, l10, g10⟩ := kR_open hr
  refine ⟨r, A5, c5, A7, c7, A8, c8, A9, c9, A10, c10, ?_, l5, g5, l7, g7, l8, g8, l9, g9, l10, g10⟩
  have h2 : cs.toList = _ := he
  exact congrArg Value.agg ((Array.toArray_toList (xs := cs)).symm.trans (congrArg List.toArray h2))
theorem open_msg {base : Nat} {H : Type} {enc : TypeId × Value → H} {W : World} {v : Value} {d : DataW H} {p : List MemPlace} (hv : Value.okWide Tryz.prog W .any base 27 v) (h : DataW.Trod enc Tryz.prog W 0 (fun _ => true) true 27 v d p) :
    ∃ (m : Msg) (A : Option Addr) (c : Nat), v = .agg (Kx.mA m A c) ∧ m.f7.length ≤ c ∧ kE.C W A m.f7.length m.f7 := by
  obtain ⟨cs, rfl, _⟩ := okWide_struct Tryz.underlying27 hv
  obtain ⟨fuel, hf⟩ := h
  obtain ⟨m, hr⟩ := opens_msg.2 enc W 0 _ true fuel _ _ hf
  obtain ⟨A, c, he, l, g⟩ := kM_open hr
  refine ⟨m, A, c, ?_, l, g⟩
  have h2 : cs.toList = _ := he
  exact congrArg Value.agg ((Array.toArray_toList (xs := cs)).symm.trans (congrArg List.toArray h2))
end Go.Proofs.YtggbjokhniigkaaGreat.Or
namespace Go.Proofs.YtggbjokhniigkaaGreat.Wa
open Ty Go.RowKit YtggbjokhniigkaaGreatW.PrintWords YtggbjokhniigkaaGreatW.PrintLast YtggbjokhniigkaaGreatW.PrintMore Mx Kx
/-- The worker's cells. -/
def wc (i n vw nr hw : Int) (vl : Value) (cm : Int) (va vv vo vb : Value) (bv bd : Int) (vout : Value) : Array Value := #[.int .i64 i, .int .i64 n, .int .i64 vw, .int .i64 nr, .int .i64 hw, vl, .int .i64 cm, va, vv, vo, vb, .int .i64 bv, .int .i64 bd, vout]
/-! ### entries -/
theorem entries_calls (A : Option Addr) (c : Nat) (l : List Entry) (w : World) (hl : Kd.C kE w A l.length l) (hn : l.length ≤ 1000000000) :
    Calls Tryz.prog 99 #[.slice A l.length c] w fun e w' => ∃ v : Value, e = .returned v ∧ Mem w w' [row kE 68 v l] := by
  have HL := Aside0.mk hl
  have HN := Aside0.mk hn
  have M0 := Aside0.mk (Mem.nil w)
  clear hl hn
  go_enter Tryz.func99, Tryz.ntmps99
  go_wp2_with (((with_reducible refine gate_builtin (b := .append) (xs := #[.tmp 3, .tmp 4]) rfl ?_); at_builtin; refine Mem.app kE ((M0.out.alloc #[] 68).lit 0 kE [] rfl (Reps.none _ _) (by decide)) 0 _ [] l rfl (.tmp 3) (.tmp 4) 22 68 _ _ rfl Tryz.underlying22 infoEntry rfl (by decide) (by omega) A _ c rfl rfl rfl (Kd.C_alloc HL.out _) (fun x cs h => h) (by have := HN.out; simp; omega) ?_; intro v1 w1 hM1; have M1 := Aside0.mk hM1; clear hM1))
  go_ret
  exact ⟨_, rfl, M1.out⟩
/-! ### send -/
theorem send_calls (w0 w : World) (R : Res) (F : List Res) (g : Nat) (i n vw nr hw : Int) (vl : Value) (cm : Int) (va vv vo vb : Value) (bv bd : Int) (vout : Value) (out : List Msg) (to_ m0 m1 m2 m3 m4 m5 m6 : Int) (A : Option Addr) (c : Nat) (l : List Entry)
    (hM : Mem w0 w (R :: blk g 95 (wc i n vw nr hw vl cm va vv vo vb bv bd vout) :: row kM 27 vout out :: F)) (hl : Rd w0 R kE A l) (hn : l.length ≤ 1000000000) (hc : l.length ≤ c) (ho : out.length ≤ 1000000000) :
    Calls Tryz.prog 126 #[.pointer (some ⟨g, 0, none⟩), .int .i64 to_, .agg #[.int .i64 m0, .int .i64 m1, .int .i64 m2, .int .i64 m3, .int .i64 m4, .int .i64 m5, .int .i64 m6, .slice A l.length c]] w fun e w' =>
      ∃ vout' : Value, e = .returned (.tuple #[]) ∧ Mem w0 w' (R :: blk g 95 (wc i n vw nr hw vl cm va vv vo vb bv bd vout') :: row kM 27 vout' (out ++ [⟨m0, i, to_, vw, m4, m5, m6, l⟩]) :: F) := by
  have hb := hM.blk_at 1 rfl
  have h0 : w.cell? ⟨g, 0, none⟩ = some (.int .i64 i) := blk_cell hb 0
  have h2 : w.cell? ⟨g, 2, none⟩ = some (.int .i64 vw) := blk_cell hb 2
  have hg : g < w.heap.size := blk_lt hb
  have M0 := Aside0.mk hM
  have HL := Aside0.mk hl
  have HN := Aside0.mk hn
  have HO := Aside0.mk ho
  clear hb hl hn hM hc ho
  go_enter Tryz.func126, Tryz.ntmps126
  go_wp2
  go_region
  have M1 := Aside0.mk ((M0.out.alloc #[.int .i64 m0, .int .i64 i, .int .i64 to_, .int .i64 vw, .int .i64 m4, .int .i64 m5, .int .i64 m6, .slice A l.length c] 27).drew)
  go_wp2_with fail
  refine (entries_calls A c l _ (HL.out _ _ 1 M1.out rfl) HN.out).mono ?_
  rintro e w1 ⟨v, rfl, hM⟩
  have M2 := Aside0.mk (M1.out.trans hM)
  clear hM
  obtain ⟨A2, c2, rfl, hc2, _⟩ := M2.out.row_at 0 rfl
  have cB := blk_cell (M2.out.blk_at 1 rfl)
  have fB := blk_frozen (M2.out.blk_at 1 rfl)
  have cG := blk_cell (M2.out.blk_at 3 rfl)
  have fG := blk_frozen (M2.out.blk_at 3 rfl)
  have hg1 := blk_lt (M2.out.blk_at 3 rfl)
  have hw1 := blk_lt (M2.out.blk_at 1 rfl)
  have hgn : ¬ (g = w.heap.size) := by omega
  have hgn' : ¬ (w.heap.size = g) := by omega
  unfold wc at cG
  have HC2 := Aside0.mk hc2; clear hc2
  go_wp2_with fail
  have M3 := Aside0.mk (((M2.out.set 1 rfl 7 (.slice A2 l.length c2)).imp (i := 0) rfl (el kM ⟨m0, i, to_, vw, m4, m5, m6, l⟩ [.int .i64 m0, .int .i64 i, .int .i64 to_, .int .i64 vw, .int .i64 m4, .int .i64 m5, .int .i64 m6, .slice A2 l.length c2]) (fun f hf => kM_mkM _ _ _ ⟨m0, i, to_, vw, m4, m5, m6, l⟩ hf)).drew)
  go_region_law (refine Mem.app1_step kM (M3.out.alloc #[.int .i64 m0, .int .i64 i, .int .i64 to_, .int .i64 vw, .int .i64 m4, .int .i64 m5, .int .i64 m6, .slice A2 l.length c2] 27) 5 1 0 vout out _ _ _ 1 (by decide) (by rfl) (.tmp 28) (.tmp 30) 60 27 _ _ rfl Tryz.underlying60 infoMsg rfl (by decide) (by omega) (by simp [Act.eval, Act.put]) (by simp [Act.eval, Act.put]) rfl rfl rfl (by have := HO.out; omega) ?_; intro v1 w2 hM; have M4 := Aside0.mk hM; clear hM; obtain ⟨A3, c3, he, hc3, _⟩ := M4.out.row_at 5 rfl; rw [List.length_append, List.length_singleton] at he; subst he; have cG2 := blk_cell (M4.out.blk_at 4 rfl); have fG2 := blk_frozen (M4.out.blk_at 4 rfl); unfold wc at cG2; clear hc3)
  all_goals
    go_end0
    refine ⟨_, rfl, Mem.sel (ps := [_, _, _, _, _, _]) (F := F) [3, 4, 5] 6 (M4.out.set 4 rfl 13 (.slice A3 (out.length + 1) c3)) rfl rfl⟩
end Go.Proofs.YtggbjokhniigkaaGreat.Wa
namespace Go.Proofs.YtggbjokhniigkaaGreat.Wb
open Ty Go.RowKit YtggbjokhniigkaaGreatW.PrintWords YtggbjokhniigkaaGreatW.PrintLast YtggbjokhniigkaaGreatW.PrintMore Mx Kx Wa
theorem Drawn0.same (w : World) : Drawn0 w w := Drawn0.refl w
/-! ### size, below -/
theorem size_calls (n : Int) (w : World) : Calls Tryz.prog 81 #[.int .i64 n] w fun e w' => e = .returned (.bool (size n)) ∧ w = w' := by
  unfold size
  by_cases h1 : n = 1
  · subst h1
    go_enter Tryz.func81, Tryz.ntmps81
    go_wp2
    go_ret
    exact ⟨rfl, rfl⟩
  by_cases h3 : n = 3
  · subst h3
    go_enter Tryz.func81, Tryz.ntmps81
    go_wp2
    go_ret
    exact ⟨rfl, rfl⟩
  by_cases h5 : n = 5
  · subst h5
    go_enter Tryz.func81, Tryz.ntmps81
    go_wp2
    go_ret
    exact ⟨rfl, rfl⟩
  have e1 : (n == 1) = false := by simpa using h1
  have e3 : (n == 3) = false := by simpa using h3
  have e5 : (n == 5) = false := by simpa using h5
  have e : (decide (n = 1) || decide (n = 3) || decide (n = 5)) = false := by simp [h1, h3, h5]
  rw [e]
  clear e h1 h3 h5
  go_enter Tryz.func81, Tryz.ntmps81
  go_wp2
  go_ret
  exact ⟨rfl, rfl⟩
theorem below_calls (n : Int) (w : World) : Calls Tryz.prog 96 #[.int .i64 n] w fun e w' => e = .returned (.bool (below n)) ∧ w = w' := by
  unfold below maxTime
  by_cases h1 : 0 ≤ n
  · by_cases h2 : n < 1099511627776
    · have e : (decide (0 ≤ n) && decide (n < 1099511627776)) = true := by simp [h1, h2]
      rw [e]
      go_enter Tryz.func96, Tryz.ntmps96
      go_wp2
      go_ret
      exact ⟨rfl, rfl⟩
    · have e : (decide (0 ≤ n) && decide (n < 1099511627776)) = false := by simp [h2]
      rw [e]
      go_enter Tryz.func96, Tryz.ntmps96
      go_wp2
      go_ret
      exact ⟨rfl, rfl⟩
  · have e : (decide (0 ≤ n) && decide (n < 1099511627776)) = false := by simp [h1]
    rw [e]
    go_enter Tryz.func96, Tryz.ntmps96
    go_wp2
    go_ret
    exact ⟨rfl, rfl⟩
/-! ### log -/
theorem rises_drop {l : List Entry} {k : Nat} (h : k < l.length) (last : Int) : rises last (l.drop k) = (decide (last < (rd_Entry l k).f0) && decide ((rd_Entry l k).f0 < maxTime) && decide ((rd_Entry l k).f1.size ≤ 20000) && rises (rd_Entry l k).f0 (l.drop (k + 1))) := by
  rw [List.drop_eq_getElem_cons h]
  have : rd_Entry l k = l[k] := by unfold rd_Entry; simp [List.getD, h]
  rw [this]
  rfl
theorem log_calls (A : Option Addr) (c : Nat) (l : List Entry) (w : World) (hl : Kd.C kE w A l.length l) (hn : l.length ≤ 1000000000) :
    Calls Tryz.prog 100 #[.slice A l.length c] w fun e w' => e = .returned (.bool (log l)) ∧ Mem w w' [] := by
  have HL := Aside0.mk hl
  have M0 := Aside0.mk (Mem.nil w)
  clear hl
  unfold log
  go_enter Tryz.func100, Tryz.ntmps100
  go_wp2
  go_loopg [3, 8] (l.length + 1) (fun kq v3 v8 w' => ∃ (k : Nat) (last : Int), v3 = .int .i64 last ∧ v8 = .int .i64 k ∧ Aside0 (k ≤ l.length ∧ kq = l.length + 1 - k ∧ rises last (l.drop k) = rises 0 l) ∧ Aside0 (Mem w w' []))
  case atStart => exact ⟨0, 0, rfl, rfl, ⟨Nat.zero_le _, rfl, rfl⟩, M0⟩
  case round =>
    obtain ⟨k, last, rfl, rfl, HK, M1⟩ := hrel
    by_cases hlt : k < l.length
    · obtain ⟨ad, e, hx0, hx1⟩ := at_Entry HL.out (k : Int) (by omega) (by omega)
      cases e
      replace hx0 := (M1.out.below.cell (World.block_lt_of_cell? w _ hx0)).trans hx0
      replace hx1 := (M1.out.below.cell (World.block_lt_of_cell? w _ hx1)).trans hx1
      have HR := Aside0.mk (rises_drop hlt last)
      simp only [Int.toNat_natCast] at hx0 hx1
      generalize hent : rd_Entry l (k : Int) = en at *
      clear hent
      by_cases c1 : last < en.f0
      · by_cases c2 : en.f0 < 1099511627776
        · by_cases c3 : en.f1.size ≤ 20000
          · go_wp2
            go_roundg (l.length - k)
            case measure => have := HK.out; omega
            case rel =>
              refine ⟨k + 1, en.f0, rfl, by go_num, ⟨by omega, by have := HK.out; omega, ?_⟩, ?_⟩
              · rw [← HK.out.2.2, HR.out]
                simp [c1, c2, c3, maxTime]
              · exact ⟨Mem.sel (ps := [_]) (F := []) [] 1 (M1.out.alloc _ _) rfl rfl⟩
          · go_wp2
            go_ret
            refine ⟨?_, Mem.sel (ps := [_]) (F := []) [] 1 (M1.out.alloc _ _) rfl rfl⟩
            rw [← HK.out.2.2, HR.out, decide_eq_false (show ¬ en.f1.size ≤ 20000 by omega)]
            simp
        · go_wp2
          go_ret
          refine ⟨?_, Mem.sel (ps := [_]) (F := []) [] 1 (M1.out.alloc _ _) rfl rfl⟩
          rw [← HK.out.2.2, HR.out, decide_eq_false (show ¬ en.f0 < maxTime by unfold maxTime; omega)]
          simp
      · go_wp2
        go_ret
        refine ⟨?_, Mem.sel (ps := [_]) (F := []) [] 1 (M1.out.alloc _ _) rfl rfl⟩
        rw [← HK.out.2.2, HR.out, decide_eq_false (show ¬ last < en.f0 by omega)]
        simp
    · have hk : k = l.length := by have := HK.out.1; omega
      subst hk
      go_wp2
      go_ret
      refine ⟨?_, M1.out⟩
      rw [← HK.out.2.2, List.drop_length]
      simp [rises]
      omega
end Go.Proofs.YtggbjokhniigkaaGreat.Wb

/- Texts laid together: Kind, Or, Oq, Tk, Tq. No condition. -/
import Derived.Test.YtggbjokhniigkaaProg
import Derived.KernelRfl
import Derived.WalkKit
import Derived.ProofKit
import Derived.OpenShut
import Derived.ChangeOld
import Derived.Below
import Derived.Deep.Slices
import Derived.Test.YtggbjokhniigkaaYGz2
set_option linter.unusedVariables false
set_option linter.unusedSimpArgs false
set_option maxRecDepth 100000
set_option maxHeartbeats 8000000
namespace Go.Proofs.Ytggbjokhniigkaa.Kx
open Ty Go.RowKit YtggbjokhniigkaaW.PrintWords YtggbjokhniigkaaW.PrintLast YtggbjokhniigkaaW.PrintMore
theorem infoInt : (Try.prog.info? 3).map (fun i => (i.zero, i.size, i.bytes)) = some (some (.int .i64 0), 1, 8) := by kernel_rfl
theorem infoMsg : (Try.prog.info? 29).map (fun i => (i.zero, i.size, i.bytes)) = some (some (.agg #[(.int .i64 0), (.int .i64 0), (.int .i64 0), (.int .i64 0), (.int .i64 0), (.int .i64 0), (.int .i64 0), (.slice none 0 0)]), 8, 80) := by kernel_rfl
theorem infoEntry : (Try.prog.info? 102).map (fun i => (i.zero, i.size, i.bytes)) = some (some (.agg #[(.int .i64 0), (.string ⟨#[]⟩)]), 2, 24) := by kernel_rfl
-- the values' own types
/-! #### struct type 68 -/
def zE : Entry := ⟨(0 : Int), (⟨#[]⟩ : ByteArray)⟩
def kE : Kd Entry := Kd.iso (Kd.pair (Kd.int .i64) Kd.string) (fun x : Entry => (x.f0, x.f1))
theorem kE_open {w : World} {x : Entry} {cs : List Value} (h : kE.K w x cs) : cs = [.int .i64 x.f0, .string x.f1] := by
  obtain ⟨_, _, rfl, rfl, rfl⟩ := h
  exact rfl
theorem kE_mk (w : World) (x : Entry)  : kE.K w x [.int .i64 x.f0, .string x.f1] := ⟨[.int .i64 x.f0], [.string x.f1], rfl, rfl, rfl⟩
theorem kE_mkM (w : World) (base : Nat) (ok : Nat → Prop) (x : Entry)  : kE.M w base ok x [.int .i64 x.f0, .string x.f1] := ⟨[.int .i64 x.f0], [.string x.f1], rfl, rfl, rfl⟩
def rd_Entry (xs : List Entry) (i : Int) : Entry := xs.getD i.toNat zE
theorem at_Entry {w : World} {A : Option Addr} {n : Nat} {xs : List Entry} (h : Kd.C kE w A n xs) (i : Int) (h0 : 0 ≤ i) (h1 : i < n) : ∃ ad , A = some ad ∧ w.cell? (ad.add (i.toNat * 2)) = some (.int .i64 (rd_Entry xs i).f0) ∧ w.cell? ⟨(ad.add (i.toNat * 2)).block, (ad.add (i.toNat * 2)).off + 1, none⟩ = some (.string (rd_Entry xs i).f1) := by
  obtain ⟨ad, c, e, _, hK, hc0⟩ := Kd.C_get h zE i h0 h1
  have hc : ∀ j u, c[j]? = some u → w.cell? (ad.add (i.toNat * 2 + j)) = some u := hc0
  obtain rfl := kE_open hK
  exact ⟨ad, e, hc 0 _ rfl, by rw [← add_field _ _ 1 (by omega)]; exact hc 1 _ rfl⟩
/-! #### struct type 27 -/
def zM : Msg := ⟨(0 : Int), (0 : Int), (0 : Int), (0 : Int), (0 : Int), (0 : Int), (0 : Int), ([] : List Entry)⟩
def kM : Kd Msg := Kd.iso (Kd.pair (Kd.int .i64) (Kd.pair (Kd.int .i64) (Kd.pair (Kd.int .i64) (Kd.pair (Kd.int .i64) (Kd.pair (Kd.int .i64) (Kd.pair (Kd.int .i64) (Kd.pair (Kd.int .i64) (Kd.slice 102 kE)))))))) (fun x : Msg => (x.f0, x.f1, x.f2, x.f3, x.f4, x.f5, x.f6, x.f7))
theorem kM_open {w : World} {x : Msg} {cs : List Value} (h : kM.K w x cs) : ∃ A7 c7, cs = [.int .i64 x.f0, .int .i64 x.f1, .int .i64 x.f2, .int .i64 x.f3, .int .i64 x.f4, .int .i64 x.f5, .int .i64 x.f6, .slice A7 x.f7.length c7] ∧ x.f7.length ≤ c7 ∧ kE.C w A7 x.f7.length x.f7 := by
  obtain ⟨_, _, rfl, rfl, ⟨_, _, rfl, rfl, ⟨_, _, rfl, rfl, ⟨_, _, rfl, rfl, ⟨_, _, rfl, rfl, ⟨_, _, rfl, rfl, ⟨_, _, rfl, rfl, ⟨A7, c7, rfl, l7, g7⟩⟩⟩⟩⟩⟩⟩⟩ := h
  exact ⟨A7, c7, rfl, l7, g7⟩
theorem kM_mk (w : World) (x : Msg) {A7 : Option Addr} {c7 : Nat} (l7 : x.f7.length ≤ c7) (g7 : kE.C w A7 x.f7.length x.f7) : kM.K w x [.int .i64 x.f0, .int .i64 x.f1, .int .i64 x.f2, .int .i64 x.f3, .int .i64 x.f4, .int .i64 x.f5, .int .i64 x.f6, .slice A7 x.f7.length c7] := ⟨[.int .i64 x.f0], [.int .i64 x.f1, .int .i64 x.f2, .int .i64 x.f3, .int .i64 x.f4, .int .i64 x.f5, .int .i64 x.f6, .slice A7 x.f7.length c7], rfl, rfl, ⟨[.int .i64 x.f1], [.int .i64 x.f2, .int .i64 x.f3, .int .i64 x.f4, .int .i64 x.f5, .int .i64 x.f6, .slice A7 x.f7.length c7], rfl, rfl, ⟨[.int .i64 x.f2], [.int .i64 x.f3, .int .i64 x.f4, .int .i64 x.f5, .int .i64 x.f6, .slice A7 x.f7.length c7], rfl, rfl, ⟨[.int .i64 x.f3], [.int .i64 x.f4, .int .i64 x.f5, .int .i64 x.f6, .slice A7 x.f7.length c7], rfl, rfl, ⟨[.int .i64 x.f4], [.int .i64 x.f5, .int .i64 x.f6, .slice A7 x.f7.length c7], rfl, rfl, ⟨[.int .i64 x.f5], [.int .i64 x.f6, .slice A7 x.f7.length c7], rfl, rfl, ⟨[.int .i64 x.f6], [.slice A7 x.f7.length c7], rfl, rfl, ⟨A7, c7, rfl, l7, g7⟩⟩⟩⟩⟩⟩⟩⟩
theorem kM_mkM (w : World) (base : Nat) (ok : Nat → Prop) (x : Msg) {v7 : Value} (g7 : kE.R 102 w base ok v7 x.f7) : kM.M w base ok x [.int .i64 x.f0, .int .i64 x.f1, .int .i64 x.f2, .int .i64 x.f3, .int .i64 x.f4, .int .i64 x.f5, .int .i64 x.f6, v7] := ⟨[.int .i64 x.f0], [.int .i64 x.f1, .int .i64 x.f2, .int .i64 x.f3, .int .i64 x.f4, .int .i64 x.f5, .int .i64 x.f6, v7], rfl, rfl, ⟨[.int .i64 x.f1], [.int .i64 x.f2, .int .i64 x.f3, .int .i64 x.f4, .int .i64 x.f5, .int .i64 x.f6, v7], rfl, rfl, ⟨[.int .i64 x.f2], [.int .i64 x.f3, .int .i64 x.f4, .int .i64 x.f5, .int .i64 x.f6, v7], rfl, rfl, ⟨[.int .i64 x.f3], [.int .i64 x.f4, .int .i64 x.f5, .int .i64 x.f6, v7], rfl, rfl, ⟨[.int .i64 x.f4], [.int .i64 x.f5, .int .i64 x.f6, v7], rfl, rfl, ⟨[.int .i64 x.f5], [.int .i64 x.f6, v7], rfl, rfl, ⟨[.int .i64 x.f6], [v7], rfl, rfl, ⟨v7, rfl, g7⟩⟩⟩⟩⟩⟩⟩⟩
def rd_Msg (xs : List Msg) (i : Int) : Msg := xs.getD i.toNat zM
theorem at_Msg {w : World} {A : Option Addr} {n : Nat} {xs : List Msg} (h : Kd.C kM w A n xs) (i : Int) (h0 : 0 ≤ i) (h1 : i < n) : ∃ ad A7 c7, A = some ad ∧ w.cell? (ad.add (i.toNat * 8)) = some (.int .i64 (rd_Msg xs i).f0) ∧ w.cell? ⟨(ad.add (i.toNat * 8)).block, (ad.add (i.toNat * 8)).off + 1, none⟩ = some (.int .i64 (rd_Msg xs i).f1) ∧ w.cell? ⟨(ad.add (i.toNat * 8)).block, (ad.add (i.toNat * 8)).off + 2, none⟩ = some (.int .i64 (rd_Msg xs i).f2) ∧ w.cell? ⟨(ad.add (i.toNat * 8)).block, (ad.add (i.toNat * 8)).off + 3, none⟩ = some (.int .i64 (rd_Msg xs i).f3) ∧ w.cell? ⟨(ad.add (i.toNat * 8)).block, (ad.add (i.toNat * 8)).off + 4, none⟩ = some (.int .i64 (rd_Msg xs i).f4) ∧ w.cell? ⟨(ad.add (i.toNat * 8)).block, (ad.add (i.toNat * 8)).off + 5, none⟩ = some (.int .i64 (rd_Msg xs i).f5) ∧ w.cell? ⟨(ad.add (i.toNat * 8)).block, (ad.add (i.toNat * 8)).off + 6, none⟩ = some (.int .i64 (rd_Msg xs i).f6) ∧ w.cell? ⟨(ad.add (i.toNat * 8)).block, (ad.add (i.toNat * 8)).off + 7, none⟩ = some (.slice A7 (rd_Msg xs i).f7.length c7) ∧ (rd_Msg xs i).f7.length ≤ c7 ∧ kE.C w A7 (rd_Msg xs i).f7.length (rd_Msg xs i).f7 := by
  obtain ⟨ad, c, e, _, hK, hc0⟩ := Kd.C_get h zM i h0 h1
  have hc : ∀ j u, c[j]? = some u → w.cell? (ad.add (i.toNat * 8 + j)) = some u := hc0
  obtain ⟨A7, c7, rfl, l7, g7⟩ := kM_open hK
  exact ⟨ad, A7, c7, e, hc 0 _ rfl, by rw [← add_field _ _ 1 (by omega)]; exact hc 1 _ rfl, by rw [← add_field _ _ 2 (by omega)]; exact hc 2 _ rfl, by rw [← add_field _ _ 3 (by omega)]; exact hc 3 _ rfl, by rw [← add_field _ _ 4 (by omega)]; exact hc 4 _ rfl, by rw [← add_field _ _ 5 (by omega)]; exact hc 5 _ rfl, by rw [← add_field _ _ 6 (by omega)]; exact hc 6 _ rfl, by rw [← add_field _ _ 7 (by omega)]; exact hc 7 _ rfl, l7, g7⟩
/-! #### struct type 25 -/
def kR : Kd Rep := Kd.iso (Kd.pair (Kd.int .i64) (Kd.pair (Kd.int .i64) (Kd.pair (Kd.int .i64) (Kd.pair (Kd.int .i64) (Kd.pair (Kd.int .i64) (Kd.pair (Kd.slice 102 kE) (Kd.pair (Kd.int .i64) (Kd.pair (Kd.slice 3 (Kd.int .i64)) (Kd.pair (Kd.slice 3 (Kd.int .i64)) (Kd.pair (Kd.slice 3 (Kd.int .i64)) (Kd.pair (Kd.slice 102 kE) (Kd.pair (Kd.int .i64) (Kd.int .i64))))))))))))) (fun x : Rep => (x.f0, x.f1, x.f2, x.f3, x.f4, x.f5, x.f6, x.f7, x.f8, x.f9, x.f10, x.f11, x.f12))
theorem kR_open {w : World} {x : Rep} {cs : List Value} (h : kR.K w x cs) : ∃ A5 c5 A7 c7 A8 c8 A9 c9 A10 c10, cs = [.int .i64 x.f0, .int .i64 x.f1, .int .i64 x.f2, .int .i64 x.f3, .int .i64 x.f4, .slice A5 x.f5.length c5, .int .i64 x.f6, .slice A7 x.f7.length c7, .slice A8 x.f8.length c8, .slice A9 x.f9.length c9, .slice A10 x.f10.length c10, .int .i64 x.f11, .int .i64 x.f12] ∧ x.f5.length ≤ c5 ∧ kE.C w A5 x.f5.length x.f5 ∧ x.f7.length ≤ c7 ∧ (Kd.int .i64).C w A7 x.f7.length x.f7 ∧ x.f8.length ≤ c8 ∧ (Kd.int .i64).C w A8 x.f8.length x.f8 ∧ x.f9.length ≤ c9 ∧ (Kd.int .i64).C w A9 x.f9.length x.f9 ∧ x.f10.length ≤ c10 ∧ kE.C w A10 x.f10.length x.f10 := by
  obtain ⟨_, _, rfl, rfl, ⟨_, _, rfl, rfl, ⟨_, _, rfl, rfl, ⟨_, _, rfl, rfl, ⟨_, _, rfl, rfl, ⟨_, _, rfl, ⟨A5, c5, rfl, l5, g5⟩, ⟨_, _, rfl, rfl, ⟨_, _, rfl, ⟨A7, c7, rfl, l7, g7⟩, ⟨_, _, rfl, ⟨A8, c8, rfl, l8, g8⟩, ⟨_, _, rfl, ⟨A9, c9, rfl, l9, g9⟩, ⟨_, _, rfl, ⟨A10, c10, rfl, l10, g10⟩, ⟨_, _, rfl, rfl, rfl⟩⟩⟩⟩⟩⟩⟩⟩⟩⟩⟩⟩ := h
  exact ⟨A5, c5, A7, c7, A8, c8, A9, c9, A10, c10, rfl, l5, g5, l7, g7, l8, g8, l9, g9, l10, g10⟩
theorem kR_mk (w : World) (x : Rep) {A5 : Option Addr} {c5 : Nat} (l5 : x.f5.length ≤ c5) (g5 : kE.C w A5 x.f5.length x.f5) {A7 : Option Addr} {c7 : Nat} (l7 : x.f7.length ≤ c7) (g7 : (Kd.int .i64).C w A7 x.f7.length x.f7) {A8 : Option Addr} {c8 : Nat} (l8 : x.f8.length ≤ c8) (g8 : (Kd.int .i64).C w A8 x.f8.length x.f8) {A9 : Option Addr} {c9 : Nat} (l9 : x.f9.length ≤ c9) (g9 : (Kd.int .i64).C w A9 x.f9.length x.f9) {A10 : Option Addr} {c10 : Nat} (l10 : x.f10.length ≤ c10) (g10 : kE.C w A10 x.f10.length x.f10) : kR.K w x [.int .i64 x.f0, .int .i64 x.f1, .int .i64 x.f2, .int .i64 x.f3, .int .i64 x.f4, .slice A5 x.f5.length c5, .int .i64 x.f6, .slice A7 x.f7.length c7, .slice A8 x.f8.length c8, .slice A9 x.f9.length c9, .slice A10 x.f10.length c10, .int .i64 x.f11, .int .i64 x.f12] := ⟨[.int .i64 x.f0], [.int .i64 x.f1, .int .i64 x.f2, .int .i64 x.f3, .int .i64 x.f4, .slice A5 x.f5.length c5, .int .i64 x.f6, .slice A7 x.f7.length c7, .slice A8 x.f8.length c8, .slice A9 x.f9.length c9, .slice A10 x.f10.length c10, .int .i64 x.f11, .int .i64 x.f12], rfl, rfl, ⟨[.int .i64 x.f1], [.int .i64 x.f2, .int .i64 x.f3, .int .i64 x.f4, .slice A5 x.f5.length c5, .int .i64 x.f6, .slice A7 x.f7.length c7, .slice A8 x.f8.length c8, .slice A9 x.f9.length c9, .slice A10 x.f10.length c10, .int .i64 x.f11, .int .i64 x.f12], rfl, rfl, ⟨[.int .i64 x.f2], [.int .i64 x.f3, .int .i64 x.f4, .slice A5 x.f5.length c5, .int .i64 x.f6, .slice A7 x.f7.length c7, .slice A8 x.f8.length c8, .slice A9 x.f9.length c9, .slice A10 x.f10.length c10, .int .i64 x.f11, .int .i64 x.f12], rfl, rfl, ⟨[.int .i64 x.f3], [.int .i64 x.f4, .slice A5 x.f5.length c5, .int .i64 x.f6, .slice A7 x.f7.length c7, .slice A8 x.f8.length c8, .slice A9 x.f9.length c9, .slice A10 x.f10.length c10, .int .i64 x.f11, .int .i64 x.f12], rfl, rfl, ⟨[.int .i64 x.f4], [.slice A5 x.f5.length c5, .int .i64 x.f6, .slice A7 x.f7.length c7, .slice A8 x.f8.length c8, .slice A9 x.f9.length c9, .slice A10 x.f10.length c10, .int .i64 x.f11, .int .i64 x.f12], rfl, rfl, ⟨[.slice A5 x.f5.length c5], [.int .i64 x.f6, .slice A7 x.f7.length c7, .slice A8 x.f8.length c8, .slice A9 x.f9.length c9, .slice A10 x.f10.length c10, .int .i64 x.f11, .int .i64 x.f12], rfl, ⟨A5, c5, rfl, l5, g5⟩, ⟨[.int .i64 x.f6], [.slice A7 x.f7.length c7, .slice A8 x.f8.length c8, .slice A9 x.f9.length c9, .slice A10 x.f10.length c10, .int .i64 x.f11, .int .i64 x.f12], rfl, rfl, ⟨[.slice A7 x.f7.length c7], [.slice A8 x.f8.length c8, .slice A9 x.f9.length c9, .slice A10 x.f10.length c10, .int .i64 x.f11, .int .i64 x.f12], rfl, ⟨A7, c7, rfl, l7, g7⟩, ⟨[.slice A8 x.f8.length c8], [.slice A9 x.f9.length c9, .slice A10 x.f10.length c10, .int .i64 x.f11, .int .i64 x.f12], rfl, ⟨A8, c8, rfl, l8, g8⟩, ⟨[.slice A9 x.f9.length c9], [.slice A10 x.f10.length c10, .int .i64 x.f11, .int .i64 x.f12], rfl, ⟨A9, c9, rfl, l9, g9⟩, ⟨[.slice A10 x.f10.length c10], [.int .i64 x.f11, .int .i64 x.f12], rfl, ⟨A10, c10, rfl, l10, g10⟩, ⟨[.int .i64 x.f11], [.int .i64 x.f12], rfl, rfl, rfl⟩⟩⟩⟩⟩⟩⟩⟩⟩⟩⟩⟩
abbrev mA (m : Msg) (A : Option Addr) (c : Nat) : Array Value := #[.int .i64 m.f0, .int .i64 m.f1, .int .i64 m.f2, .int .i64 m.f3, .int .i64 m.f4, .int .i64 m.f5, .int .i64 m.f6, .slice A m.f7.length c]
abbrev rA (r : Rep) (A5 A7 A8 A9 A10 : Option Addr) (c5 c7 c8 c9 c10 : Nat) : Array Value := #[.int .i64 r.f0, .int .i64 r.f1, .int .i64 r.f2, .int .i64 r.f3, .int .i64 r.f4, .slice A5 r.f5.length c5, .int .i64 r.f6, .slice A7 r.f7.length c7, .slice A8 r.f8.length c8, .slice A9 r.f9.length c9, .slice A10 r.f10.length c10, .int .i64 r.f11, .int .i64 r.f12]
abbrev sL (r : Rep) (v5 v7 v8 v9 v10 : Value) (F : List Mx.Res) : List Mx.Res := Mx.row kE 102 v5 r.f5 :: Mx.row (Kd.int .i64) 3 v7 r.f7 :: Mx.row (Kd.int .i64) 3 v8 r.f8 :: Mx.row (Kd.int .i64) 3 v9 r.f9 :: Mx.row kE 102 v10 r.f10 :: F
end Go.Proofs.Ytggbjokhniigkaa.Kx
namespace Go.Proofs.Ytggbjokhniigkaa.Or
open Go.ChangeShapes Go.WideShapes Go.ChangeAt Go.RowKit Go.Deep YtggbjokhniigkaaW.PrintWords Ty Kx Mx
def Opens (P : Program) (t : TypeId) {α : Type} (d : Kd α) : Prop := P.cellsOf t = d.sz ∧ ∀ {H : Type} (enc : TypeId × Value → H) (w : World) (base : Nat) (spare : Nat → Bool) (held : Bool) (fuel : Nat) (cs : List Value) (x : DataW H × List MemPlace), DataW.trod enc P w base spare held fuel t cs = some x → ∃ a : α, d.K w a cs
theorem opens_slice {P : Program} {t e : TypeId} {α : Type} {d : Kd α} (ht : P.underlying t = some (.slice e)) (hc : P.cellsOf t = 1) (hd : Opens P e d) : Opens P t (Kd.slice e d) := by
  refine ⟨hc, fun enc w base spare held fuel cs x h => ?_⟩
  rcases open_slice ht h with ⟨rfl, _⟩ | ⟨a, len, cap, m, n, D, Pl, rfl, hb, hl, hm, hmm, rfl, hx⟩
  · exact ⟨[], none, 0, rfl, Nat.le_refl _, Kd.C_nil d w⟩
  · have hlm : len ≤ m := by rw [hmm]; split <;> omega
    have hex : ∀ k, k ≤ len → ∃ l : List α, l.length = k ∧ ∀ j p, l[j]? = some p → ∃ cs', w.cells? base (a.add (j * P.cellsOf e)) (P.cellsOf e) = some cs' ∧ d.K w p cs' := by
      intro k
      induction k with
      | zero => exact fun _ => ⟨[], rfl, fun j p h => by simp at h⟩
      | succ k ih =>
        intro hk
        obtain ⟨l, h1, h2⟩ := ih (by omega)
        obtain ⟨cs', h3, h4⟩ := hx k (by omega)
        obtain ⟨y, hy⟩ := hd.2 enc w base spare held n cs' _ h4
        refine ⟨l ++ [y], by simp [h1], fun j p h => ?_⟩
        rw [List.getElem?_append] at h
        split at h
        · exact h2 j p h
        · have : j = k := by
            have := (List.getElem?_eq_some_iff.1 h).1
            simp at this
            omega
          subst this
          rw [h1, Nat.sub_self] at h
          obtain rfl : y = p := by simpa using h
          exact ⟨cs', h3, hy⟩
    obtain ⟨l, h1, h2⟩ := hex len (Nat.le_refl _)
    subst h1
    refine ⟨l, some a, cap, rfl, hl, rfl, ?_, fun _ => ⟨a, rfl, fun j p hj => ?_⟩⟩
    · have : maxLen ≤ 9223372036854775807 := by decide
      omega
    · obtain ⟨cs', h3, h4⟩ := h2 j p hj
      obtain ⟨_, h5, h6⟩ := World.cells?_some h3
      rw [hd.1] at h5 h6
      refine ⟨cs', h5, h4, fun i u hu => ?_⟩
      have hi : i < d.sz := by rw [← h5]; exact (List.getElem?_eq_some_iff.1 hu).1
      have := h6 i hi
      rw [Go.Deep.add_add] at this
      rw [this, hu]
theorem opens_int : Opens Try.prog 3 (Kd.int .i64) := ⟨by kernel_rfl, fun enc w base spare held fuel cs x h => by
  obtain ⟨n, rfl, _⟩ := DataW.trod_int Try.underlying3 h
  exact ⟨n, rfl⟩⟩
theorem opens_entry : Opens Try.prog 102 kE := by
  refine ⟨by kernel_rfl, fun enc w base spare held fuel cs x h => ?_⟩
  obtain ⟨ys, n, rfl, rfl, hl, hyl, hf⟩ := DataW.trod_struct Try.underlying102 h
  rw [show Try.prog.cellsOf 102 = 2 from by kernel_rfl] at hl
  match cs, hl with
  | [c0, c1], _ =>
    have ex : ∀ i, i < 2 → ∃ y, ys[i]? = some y := fun i hi => ⟨_, List.getElem?_eq_getElem (by rw [hyl]; exact hi)⟩
    have h0 := hf 0 _ rfl
    obtain ⟨y0, e0⟩ := ex 0 (by decide)
    rw [e0] at h0
    obtain ⟨n0, g0, _⟩ := DataW.trod_int Try.underlying3 h0
    replace g0 : List.take (Try.prog.cellsOf 3) (List.drop 0 [c0, c1]) = [.int .i64 n0] := g0
    rw [show Try.prog.cellsOf 3 = 1 from by kernel_rfl] at g0
    injection g0 with g0 _
    have h1 := hf 1 _ rfl
    obtain ⟨y1, e1⟩ := ex 1 (by decide)
    rw [e1] at h1
    obtain ⟨n1, g1, _⟩ := DataW.trod_string Try.underlying9 h1
    replace g1 : List.take (Try.prog.cellsOf 9) (List.drop 1 [c0, c1]) = [.string n1] := g1
    rw [show Try.prog.cellsOf 9 = 1 from by kernel_rfl] at g1
    injection g1 with g1 _
    subst g0; subst g1
    exact ⟨⟨n0, n1⟩, kE_mk w ⟨n0, n1⟩⟩
theorem opens_msg : Opens Try.prog 29 kM := by
  refine ⟨by kernel_rfl, fun enc w base spare held fuel cs x h => ?_⟩
  obtain ⟨ys, n, rfl, rfl, hl, hyl, hf⟩ := DataW.trod_struct Try.underlying29 h
  rw [show Try.prog.cellsOf 29 = 8 from by kernel_rfl] at hl
  match cs, hl with
  | [c0, c1, c2, c3, c4, c5, c6, c7], _ =>
    have ex : ∀ i, i < 8 → ∃ y, ys[i]? = some y := fun i hi => ⟨_, List.getElem?_eq_getElem (by rw [hyl]; exact hi)⟩
    have h0 := hf 0 _ rfl
    obtain ⟨y0, e0⟩ := ex 0 (by decide)
    rw [e0] at h0
    obtain ⟨n0, g0, _⟩ := DataW.trod_int Try.underlying3 h0
    replace g0 : List.take (Try.prog.cellsOf 3) (List.drop 0 [c0, c1, c2, c3, c4, c5, c6, c7]) = [.int .i64 n0] := g0
    rw [show Try.prog.cellsOf 3 = 1 from by kernel_rfl] at g0
    injection g0 with g0 _
    have h1 := hf 1 _ rfl
    obtain ⟨y1, e1⟩ := ex 1 (by decide)
    rw [e1] at h1
    obtain ⟨n1, g1, _⟩ := DataW.trod_int Try.underlying3 h1
    replace g1 : List.take (Try.prog.cellsOf 3) (List.drop 1 [c0, c1, c2, c3, c4, c5, c6, c7]) = [.int .i64 n1] := g1
    rw [show Try.prog.cellsOf 3 = 1 from by kernel_rfl] at g1
    injection g1 with g1 _
    have h2 := hf 2 _ rfl
    obtain ⟨y2, e2⟩ := ex 2 (by decide)
    rw [e2] at h2
    obtain ⟨n2, g2, _⟩ := DataW.trod_int Try.underlying3 h2
    replace g2 : List.take (Try.prog.cellsOf 3) (List.drop 2 [c0, c1, c2, c3, c4, c5, c6, c7]) = [.int .i64 n2] := g2
    rw [show Try.prog.cellsOf 3 = 1 from by kernel_rfl] at g2
    injection g2 with g2 _
    have h3 := hf 3 _ rfl
    obtain ⟨y3, e3⟩ := ex 3 (by decide)
    rw [e3] at h3
    obtain ⟨n3, g3, _⟩ := DataW.trod_int Try.underlying3 h3
    replace g3 : List.take (Try.prog.cellsOf 3) (List.drop 3 [c0, c1, c2, c3, c4, c5, c6, c7]) = [.int .i64 n3] := g3
    rw [show Try.prog.cellsOf 3 = 1 from by kernel_rfl] at g3
    injection g3 with g3 _
    have h4 := hf 4 _ rfl
    obtain ⟨y4, e4⟩ := ex 4 (by decide)
    rw [e4] at h4
    obtain ⟨n4, g4, _⟩ := DataW.trod_int Try.underlying3 h4
    replace g4 : List.take (Try.prog.cellsOf 3) (List.drop 4 [c0, c1, c2, c3, c4, c5, c6, c7]) = [.int .i64 n4] := g4
    rw [show Try.prog.cellsOf 3 = 1 from by kernel_rfl] at g4
    injection g4 with g4 _
    have h5 := hf 5 _ rfl
    obtain ⟨y5, e5⟩ := ex 5 (by decide)
    rw [e5] at h5
    obtain ⟨n5, g5, _⟩ := DataW.trod_int Try.underlying3 h5
    replace g5 : List.take (Try.prog.cellsOf 3) (List.drop 5 [c0, c1, c2, c3, c4, c5, c6, c7]) = [.int .i64 n5] := g5
    rw [show Try.prog.cellsOf 3 = 1 from by kernel_rfl] at g5
    injection g5 with g5 _
    have h6 := hf 6 _ rfl
    obtain ⟨y6, e6⟩ := ex 6 (by decide)
    rw [e6] at h6
    obtain ⟨n6, g6, _⟩ := DataW.trod_int Try.underlying3 h6
    replace g6 : List.take (Try.prog.cellsOf 3) (List.drop 6 [c0, c1, c2, c3, c4, c5, c6, c7]) = [.int .i64 n6] := g6
    rw [show Try.prog.cellsOf 3 = 1 from by kernel_rfl] at g6
    injection g6 with g6 _
    have h7 := hf 7 _ rfl
    obtain ⟨y7, e7⟩ := ex 7 (by decide)
    rw [e7] at h7
    obtain ⟨n7, A7, d7, g7, hl7, hC7⟩ := (opens_slice Try.underlying27 (by kernel_rfl) opens_entry).2 enc w base spare held n _ _ h7
    replace g7 : List.take (Try.prog.cellsOf 27) (List.drop 7 [c0, c1, c2, c3, c4, c5, c6, c7]) = [.slice A7 n7.length d7] := g7
    rw [show Try.prog.cellsOf 27 = 1 from by kernel_rfl] at g7
    injection g7 with g7 _
    subst g0; subst g1; subst g2; subst g3; subst g4; subst g5; subst g6; subst g7
    exact ⟨⟨n0, n1, n2, n3, n4, n5, n6, n7⟩, kM_mk w ⟨n0, n1, n2, n3, n4, n5, n6, n7⟩ hl7 hC7⟩
theorem opens_rep : Opens Try.prog 45 kR := by
  refine ⟨by kernel_rfl, fun enc w base spare held fuel cs x h => ?_⟩
  obtain ⟨ys, n, rfl, rfl, hl, hyl, hf⟩ := DataW.trod_struct Try.underlying45 h
  rw [show Try.prog.cellsOf 45 = 13 from by kernel_rfl] at hl
  match cs, hl with
  | [c0, c1, c2, c3, c4, c5, c6, c7, c8, c9, c10, c11, c12], _ =>
    have ex : ∀ i, i < 13 → ∃ y, ys[i]? = some y := fun i hi => ⟨_, List.getElem?_eq_getElem (by rw [hyl]; exact hi)⟩
    have h0 := hf 0 _ rfl
    obtain ⟨y0, e0⟩ := ex 0 (by decide)
    rw [e0] at h0
    obtain ⟨n0, g0, _⟩ := DataW.trod_int Try.underlying3 h0
    replace g0 : List.take (Try.prog.cellsOf 3) (List.drop 0 [c0, c1, c2, c3, c4, c5, c6, c7, c8, c9, c10, c11, c12]) = [.int .i64 n0] := g0
    rw [show Try.prog.cellsOf 3 = 1 from by kernel_rfl] at g0
    injection g0 with g0 _
    have h1 := hf 1 _ rfl
    obtain ⟨y1, e1⟩ := ex 1 (by decide)
    rw [e1] at h1
    obtain ⟨n1, g1, _⟩ := DataW.trod_int Try.underlying3 h1
    replace g1 : List.take (Try.prog.cellsOf 3) (List.drop 1 [c0, c1, c2, c3, c4, c5, c6, c7, c8, c9, c10, c11, c12]) = [.int .i64 n1] := g1
    rw [show Try.prog.cellsOf 3 = 1 from by kernel_rfl] at g1
    injection g1 with g1 _
    have h2 := hf 2 _ rfl
    obtain ⟨y2, e2⟩ := ex 2 (by decide)
    rw [e2] at h2
    obtain ⟨n2, g2, _⟩ := DataW.trod_int Try.underlying3 h2
    replace g2 : List.take (Try.prog.cellsOf 3) (List.drop 2 [c0, c1, c2, c3, c4, c5, c6, c7, c8, c9, c10, c11, c12]) = [.int .i64 n2] := g2
    rw [show Try.prog.cellsOf 3 = 1 from by kernel_rfl] at g2
    injection g2 with g2 _
    have h3 := hf 3 _ rfl
    obtain ⟨y3, e3⟩ := ex 3 (by decide)
    rw [e3] at h3
    obtain ⟨n3, g3, _⟩ := DataW.trod_int Try.underlying3 h3
    replace g3 : List.take (Try.prog.cellsOf 3) (List.drop 3 [c0, c1, c2, c3, c4, c5, c6, c7, c8, c9, c10, c11, c12]) = [.int .i64 n3] := g3
    rw [show Try.prog.cellsOf 3 = 1 from by kernel_rfl] at g3
    injection g3 with g3 _
    have h4 := hf 4 _ rfl
    obtain ⟨y4, e4⟩ := ex 4 (by decide)
    rw [e4] at h4
    obtain ⟨n4, g4, _⟩ := DataW.trod_int Try.underlying3 h4
    replace g4 : List.take (Try.prog.cellsOf 3) (List.drop 4 [c0, c1, c2, c3, c4, c5, c6, c7, c8, c9, c10, c11, c12]) = [.int .i64 n4] := g4
    rw [show Try.prog.cellsOf 3 = 1 from by kernel_rfl] at g4
    injection g4 with g4 _
    have h5 := hf 5 _ rfl
    obtain ⟨y5, e5⟩ := ex 5 (by decide)
    rw [e5] at h5
    obtain ⟨n5, A5, d5, g5, hl5, hC5⟩ := (opens_slice Try.underlying27 (by kernel_rfl) opens_entry).2 enc w base spare held n _ _ h5
    replace g5 : List.take (Try.prog.cellsOf 27) (List.drop 5 [c0, c1, c2, c3, c4, c5, c6, c7, c8, c9, c10, c11, c12]) = [.slice A5 n5.length d5] := g5
    rw [show Try.prog.cellsOf 27 = 1 from by kernel_rfl] at g5
    injection g5 with g5 _
    have h6 := hf 6 _ rfl
    obtain ⟨y6, e6⟩ := ex 6 (by decide)
    rw [e6] at h6
    obtain ⟨n6, g6, _⟩ := DataW.trod_int Try.underlying3 h6
    replace g6 : List.take (Try.prog.cellsOf 3) (List.drop 6 [c0, c1, c2, c3, c4, c5, c6, c7, c8, c9, c10, c11, c12]) = [.int .i64 n6] := g6
    rw [show Try.prog.cellsOf 3 = 1 from by kernel_rfl] at g6
    injection g6 with g6 _
    have h7 := hf 7 _ rfl
    obtain ⟨y7, e7⟩ := ex 7 (by decide)
    rw [e7] at h7
    obtain ⟨n7, A7, d7, g7, hl7, hC7⟩ := (opens_slice Try.underlying43 (by kernel_rfl) opens_int).2 enc w base spare held n _ _ h7
    replace g7 : List.take (Try.prog.cellsOf 43) (List.drop 7 [c0, c1, c2, c3, c4, c5, c6, c7, c8, c9, c10, c11, c12]) = [.slice A7 n7.length d7] := g7
    rw [show Try.prog.cellsOf 43 = 1 from by kernel_rfl] at g7
    injection g7 with g7 _
    have h8 := hf 8 _ rfl
    obtain ⟨y8, e8⟩ := ex 8 (by decide)
    rw [e8] at h8
    obtain ⟨n8, A8, d8, g8, hl8, hC8⟩ := (opens_slice Try.underlying43 (by kernel_rfl) opens_int).2 enc w base spare held n _ _ h8
    replace g8 : List.take (Try.prog.cellsOf 43) (List.drop 8 [c0, c1, c2, c3, c4, c5, c6, c7, c8, c9, c10, c11, c12]) = [.slice A8 n8.length d8] := g8
    rw [show Try.prog.cellsOf 43 = 1 from by kernel_rfl] at g8
    injection g8 with g8 _
    have h9 := hf 9 _ rfl
    obtain ⟨y9, e9⟩ := ex 9 (by decide)
    rw [e9] at h9
    obtain ⟨n9, A9, d9, g9, hl9, hC9⟩ := (opens_slice Try.underlying43 (by kernel_rfl) opens_int).2 enc w base spare held n _ _ h9
    replace g9 : List.take (Try.prog.cellsOf 43) (List.drop 9 [c0, c1, c2, c3, c4, c5, c6, c7, c8, c9, c10, c11, c12]) = [.slice A9 n9.length d9] := g9
    rw [show Try.prog.cellsOf 43 = 1 from by kernel_rfl] at g9
    injection g9 with g9 _
    have h10 := hf 10 _ rfl
    obtain ⟨y10, e10⟩ := ex 10 (by decide)
    rw [e10] at h10
    obtain ⟨n10, A10, d10, g10, hl10, hC10⟩ := (opens_slice Try.underlying27 (by kernel_rfl) opens_entry).2 enc w base spare held n _ _ h10
    replace g10 : List.take (Try.prog.cellsOf 27) (List.drop 10 [c0, c1, c2, c3, c4, c5, c6, c7, c8, c9, c10, c11, c12]) = [.slice A10 n10.length d10] := g10
    rw [show Try.prog.cellsOf 27 = 1 from by kernel_rfl] at g10
    injection g10 with g10 _
    have h11 := hf 11 _ rfl
    obtain ⟨y11, e11⟩ := ex 11 (by decide)
    rw [e11] at h11
    obtain ⟨n11, g11, _⟩ := DataW.trod_int Try.underlying3 h11
    replace g11 : List.take (Try.prog.cellsOf 3) (List.drop 11 [c0, c1, c2, c3, c4, c5, c6, c7, c8, c9, c10, c11, c12]) = [.int .i64 n11] := g11
    rw [show Try.prog.cellsOf 3 = 1 from by kernel_rfl] at g11
    injection g11 with g11 _
    have h12 := hf 12 _ rfl
    obtain ⟨y12, e12⟩ := ex 12 (by decide)
    rw [e12] at h12
    obtain ⟨n12, g12, _⟩ := DataW.trod_int Try.underlying3 h12
    replace g12 : List.take (Try.prog.cellsOf 3) (List.drop 12 [c0, c1, c2, c3, c4, c5, c6, c7, c8, c9, c10, c11, c12]) = [.int .i64 n12] := g12
    rw [show Try.prog.cellsOf 3 = 1 from by kernel_rfl] at g12
    injection g12 with g12 _
    subst g0; subst g1; subst g2; subst g3; subst g4; subst g5; subst g6; subst g7; subst g8; subst g9; subst g10; subst g11; subst g12
    exact ⟨⟨n0, n1, n2, n3, n4, n5, n6, n7, n8, n9, n10, n11, n12⟩, kR_mk w ⟨n0, n1, n2, n3, n4, n5, n6, n7, n8, n9, n10, n11, n12⟩ hl5 hC5 hl7 hC7 hl8 hC8 hl9 hC9 hl10 hC10⟩
theorem open_rep {base : Nat} {H : Type} {enc : TypeId × Value → H} {W : World} {v : Value} {d : DataW H} {p : List MemPlace} (hv : Value.okWide Try.prog W .any base 45 v) (h : DataW.Trod enc Try.prog W 0 (fun _ => true) true 45 v d p) :
    ∃ (r : Rep) (A5 : Option Addr) (c5 : Nat) (A7 : Option Addr) (c7 : Nat) (A8 : Option Addr) (c8 : Nat) (A9 : Option Addr) (c9 : Nat) (A10 : Option Addr) (c10 : Nat), v = .agg (Kx.rA r A5 A7 A8 A9 A10 c5 c7 c8 c9 c10) ∧ r.f5.length ≤ c5 ∧ kE.C W A5 r.f5.length r.f5 ∧ r.f7.length ≤ c7 ∧ (Kd.int .i64).C W A7 r.f7.length r.f7 ∧ r.f8.length ≤ c8 ∧ (Kd.int .i64).C W A8 r.f8.length r.f8 ∧ r.f9.length ≤ c9 ∧ (Kd.int .i64).C W A9 r.f9.length r.f9 ∧ r.f10.length ≤ c10 ∧ kE.C W A10 r.f10.length r.f10 := by
  obtain ⟨cs, rfl, _⟩ := okWide_struct Try.underlying45 hv
  obtain ⟨fuel, hf⟩ := h
  obtain ⟨r, hr⟩ := opens_rep.2 enc W 0 _ true fuel _ _ hf
  obtain ⟨A5, c5, A7, c7, A8, c8, A9, c9, A10, c10, he, l5, g5, l7, g7, l8, g8, l9, g9, l10, g10⟩ := kR_open hr
  refine ⟨r, A5, c5, A7, c7, A8, c8, A9, c9, A10, c10, ?_, l5, g5, l7, g7, l8, g8, l9, g9, l10, g10⟩
  have h2 : cs.toList = _ := he
  exact congrArg Value.agg ((Array.toArray_toList (xs := cs)).symm.trans (congrArg List.toArray h2))
end Go.Proofs.Ytggbjokhniigkaa.Or
namespace Go.Proofs.Ytggbjokhniigkaa.Oq
open Go.ChangeShapes Go.WideShapes Go.ChangeAt Go.RowKit Go.Deep YtggbjokhniigkaaW.PrintWords Ty Kx Mx Go.Proofs.Ytggbjokhniigkaa.Or
theorem opens_msgs : Opens Try.prog 22 (Kd.slice 29 kM) := opens_slice Try.underlying22 (by kernel_rfl) opens_msg
theorem open_msgs {base : Nat} {H : Type} {enc : TypeId × Value → H} {W : World} {v : Value} {d : DataW H} {p : List MemPlace} (hv : Value.okWide Try.prog W .any base 22 v) (h : DataW.Trod enc Try.prog W 0 (fun _ => true) true 22 v d p) :
    ∃ A c l, v = .slice A (List.length l) c ∧ l.length ≤ c ∧ Kd.C kM W A l.length l := by
  obtain ⟨a, n, c, rfl⟩ := okWide_slice Try.underlying22 hv
  obtain ⟨fuel, hf⟩ := h
  obtain ⟨l, A, c', he, hl, hC⟩ := opens_msgs.2 enc W 0 _ true fuel _ _ hf
  simp [Value.cells] at he
  obtain ⟨rfl, rfl, rfl⟩ := he
  exact ⟨_, _, l, rfl, hl, hC⟩
end Go.Proofs.Ytggbjokhniigkaa.Oq
namespace Go.Proofs.Ytggbjokhniigkaa.Tk
open Ty
def most (n : Int) : Int := n / 2 + 1
def mayMsgP (r : Rep) (m : Msg) : Prop :=
  1 ≤ m.f0 ∧ m.f0 ≤ 8 ∧ 0 ≤ m.f1 ∧ m.f1 < r.f1 ∧ m.f1 ≠ r.f0 ∧ m.f2 = r.f0 ∧ below m.f3 = true ∧ below m.f4 = true ∧ below m.f5 = true ∧ below m.f6 = true ∧ log m.f7 = true ∧ (m.f0 = 1 → m.f7.length = 1)
instance (r : Rep) (m : Msg) : Decidable (mayMsgP r m) := by unfold mayMsgP; exact inferInstance
/-- Where a number is, or would be, among rising ones. -/
def place (l : List Int) (k : Int) : Nat := (l.takeWhile (fun x => decide (x < k))).length
def insertId (l : List Int) (k : Int) : List Int := l.take (place l k) ++ k :: l.drop (place l k)
/-- What most have. -/
def quorum (l : List Int) (n : Int) : Int := (l.mergeSort (fun a b => decide (a ≤ b))).getD (n - most n).toNat 0
def better (r : Rep) (was : Int) (lg : List Entry) : Prop := r.f11 < was ∨ (was = r.f11 ∧ r.f10.length < lg.length)
instance (r : Rep) (was : Int) (lg : List Entry) : Decidable (better r was lg) := by unfold better; exact inferInstance
/-- A state is counted. -/
def counted (r : Rep) (frm was commit : Int) (lg : List Entry) : Rep :=
  { r with f9 := insertId r.f9 frm, f10 := if better r was lg then lg else r.f10, f11 := if better r was lg then was else r.f11, f12 := min (max r.f12 commit) ((if better r was lg then lg else r.f10).length : Int) }
def states (r : Rep) (frm was commit : Int) (lg : List Entry) : Rep × List Msg :=
  if frm ∈ r.f9 then (r, [])
  else
    let c := counted r frm was commit lg
    if (c.f9.length : Int) = most c.f1 then
      let d := normal c c.f2 c.f10 c.f12
      (d, toAll d ⟨6, 0, 0, 0, 0, d.f6, 0, d.f5⟩)
    else (c, [])
/-- A change to a view, if it is a later one. -/
def upTo (r : Rep) (view : Int) : Rep × List Msg := if r.f2 < view then (change r view, toAll (change r view) ⟨4, 0, 0, 0, 0, 0, 0, []⟩) else (r, [])
def tChange (r : Rep) (m : Msg) : Rep × List Msg :=
  if m.f3 < r.f2 then (r, [])
  else
    let s := (upTo r m.f3).1
    let l := (upTo r m.f3).2
    if s.f4 = 1 then
      if m.f1 ∈ s.f8 then (s, l)
      else
        let t := { s with f8 := insertId s.f8 m.f1 }
        if (t.f8.length : Int) = most t.f1 then
          if t.f2 % t.f1 = t.f0 then ((states t t.f0 t.f3 t.f6 t.f5).1, l ++ (states t t.f0 t.f3 t.f6 t.f5).2)
          else (t, l ++ [toOne t (t.f2 % t.f1) ⟨5, 0, 0, 0, 0, t.f6, t.f3, t.f5⟩])
        else (t, l)
    else (s, l)
def tState (r : Rep) (m : Msg) : Rep × List Msg :=
  if m.f3 < r.f2 ∨ m.f3 % r.f1 ≠ r.f0 then (r, [])
  else
    let s := (upTo r m.f3).1
    let l := (upTo r m.f3).2
    if s.f4 = 1 then ((states s m.f1 m.f6 m.f5 m.f7).1, l ++ (states s m.f1 m.f6 m.f5 m.f7).2)
    else (s, l)
def tView (r : Rep) (m : Msg) : Rep × List Msg :=
  if m.f3 < r.f2 ∨ m.f3 % r.f1 ≠ m.f1 ∨ (m.f3 = r.f2 ∧ r.f4 = 0) then (r, [])
  else
    let s := normal r m.f3 m.f7 m.f5
    (s, [toOne s m.f1 ⟨2, 0, 0, 0, (s.f5.length : Int), 0, 0, []⟩])
/-- An entry in its turn. -/
def entered (r : Rep) (m : Msg) : Rep :=
  if m.f0 = 1 ∧ m.f4 = (r.f5.length : Int) + 1 ∧ log (r.f5 ++ m.f7) = true then { r with f5 := r.f5 ++ m.f7 } else r
def tPrepare (r : Rep) (m : Msg) : Rep × List Msg :=
  if m.f3 < r.f2 ∨ m.f3 % r.f1 ≠ m.f1 then (r, [])
  else if r.f2 < m.f3 ∨ r.f4 ≠ 0 then
    let s := { clear r with f2 := m.f3, f4 := 2 }
    (s, [toOne s m.f1 ⟨7, 0, 0, 0, s.f6, 0, 0, []⟩])
  else
    let s := raise (entered r m) m.f5
    (s, if m.f0 = 1 ∧ m.f4 ≤ (s.f5.length : Int) then [toOne s m.f1 ⟨2, 0, 0, 0, (s.f5.length : Int), 0, 0, []⟩]
        else if m.f0 = 1 ∨ (s.f5.length : Int) < m.f5 then [toOne s m.f1 ⟨7, 0, 0, 0, (s.f5.length : Int), 0, 0, []⟩] else [])
def tPrepared (r : Rep) (m : Msg) : Rep × List Msg :=
  if m.f3 ≠ r.f2 ∨ r.f4 ≠ 0 ∨ r.f2 % r.f1 ≠ r.f0 then (r, [])
  else
    let s := { r with f7 := r.f7.set m.f1.toNat (min (max (r.f7.getD m.f1.toNat 0) m.f4) (r.f5.length : Int)) }
    if s.f6 < quorum s.f7 s.f1 then
      let t := { s with f6 := quorum s.f7 s.f1 }
      (t, toAll t ⟨3, 0, 0, 0, 0, t.f6, 0, []⟩)
    else (s, [])
def tAsk (r : Rep) (m : Msg) : Rep × List Msg :=
  if m.f3 = r.f2 ∧ r.f4 = 0 ∧ m.f4 ≤ (r.f5.length : Int) then (r, [toOne r m.f1 ⟨8, 0, 0, 0, m.f4, r.f6, 0, r.f5.drop m.f4.toNat⟩]) else (r, [])
def told (r : Rep) (m : Msg) : List Msg := [toOne r m.f1 ⟨2, 0, 0, 0, (r.f5.length : Int), 0, 0, []⟩]
def tLog (r : Rep) (m : Msg) : Rep × List Msg :=
  if m.f3 ≠ r.f2 ∨ (r.f5.length : Int) < m.f4 then (r, [])
  else if r.f4 = 2 ∧ m.f4 ≤ r.f6 ∧ r.f6 ≤ m.f4 + (m.f7.length : Int) ∧ log (r.f5.take m.f4.toNat ++ m.f7) = true then
    let s := normal r r.f2 (r.f5.take m.f4.toNat ++ m.f7) m.f5
    (s, told s m)
  else if r.f4 = 0 ∧ r.f2 % r.f1 ≠ r.f0 then
    if (r.f5.length : Int) < m.f4 + (m.f7.length : Int) then
      if log (r.f5 ++ m.f7.drop (r.f5.length - m.f4.toNat)) = true then
        let s := raise { r with f5 := r.f5 ++ m.f7.drop (r.f5.length - m.f4.toNat) } m.f5
        (s, told s m)
      else (r, [])
    else (raise r m.f5, told (raise r m.f5) m)
  else (r, [])
def act (r : Rep) (m : Msg) : Rep × List Msg :=
  if m.f0 = 2 then tPrepared r m else if m.f0 = 4 then tChange r m else if m.f0 = 5 then tState r m else if m.f0 = 6 then tView r m else if m.f0 = 7 then tAsk r m else if m.f0 = 8 then tLog r m else tPrepare r m
def take (r : Rep) (m : Msg) : Rep × List Msg × Int :=
  if may r = true ∧ mayMsgP r m then ((act r m).1, (act r m).2, 0) else (r, [], 1)
end Go.Proofs.Ytggbjokhniigkaa.Tk
namespace Go.Proofs.Ytggbjokhniigkaa.Tq
open Ty Tk
theorem size_most {n : Int} (h : size n = true) : 0 ≤ n - most n ∧ n - most n < n ∧ n - (n - most n) = most n ∧ 1 ≤ most n := by
  unfold size at h
  unfold most
  simp at h
  omega
theorem quorum_mem {l : List Int} {n : Int} (hn : (l.length : Int) = n) (hz : size n = true) : quorum l n ∈ l := by
  have h1 := size_most hz
  have hl : (l.mergeSort (fun a b => decide (a ≤ b))).length = l.length := List.length_mergeSort l
  have hk : (n - most n).toNat < (l.mergeSort (fun a b => decide (a ≤ b))).length := by omega
  unfold quorum
  rw [List.getD_eq_getElem?_getD, List.getElem?_eq_getElem hk, Option.getD_some]
  exact (List.mergeSort_perm l _).mem_iff.1 (List.getElem_mem hk)
/-! ### rising numbers -/
theorem ids_pair : ∀ (l : List Int) (n last : Int), idsFrom n last l = true → l.Pairwise (fun a b => a < b) ∧ ∀ x ∈ l, last < x ∧ x < n
  | [], _, _, _ => ⟨List.Pairwise.nil, fun _ h => by cases h⟩
  | y :: l, n, last, h => by
    simp only [idsFrom, Bool.and_eq_true, decide_eq_true_eq] at h
    obtain ⟨h1, h2⟩ := ids_pair l n y h.2
    refine ⟨List.Pairwise.cons (fun x hx => (h2 x hx).1) h1, fun x hx => ?_⟩
    rcases List.mem_cons.1 hx with rfl | hx
    · exact h.1
    · have := h2 x hx
      omega
theorem pair_ids : ∀ (l : List Int) (n last : Int), l.Pairwise (fun a b => a < b) → (∀ x ∈ l, last < x ∧ x < n) → idsFrom n last l = true
  | [], _, _, _, _ => rfl
  | y :: l, n, last, h, h2 => by
    obtain ⟨h3, h4⟩ := List.pairwise_cons.1 h
    simp only [idsFrom, Bool.and_eq_true, decide_eq_true_eq]
    exact ⟨h2 y (List.mem_cons_self ..), pair_ids l n y h4 (fun x hx => ⟨h3 x hx, (h2 x (List.mem_cons_of_mem _ hx)).2⟩)⟩
theorem place_le (l : List Int) (k : Int) : place l k ≤ l.length := by
  unfold place
  exact (List.takeWhile_sublist _).length_le
theorem place_lt : ∀ (l : List Int) (k : Int) (t : Nat) (h : t < l.length), t < place l k → l[t] < k
  | [], _, _, h, _ => by simp at h
  | x :: l, k, t, h, ht => by
    unfold place at ht
    rw [List.takeWhile_cons] at ht
    by_cases hx : x < k
    · rw [if_pos (by simpa using hx), List.length_cons] at ht
      cases t with
      | zero => simpa using hx
      | succ t => simpa using place_lt l k t (by simpa using h) (by unfold place; omega)
    · rw [if_neg (by simpa using hx)] at ht
      simp at ht
theorem place_ge : ∀ (l : List Int) (k : Int) (h : place l k < l.length), k ≤ l[place l k]
  | [], _, h => by simp at h
  | x :: l, k, h => by
    by_cases hx : x < k
    · have e : place (x :: l) k = place l k + 1 := by
        unfold place
        rw [List.takeWhile_cons, if_pos (by simpa using hx), List.length_cons]
      simp only [e, List.getElem_cons_succ]
      exact place_ge l k (by rw [e] at h; simpa using h)
    · have e : place (x :: l) k = 0 := by
        unfold place
        rw [List.takeWhile_cons, if_neg (by simpa using hx)]
        rfl
      simp only [e, List.getElem_cons_zero]
      omega
/-- Among rising numbers: what is from its place on is not below it. -/
theorem place_from {l : List Int} (hs : l.Pairwise (fun a b => a < b)) (k : Int) (t : Nat) (h : t < l.length) (ht : place l k ≤ t) : k ≤ l[t] := by
  have h1 := place_ge l k (by omega)
  rcases Nat.eq_or_lt_of_le ht with e | e
  · subst e
    exact h1
  · have := List.pairwise_iff_getElem.1 hs (place l k) t (by omega) h e
    omega
theorem insertId_mem {l : List Int} {k x : Int} (h : x ∈ insertId l k) : x = k ∨ x ∈ l := by
  unfold insertId at h
  rcases List.mem_append.1 h with h | h
  · exact .inr (List.mem_of_mem_take h)
  · rcases List.mem_cons.1 h with h | h
    · exact .inl h
    · exact .inr (List.mem_of_mem_drop h)
theorem insertId_pair {l : List Int} (hs : l.Pairwise (fun a b => a < b)) {k : Int} (hk : k ∉ l) : (insertId l k).Pairwise (fun a b => a < b) := by
  have hp := List.pairwise_iff_getElem.1 hs
  unfold insertId
  rw [List.pairwise_append]
  refine ⟨hs.sublist (List.take_sublist _ _), List.pairwise_cons.2 ⟨fun x hx => ?_, hs.sublist (List.drop_sublist _ _)⟩, fun x hx y hy => ?_⟩
  · obtain ⟨j, hj, rfl⟩ := List.mem_iff_getElem.1 hx
    rw [List.length_drop] at hj
    rw [List.getElem_drop]
    have h1 := place_from hs k (place l k + j) (by omega) (by omega)
    have h2 : k ≠ l[place l k + j]'(by omega) := fun e => hk (by rw [e]; exact List.getElem_mem _)
    omega
  · obtain ⟨j, hj, rfl⟩ := List.mem_iff_getElem.1 hx
    rw [List.length_take] at hj
    rw [List.getElem_take]
    have h1 := place_lt l k j (by omega) (by omega)
    rcases List.mem_cons.1 hy with rfl | hy
    · exact h1
    · obtain ⟨t, ht, rfl⟩ := List.mem_iff_getElem.1 hy
      rw [List.length_drop] at ht
      rw [List.getElem_drop]
      exact hp j (place l k + t) (by omega) (by omega) (by omega)
theorem insertId_ids {l : List Int} {n k : Int} (h : ids l n = true) (hk : k ∉ l) (h0 : 0 ≤ k) (h1 : k < n) : ids (insertId l k) n = true := by
  obtain ⟨h2, h3⟩ := ids_pair l n (-1) h
  refine pair_ids _ _ _ (insertId_pair h2 hk) (fun x hx => ?_)
  rcases insertId_mem hx with rfl | hx
  · omega
  · exact h3 x hx
end Go.Proofs.Ytggbjokhniigkaa.Tq

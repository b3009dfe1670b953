/- Texts laid together: Og1, Uc1, Lv1, LawPrepares. No condition. -/
import Derived.Test.YtggbjokhniigkaaGreatFiq
import Derived.Test.YtggbjokhniigkaaGreatGk
import Derived.Test.YtggbjokhniigkaaGreatGo1
import Derived.Test.YtggbjokhniigkaaGreatGn
import Derived.Test.YtggbjokhniigkaaGreatGp1
import Derived.Test.YtggbjokhniigkaaGreatTdq
import Derived.Test.YtggbjokhniigkaaGreatTpq
import Derived.Test.YtggbjokhniigkaaGreatPfq
import Derived.Test.YtggbjokhniigkaaGreatPhq
import Derived.Test.YtggbjokhniigkaaGreatRows
import Derived.Test.YtggbjokhniigkaaGreatOrq
import Derived.Test.YtggbjokhniigkaaGreatGg
import Derived.Test.YtggbjokhniigkaaGreatGd
import Derived.ChangeMaps5
import Derived.Deep.Slices
/- Walks: the law's of, at a Prepare. -/
namespace Go.Proofs.YtggbjokhniigkaaGreat.Og1
open Go.Proofs.YtggbjokhniigkaaGreat.Ty Go.RowKit Go.Proofs.YtggbjokhniigkaaGreatW.PrintWords Go.Proofs.YtggbjokhniigkaaGreatW.PrintLast Go.Proofs.YtggbjokhniigkaaGreatW.PrintMore Go.Proofs.YtggbjokhniigkaaGreat.Mx Go.Proofs.YtggbjokhniigkaaGreat.Kx Go.Proofs.YtggbjokhniigkaaGreat.Wa Go.Proofs.YtggbjokhniigkaaGreat.Wb Go.Proofs.YtggbjokhniigkaaGreat.Wd Go.Proofs.YtggbjokhniigkaaGreat.Vc Go.Proofs.YtggbjokhniigkaaGreat.Ve Go.Proofs.YtggbjokhniigkaaGreat.Fi Go.Proofs.YtggbjokhniigkaaGreat.Tz
set_option linter.unusedVariables false
set_option linter.unusedSimpArgs false
theorem C_bound {α : Type} {d : Kd α} {w : World} {A : Option Addr} {n : Nat} {xs : List α} (h : d.C w A n xs) : n ≤ 9223372036854775807 := h.2.1
set_option maxRecDepth 100000 in
set_option maxHeartbeats 4000000 in
theorem of1_short (r : Rep) (m : Msg) (A5 A7 A8 A9 A10 A : Option Addr) (c5 c7 c8 c9 c10 c : Nat) (w : World) (h : RdRep w r A5 A7 A8 A9 A10) (hc : Fit r c5 c7 c8 c9 c10) (hl : Kd.C kE w A m.f7.length m.f7) (hlc : m.f7.length ≤ c) (h5 : m.f7.length ≤ 1) (hT : ∀ m' : Msg, m'.f0 = 1 → r.f5.length ≤ 1200 ∧ r.f7.length ≤ 20 ∧ r.f8.length ≤ 20 ∧ r.f9.length ≤ 20 ∧ r.f10.length ≤ 1200 → m'.f7.length ≤ 1200 → m'.f7.length ≤ c → TakesAs r m' A5 A7 A8 A9 A10 A c5 c7 c8 c9 c10 c) :
    Calls Tryz.prog 17 #[.agg #[.int .i64 r.f0, .int .i64 r.f1, .int .i64 r.f2, .int .i64 r.f3, .int .i64 r.f4, .slice A5 r.f5.length c5, .int .i64 r.f6, .slice A7 r.f7.length c7, .slice A8 r.f8.length c8, .slice A9 r.f9.length c9, .slice A10 r.f10.length c10, .int .i64 r.f11, .int .i64 r.f12], .agg #[.int .i64 m.f0, .int .i64 m.f1, .int .i64 m.f2, .int .i64 m.f3, .int .i64 m.f4, .int .i64 m.f5, .int .i64 m.f6, .slice A m.f7.length c], .int .i64 1] w fun e w' => e = .returned (.bool true) ∧ Mem w w' [] := by
  have H := Aside0.mk h
  have HC := Aside0.mk hc
  obtain ⟨lg, hlg⟩ : ∃ lg, m.f7 = lg := ⟨_, rfl⟩
  have HGL := Aside0.mk (show lg.length = m.f7.length by rw [hlg])
  have HL := Aside0.mk (show Kd.C kE w A lg.length lg by rw [← hlg]; exact hl)
  have HLC := Aside0.mk (show lg.length ≤ c by rw [← hlg]; exact hlc)
  clear hlg hlc
  have HT := Aside0.mk hT
  have ek : ((1 : Int) == 1) = true := by simp
  have e5 : decide ((1 : Int) < (m.f7.length : Int)) = false := decide_eq_false (by omega)
  clear h5
  have HSB := Aside0.mk (show _ ∧ _ ∧ _ ∧ _ ∧ _ from ⟨C_bound h.h5, C_bound h.h7, C_bound h.h8, C_bound h.h9, C_bound h.h10⟩)
  have M1 := Aside0.mk (((Mem.nil w).allocAt #[.int .i64 r.f0, .int .i64 r.f1, .int .i64 r.f2, .int .i64 r.f3, .int .i64 r.f4, .slice A5 r.f5.length c5, .int .i64 r.f6, .slice A7 r.f7.length c7, .slice A8 r.f8.length c8, .slice A9 r.f9.length c9, .slice A10 r.f10.length c10, .int .i64 r.f11, .int .i64 r.f12] 25 w.heap.size rfl).allocAt #[.int .i64 1, .int .i64 m.f1, .int .i64 m.f2, .int .i64 m.f3, .int .i64 m.f4, .int .i64 m.f5, .int .i64 m.f6, .slice A m.f7.length c] 27 (w.heap.size + 1) (by simp))
  clear h hc hl hT
  go_enter Tryz.func17, Tryz.ntmps17
  go_wp2_with fail
  go_upto_region 4 with (fail)
  obtain ⟨wc, hwc⟩ : ∃ wc : World, (w.alloc (Obj.cells #[.int .i64 r.f0, .int .i64 r.f1, .int .i64 r.f2, .int .i64 r.f3, .int .i64 r.f4, .slice A5 r.f5.length c5, .int .i64 r.f6, .slice A7 r.f7.length c7, .slice A8 r.f8.length c8, .slice A9 r.f9.length c9, .slice A10 r.f10.length c10, .int .i64 r.f11, .int .i64 r.f12] 25)).alloc (Obj.cells #[.int .i64 1, .int .i64 m.f1, .int .i64 m.f2, .int .i64 m.f3, .int .i64 m.f4, .int .i64 m.f5, .int .i64 m.f6, .slice A m.f7.length c] 27) = wc := ⟨_, rfl⟩
  rw [hwc] at M1 ⊢
  clear hwc
  have HR0 := Aside0.mk (blk_cell (M1.out.blk_at 1 rfl))
  have HM0 := Aside0.mk (blk_cell (M1.out.blk_at 0 rfl))
  have cR := HR0.out
  have cM := HM0.out
  have M1D := Aside0.mk M1.out.drew
  have FIT : Aside0 (∀ w', Below w.heap.size w w' → Calls Tryz.prog 16 #[.agg #[.int .i64 r.f0, .int .i64 r.f1, .int .i64 r.f2, .int .i64 r.f3, .int .i64 r.f4, .slice A5 r.f5.length c5, .int .i64 r.f6, .slice A7 r.f7.length c7, .slice A8 r.f8.length c8, .slice A9 r.f9.length c9, .slice A10 r.f10.length c10, .int .i64 r.f11, .int .i64 r.f12], .agg #[.int .i64 1, .int .i64 m.f1, .int .i64 m.f2, .int .i64 m.f3, .int .i64 m.f4, .int .i64 m.f5, .int .i64 m.f6, .slice A m.f7.length c], .bool true] w' fun e w'' => ∃ m' : Msg, m'.f0 = 1 ∧ m'.f7 = lg ∧ e = .returned (.agg #[.int .i64 m'.f0, .int .i64 m'.f1, .int .i64 m'.f2, .int .i64 m'.f3, .int .i64 m'.f4, .int .i64 m'.f5, .int .i64 m'.f6, .slice A m'.f7.length c]) ∧ Mem w' w'' []) :=
    ⟨fun w' hb => by
      have q := fitted_calls r ⟨1, m.f1, m.f2, m.f3, m.f4, m.f5, m.f6, lg⟩ A5 A7 A8 A9 A10 A c5 c7 c8 c9 c10 c _ (H.out.below hb) HC.out HSB.out
      rw [HGL.out] at q
      exact q⟩
  have HS0 := Aside0.mk (show (∀ j : Nat, wc.drew.cell? ⟨w.heap.size, j, none⟩ = wc.cell? ⟨w.heap.size, j, none⟩) ∧ (∀ j : Nat, wc.drew.cell? ⟨w.heap.size + 1, j, none⟩ = wc.cell? ⟨w.heap.size + 1, j, none⟩) from ⟨fun _ => rfl, fun _ => rfl⟩)
  have H9 := HS0
  go_region_held3 (fun w' => (∀ j : Nat, w'.cell? ⟨w.heap.size, j, none⟩ = wc.cell? ⟨w.heap.size, j, none⟩) ∧ (∀ j : Nat, w'.cell? ⟨w.heap.size + 1, j, none⟩ = wc.cell? ⟨w.heap.size + 1, j, none⟩)) (first | with_reducible exact HS0.out | with_reducible exact H9.out | with_reducible exact H8.out | fail) ((first | (go_at_call 16; refine (FIT.out _ M1D.out.below).mono ?_; rintro e w1 ⟨m', h0, h7, rfl, hM⟩; have M3 := Aside0.mk (M1D.out.trans hM); have H0 := Aside0.mk h0; have H7 := Aside0.mk h7; clear hM h0 h7; have H9 := Aside0.mk (show (∀ j : Nat, w1.cell? ⟨w.heap.size, j, none⟩ = wc.cell? ⟨w.heap.size, j, none⟩) ∧ (∀ j : Nat, w1.cell? ⟨w.heap.size + 1, j, none⟩ = wc.cell? ⟨w.heap.size + 1, j, none⟩) from ⟨fun j => (blk_cell (M3.out.blk_at 1 rfl) j).trans (HR0.out j).symm, fun j => (blk_cell (M3.out.blk_at 0 rfl) j).trans (HM0.out j).symm⟩)) | (go_at_call 15; have HL' := Aside0.mk (show Kd.C kE w A m'.f7.length m'.f7 by rw [H7.out]; exact HL.out); have HLC' := Aside0.mk (show m'.f7.length ≤ c by rw [H7.out]; exact HLC.out); refine (takes_calls r m' A5 A7 A8 A9 A10 A c5 c7 c8 c9 c10 c _ (H.out.below M3.out.below) HC.out (Kd.C_below HL'.out M3.out.below) HLC'.out (fun hs hn => HT.out m' H0.out hs hn HLC'.out)).mono ?_; rintro e w2 ⟨rfl, hM⟩; have M4 := Aside0.mk (M3.out.trans hM); clear hM; have H8 := Aside0.mk (show (∀ j : Nat, w2.cell? ⟨w.heap.size, j, none⟩ = wc.cell? ⟨w.heap.size, j, none⟩) ∧ (∀ j : Nat, w2.cell? ⟨w.heap.size + 1, j, none⟩ = wc.cell? ⟨w.heap.size + 1, j, none⟩) from ⟨fun j => (blk_cell (M4.out.blk_at 1 rfl) j).trans (HR0.out j).symm, fun j => (blk_cell (M4.out.blk_at 0 rfl) j).trans (HM0.out j).symm⟩))))
  go_wp2
  go_ret
  exact ⟨rfl, Mem.sel (ps := [_, _]) (F := []) [] 2 M4.out rfl rfl⟩
set_option maxRecDepth 100000 in
set_option maxHeartbeats 4000000 in
theorem of1_cut (r : Rep) (m : Msg) (A5 A7 A8 A9 A10 A : Option Addr) (c5 c7 c8 c9 c10 c : Nat) (w : World) (h : RdRep w r A5 A7 A8 A9 A10) (hc : Fit r c5 c7 c8 c9 c10) (hl : Kd.C kE w A m.f7.length m.f7) (hlc : m.f7.length ≤ c) (h5 : 1 < m.f7.length) (hT : ∀ m' : Msg, m'.f0 = 1 → r.f5.length ≤ 1200 ∧ r.f7.length ≤ 20 ∧ r.f8.length ≤ 20 ∧ r.f9.length ≤ 20 ∧ r.f10.length ≤ 1200 → m'.f7.length ≤ 1200 → m'.f7.length ≤ c → TakesAs r m' A5 A7 A8 A9 A10 A c5 c7 c8 c9 c10 c) :
    Calls Tryz.prog 17 #[.agg #[.int .i64 r.f0, .int .i64 r.f1, .int .i64 r.f2, .int .i64 r.f3, .int .i64 r.f4, .slice A5 r.f5.length c5, .int .i64 r.f6, .slice A7 r.f7.length c7, .slice A8 r.f8.length c8, .slice A9 r.f9.length c9, .slice A10 r.f10.length c10, .int .i64 r.f11, .int .i64 r.f12], .agg #[.int .i64 m.f0, .int .i64 m.f1, .int .i64 m.f2, .int .i64 m.f3, .int .i64 m.f4, .int .i64 m.f5, .int .i64 m.f6, .slice A m.f7.length c], .int .i64 1] w fun e w' => e = .returned (.bool true) ∧ Mem w w' [] := by
  have H := Aside0.mk h
  have HC := Aside0.mk hc
  obtain ⟨lg, hlg⟩ : ∃ lg, m.f7.take 1 = lg := ⟨_, rfl⟩
  have HG1 := Aside0.mk (show lg.length = 1 by rw [← hlg, List.length_take]; omega)
  have HL := Aside0.mk (show Kd.C kE w A lg.length lg by rw [HG1.out, ← hlg]; have q := Kd.C_take hl (m := 1) (by omega); rw [List.length_take, Nat.min_eq_left (by omega)] at q; exact q)
  have HLC := Aside0.mk (show lg.length ≤ c by rw [HG1.out]; omega)
  clear hlg
  have HT := Aside0.mk hT
  have ek : ((1 : Int) == 1) = true := by simp
  have e5 : decide ((1 : Int) < (m.f7.length : Int)) = true := decide_eq_true (by omega)
  have q1 : (1 : Int) ≤ (c : Int) := by omega
  have q2 : 1 ≤ c := by omega
  clear h5 hlc
  have HSB := Aside0.mk (show _ ∧ _ ∧ _ ∧ _ ∧ _ from ⟨C_bound h.h5, C_bound h.h7, C_bound h.h8, C_bound h.h9, C_bound h.h10⟩)
  have M1 := Aside0.mk (((Mem.nil w).allocAt #[.int .i64 r.f0, .int .i64 r.f1, .int .i64 r.f2, .int .i64 r.f3, .int .i64 r.f4, .slice A5 r.f5.length c5, .int .i64 r.f6, .slice A7 r.f7.length c7, .slice A8 r.f8.length c8, .slice A9 r.f9.length c9, .slice A10 r.f10.length c10, .int .i64 r.f11, .int .i64 r.f12] 25 w.heap.size rfl).allocAt #[.int .i64 1, .int .i64 m.f1, .int .i64 m.f2, .int .i64 m.f3, .int .i64 m.f4, .int .i64 m.f5, .int .i64 m.f6, .slice A 1 c] 27 (w.heap.size + 1) (by simp))
  clear h hc hl hT
  go_enter Tryz.func17, Tryz.ntmps17
  go_wp2_with fail
  go_upto_region 4 with (fail)
  obtain ⟨wc, hwc⟩ : ∃ wc : World, (w.alloc (Obj.cells #[.int .i64 r.f0, .int .i64 r.f1, .int .i64 r.f2, .int .i64 r.f3, .int .i64 r.f4, .slice A5 r.f5.length c5, .int .i64 r.f6, .slice A7 r.f7.length c7, .slice A8 r.f8.length c8, .slice A9 r.f9.length c9, .slice A10 r.f10.length c10, .int .i64 r.f11, .int .i64 r.f12] 25)).alloc (Obj.cells #[.int .i64 1, .int .i64 m.f1, .int .i64 m.f2, .int .i64 m.f3, .int .i64 m.f4, .int .i64 m.f5, .int .i64 m.f6, .slice A 1 c] 27) = wc := ⟨_, rfl⟩
  rw [hwc] at M1 ⊢
  clear hwc
  have HR0 := Aside0.mk (blk_cell (M1.out.blk_at 1 rfl))
  have HM0 := Aside0.mk (blk_cell (M1.out.blk_at 0 rfl))
  have cR := HR0.out
  have cM := HM0.out
  have M1D := Aside0.mk M1.out.drew
  have FIT : Aside0 (∀ w', Below w.heap.size w w' → Calls Tryz.prog 16 #[.agg #[.int .i64 r.f0, .int .i64 r.f1, .int .i64 r.f2, .int .i64 r.f3, .int .i64 r.f4, .slice A5 r.f5.length c5, .int .i64 r.f6, .slice A7 r.f7.length c7, .slice A8 r.f8.length c8, .slice A9 r.f9.length c9, .slice A10 r.f10.length c10, .int .i64 r.f11, .int .i64 r.f12], .agg #[.int .i64 1, .int .i64 m.f1, .int .i64 m.f2, .int .i64 m.f3, .int .i64 m.f4, .int .i64 m.f5, .int .i64 m.f6, .slice A 1 c], .bool true] w' fun e w'' => ∃ m' : Msg, m'.f0 = 1 ∧ m'.f7 = lg ∧ e = .returned (.agg #[.int .i64 m'.f0, .int .i64 m'.f1, .int .i64 m'.f2, .int .i64 m'.f3, .int .i64 m'.f4, .int .i64 m'.f5, .int .i64 m'.f6, .slice A m'.f7.length c]) ∧ Mem w' w'' []) :=
    ⟨fun w' hb => by
      have q := fitted_calls r ⟨1, m.f1, m.f2, m.f3, m.f4, m.f5, m.f6, lg⟩ A5 A7 A8 A9 A10 A c5 c7 c8 c9 c10 c _ (H.out.below hb) HC.out HSB.out
      rw [HG1.out] at q
      exact q⟩
  have HS0 := Aside0.mk (show (∀ j : Nat, wc.drew.cell? ⟨w.heap.size, j, none⟩ = wc.cell? ⟨w.heap.size, j, none⟩) ∧ (∀ j : Nat, wc.drew.cell? ⟨w.heap.size + 1, j, none⟩ = wc.cell? ⟨w.heap.size + 1, j, none⟩) from ⟨fun _ => rfl, fun _ => rfl⟩)
  have H9 := HS0
  go_region_held3 (fun w' => (∀ j : Nat, w'.cell? ⟨w.heap.size, j, none⟩ = wc.cell? ⟨w.heap.size, j, none⟩) ∧ (∀ j : Nat, w'.cell? ⟨w.heap.size + 1, j, none⟩ = wc.cell? ⟨w.heap.size + 1, j, none⟩)) (first | with_reducible exact HS0.out | with_reducible exact H9.out | with_reducible exact H8.out | fail) ((first | (go_at_call 16; refine (FIT.out _ M1D.out.below).mono ?_; rintro e w1 ⟨m', h0, h7, rfl, hM⟩; have M3 := Aside0.mk (M1D.out.trans hM); have H0 := Aside0.mk h0; have H7 := Aside0.mk h7; clear hM h0 h7; have H9 := Aside0.mk (show (∀ j : Nat, w1.cell? ⟨w.heap.size, j, none⟩ = wc.cell? ⟨w.heap.size, j, none⟩) ∧ (∀ j : Nat, w1.cell? ⟨w.heap.size + 1, j, none⟩ = wc.cell? ⟨w.heap.size + 1, j, none⟩) from ⟨fun j => (blk_cell (M3.out.blk_at 1 rfl) j).trans (HR0.out j).symm, fun j => (blk_cell (M3.out.blk_at 0 rfl) j).trans (HM0.out j).symm⟩)) | (go_at_call 15; have HL' := Aside0.mk (show Kd.C kE w A m'.f7.length m'.f7 by rw [H7.out]; exact HL.out); have HLC' := Aside0.mk (show m'.f7.length ≤ c by rw [H7.out]; exact HLC.out); refine (takes_calls r m' A5 A7 A8 A9 A10 A c5 c7 c8 c9 c10 c _ (H.out.below M3.out.below) HC.out (Kd.C_below HL'.out M3.out.below) HLC'.out (fun hs hn => HT.out m' H0.out hs hn HLC'.out)).mono ?_; rintro e w2 ⟨rfl, hM⟩; have M4 := Aside0.mk (M3.out.trans hM); clear hM; have H8 := Aside0.mk (show (∀ j : Nat, w2.cell? ⟨w.heap.size, j, none⟩ = wc.cell? ⟨w.heap.size, j, none⟩) ∧ (∀ j : Nat, w2.cell? ⟨w.heap.size + 1, j, none⟩ = wc.cell? ⟨w.heap.size + 1, j, none⟩) from ⟨fun j => (blk_cell (M4.out.blk_at 1 rfl) j).trans (HR0.out j).symm, fun j => (blk_cell (M4.out.blk_at 0 rfl) j).trans (HM0.out j).symm⟩))))
  go_wp2
  go_ret
  exact ⟨rfl, Mem.sel (ps := [_, _]) (F := []) [] 2 M4.out rfl rfl⟩
theorem of1_calls (r : Rep) (m : Msg) (A5 A7 A8 A9 A10 A : Option Addr) (c5 c7 c8 c9 c10 c : Nat) (w : World) (h : RdRep w r A5 A7 A8 A9 A10) (hc : Fit r c5 c7 c8 c9 c10) (hl : Kd.C kE w A m.f7.length m.f7) (hlc : m.f7.length ≤ c) (hT : ∀ m' : Msg, m'.f0 = 1 → r.f5.length ≤ 1200 ∧ r.f7.length ≤ 20 ∧ r.f8.length ≤ 20 ∧ r.f9.length ≤ 20 ∧ r.f10.length ≤ 1200 → m'.f7.length ≤ 1200 → m'.f7.length ≤ c → TakesAs r m' A5 A7 A8 A9 A10 A c5 c7 c8 c9 c10 c) :
    Calls Tryz.prog 17 #[.agg #[.int .i64 r.f0, .int .i64 r.f1, .int .i64 r.f2, .int .i64 r.f3, .int .i64 r.f4, .slice A5 r.f5.length c5, .int .i64 r.f6, .slice A7 r.f7.length c7, .slice A8 r.f8.length c8, .slice A9 r.f9.length c9, .slice A10 r.f10.length c10, .int .i64 r.f11, .int .i64 r.f12], .agg #[.int .i64 m.f0, .int .i64 m.f1, .int .i64 m.f2, .int .i64 m.f3, .int .i64 m.f4, .int .i64 m.f5, .int .i64 m.f6, .slice A m.f7.length c], .int .i64 1] w fun e w' => e = .returned (.bool true) ∧ Mem w w' [] := by
  by_cases h5 : 1 < m.f7.length
  · exact of1_cut r m A5 A7 A8 A9 A10 A c5 c7 c8 c9 c10 c w h hc hl hlc h5 hT
  · exact of1_short r m A5 A7 A8 A9 A10 A c5 c7 c8 c9 c10 c w h hc hl hlc (by omega) hT
end Go.Proofs.YtggbjokhniigkaaGreat.Og1
/- Both Takes of an entry. -/
namespace Go.Proofs.YtggbjokhniigkaaGreat.Uc1
open Go.Proofs.YtggbjokhniigkaaGreat.Ty Go.RowKit Go.Proofs.YtggbjokhniigkaaGreatW.PrintWords Go.Proofs.YtggbjokhniigkaaGreatW.PrintLast Go.Proofs.YtggbjokhniigkaaGreatW.PrintMore Go.Proofs.YtggbjokhniigkaaGreat.Mx Go.Proofs.YtggbjokhniigkaaGreat.Kx Go.Proofs.YtggbjokhniigkaaGreat.Wa Go.Proofs.YtggbjokhniigkaaGreat.Wd Go.Proofs.YtggbjokhniigkaaGreat.Vc Go.Proofs.YtggbjokhniigkaaGreat.Wj Go.Proofs.YtggbjokhniigkaaGreat.Tk Go.Proofs.YtggbjokhniigkaaGreat.Tb Go.Proofs.YtggbjokhniigkaaGreat.Tn Go.Proofs.YtggbjokhniigkaaGreat.Tz Go.Proofs.YtggbjokhniigkaaGreat.Ua Go.Proofs.YtggbjokhniigkaaGreat.Un Go.Proofs.YtggbjokhniigkaaGreat.Ub1 Go.Proofs.YtggbjokhniigkaaGreat.Tc Go.Proofs.YtggbjokhniigkaaGreat.Td Go.Proofs.YtggbjokhniigkaaGreat.Tp Go.Proofs.YtggbjokhniigkaaGreat.Pf Go.Proofs.YtggbjokhniigkaaGreat.Ph
theorem few_of {r s : Rep} {msgs : List Msg} (hs : r.f5.length ≤ 1200 ∧ r.f7.length ≤ 20 ∧ r.f8.length ≤ 20 ∧ r.f9.length ≤ 20 ∧ r.f10.length ≤ 1200) (h5 : s.f5.length ≤ r.f5.length) (h7 : s.f7.length ≤ r.f7.length) (h8 : s.f8.length ≤ r.f8.length) (h9 : s.f9.length ≤ r.f9.length) (h10 : s.f10.length ≤ r.f10.length) (h : msgs.length ≤ 1000000000 ∧ ∀ i, (rd_Msg msgs i).f7.length ≤ 1000000000) : FewOf s msgs :=
  ⟨⟨by omega, by omega, by omega, by omega, by omega, by omega⟩, h⟩
theorem few_acc {r : Rep} {l : List Entry} {k : Int} {msgs : List Msg} (hs : r.f5.length ≤ 1200 ∧ r.f7.length ≤ 20 ∧ r.f8.length ≤ 20 ∧ r.f9.length ≤ 20 ∧ r.f10.length ≤ 1200) (hl : l.length = 1) (h : msgs.length ≤ 1000000000 ∧ ∀ i, (rd_Msg msgs i).f7.length ≤ 1000000000) : FewOf (raise { r with f5 := r.f5 ++ l } k) msgs := by
  have e : (r.f5 ++ l).length = r.f5.length + 1 := by rw [List.length_append, hl]
  refine ⟨⟨?_, ?_, ?_, ?_, ?_, ?_⟩, h⟩
  · show (r.f5 ++ l).length ≤ _
    omega
  · show (r.f5 ++ l).length ≤ _
    omega
  · show r.f7.length ≤ _
    omega
  · show r.f8.length ≤ _
    omega
  · show r.f9.length ≤ _
    omega
  · show r.f10.length ≤ _
    omega
theorem good_1 (r : Rep) (m : Msg) (A5 A7 A8 A9 A10 A : Option Addr) (c5 c7 c8 c9 c10 c : Nat) (hk : m.f0 = 1) (hc : Fit r c5 c7 c8 c9 c10) (hs : r.f5.length ≤ 1200 ∧ r.f7.length ≤ 20 ∧ r.f8.length ≤ 20 ∧ r.f9.length ≤ 20 ∧ r.f10.length ≤ 1200) (hln : m.f7.length ≤ 1200) (hlc : m.f7.length ≤ c) : TakesAs r m A5 A7 A8 A9 A10 A c5 c7 c8 c9 c10 c := by
  refine both_1 r m A5 A7 A8 A9 A10 A c5 c7 c8 c9 c10 c hk hc hs hln hlc fun h1 h2 => ?_
  have n := nums (by omega) (by omega) h1 h2
  have n0 : 0 < r.f1 := by have := n.i0; have := n.i1; omega
  have P := (may_iff r).1 h1
  have Q := may_P (by omega) (by omega) h2
  have hf1 : m.f7.length = 1 := Q.2.2.2.2.2.2.2.2.2.2.2 hk
  obtain ⟨en, hf⟩ := List.length_eq_one_iff.1 hf1
  have hlr : log r.f5 = true := P.2.2.2.2.2.2.2.2.2.1
  have hlm : log m.f7 = true := Q.2.2.2.2.2.2.2.2.2.2.1
  have hen : en.f0 < maxTime ∧ en.f1.size ≤ 20000 := by
    rw [hf] at hlm
    unfold log rises rises at hlm
    simp only [Bool.and_eq_true, decide_eq_true_eq] at hlm
    exact ⟨hlm.1.1.1.2, hlm.1.1.2⟩
  have hsn := Pe.log_snoc r.f5 en hlr hen.1 hen.2
  rw [← hf] at hsn
  clear P Q hlm
  by_cases a1 : m.f3 < r.f2
  · exact ⟨r, [], few_same hs, fun w0 w F g v5 v7 v8 v9 v10 hM hl => prep_n1 w0 w F g r m v5 v7 v8 v9 v10 A c hM n.v0 n.v1 n0 n.n5 a1, fun w0 w F g v5 v7 v8 v9 v10 hM hl => prep11_n1 w0 w F g r m v5 v7 v8 v9 v10 A c hM n.v0 n.v1 n0 n.n5 a1⟩
  by_cases a2 : m.f3 % r.f1 = m.f1
  case neg => exact ⟨r, [], few_same hs, fun w0 w F g v5 v7 v8 v9 v10 hM hl => prep_n2 w0 w F g r m v5 v7 v8 v9 v10 A c hM n.v0 n.v1 n0 n.n5 a1 a2, fun w0 w F g v5 v7 v8 v9 v10 hM hl => prep11_n2 w0 w F g r m v5 v7 v8 v9 v10 A c hM n.v0 n.v1 n0 n.n5 a1 a2⟩
  by_cases a3 : r.f2 < m.f3
  · exact ⟨{ clear r with f2 := m.f3, f4 := 2 }, _, few_of hs (Nat.le_refl _) (Nat.le_refl _) (Nat.zero_le _) (Nat.zero_le _) (Nat.zero_le _) (msgs_one (Nat.zero_le _)), fun w0 w F g v5 v7 v8 v9 v10 hM hl => prep_a1 w0 w F g r m v5 v7 v8 v9 v10 A c hM n.v0 n.v1 n0 n.n5 a1 a2 a3 _ rfl, fun w0 w F g v5 v7 v8 v9 v10 hM hl => prep11_a1 w0 w F g r m v5 v7 v8 v9 v10 A c hM n.v0 n.v1 n0 n.n5 a1 a2 a3 _ rfl⟩
  by_cases a4 : r.f4 = 0
  case neg => exact ⟨{ clear r with f2 := m.f3, f4 := 2 }, _, few_of hs (Nat.le_refl _) (Nat.le_refl _) (Nat.zero_le _) (Nat.zero_le _) (Nat.zero_le _) (msgs_one (Nat.zero_le _)), fun w0 w F g v5 v7 v8 v9 v10 hM hl => prep_a2 w0 w F g r m v5 v7 v8 v9 v10 A c hM n.v0 n.v1 n0 n.n5 a1 a2 a3 a4 _ rfl, fun w0 w F g v5 v7 v8 v9 v10 hM hl => prep11_a2 w0 w F g r m v5 v7 v8 v9 v10 A c hM n.v0 n.v1 n0 n.n5 a1 a2 a3 a4 _ rfl⟩
  by_cases a5 : m.f4 ≤ (r.f5.length : Int)
  · exact ⟨raise r m.f5, _, few_of hs (Nat.le_refl _) (Nat.le_refl _) (Nat.le_refl _) (Nat.le_refl _) (Nat.le_refl _) (msgs_one (Nat.zero_le _)), fun w0 w F g v5 v7 v8 v9 v10 hM hl => prep_low w0 w F g r m v5 v7 v8 v9 v10 A c hM hl hf1 hs.1 n.v0 n.v1 n0 n.n5 hk a1 a2 a3 a4 a5 _ rfl, fun w0 w F g v5 v7 v8 v9 v10 hM hl => by
    obtain ⟨aE, eA, _⟩ := hl.2.2 (by omega)
    subst eA
    exact prep11_low w0 w F g r m v5 v7 v8 v9 v10 aE c hM hl en hf hs.1 n.c1 n.v0 n.v1 n0 n.n5 hk a1 a2 a3 a4 a5 _ rfl⟩
  by_cases a6 : m.f4 = (r.f5.length : Int) + 1
  case neg =>
    have a7 : (r.f5.length : Int) + 1 < m.f4 := by omega
    exact ⟨raise r m.f5, _, few_of hs (Nat.le_refl _) (Nat.le_refl _) (Nat.le_refl _) (Nat.le_refl _) (Nat.le_refl _) (msgs_one (Nat.zero_le _)), fun w0 w F g v5 v7 v8 v9 v10 hM hl => prep_high w0 w F g r m v5 v7 v8 v9 v10 A c hM hl hf1 hs.1 n.v0 n.v1 n0 n.n5 hk a1 a2 a3 a4 a7 _ rfl, fun w0 w F g v5 v7 v8 v9 v10 hM hl => by
    obtain ⟨aE, eA, _⟩ := hl.2.2 (by omega)
    subst eA
    exact prep11_high w0 w F g r m v5 v7 v8 v9 v10 aE c hM hl en hf hs.1 n.c1 n.v0 n.v1 n0 n.n5 hk a1 a2 a3 a4 a7 _ rfl⟩
  by_cases b1 : lastTime r.f5 < en.f0
  case neg =>
    have hb : log (r.f5 ++ m.f7) = false := by rw [hsn, decide_eq_false b1]; rfl
    exact ⟨raise r m.f5, _, few_of hs (Nat.le_refl _) (Nat.le_refl _) (Nat.le_refl _) (Nat.le_refl _) (Nat.le_refl _) (msgs_one (Nat.zero_le _)), fun w0 w F g v5 v7 v8 v9 v10 hM hl => prep_rej w0 w F g r m v5 v7 v8 v9 v10 A c hM hl hf1 hs.1 n.v0 n.v1 n0 n.n5 hk a1 a2 a3 a4 a6 hb _ rfl, fun w0 w F g v5 v7 v8 v9 v10 hM hl => by
    obtain ⟨aE, eA, _⟩ := hl.2.2 (by omega)
    subst eA
    exact prep11_rej1 w0 w F g r m v5 v7 v8 v9 v10 aE c hM hl en hf hs.1 n.c1 n.v0 n.v1 n0 n.n5 hk a1 a2 a3 a4 a6 b1 _ rfl⟩
  by_cases b2 : r.f5.length < 1000
  case neg =>
    have hb : log (r.f5 ++ m.f7) = false := by rw [hsn, decide_eq_false b2, Bool.and_false]
    exact ⟨raise r m.f5, _, few_of hs (Nat.le_refl _) (Nat.le_refl _) (Nat.le_refl _) (Nat.le_refl _) (Nat.le_refl _) (msgs_one (Nat.zero_le _)), fun w0 w F g v5 v7 v8 v9 v10 hM hl => prep_rej w0 w F g r m v5 v7 v8 v9 v10 A c hM hl hf1 hs.1 n.v0 n.v1 n0 n.n5 hk a1 a2 a3 a4 a6 hb _ rfl, fun w0 w F g v5 v7 v8 v9 v10 hM hl => by
    obtain ⟨aE, eA, _⟩ := hl.2.2 (by omega)
    subst eA
    exact prep11_rej2 w0 w F g r m v5 v7 v8 v9 v10 aE c hM hl en hf hs.1 n.c1 n.v0 n.v1 n0 n.n5 hk a1 a2 a3 a4 a6 b1 b2 _ rfl⟩
  have hb : log (r.f5 ++ m.f7) = true := by rw [hsn, decide_eq_true b1, decide_eq_true b2]; rfl
  exact ⟨raise { r with f5 := r.f5 ++ m.f7 } m.f5, _, few_acc hs hf1 (msgs_one (Nat.zero_le _)), fun w0 w F g v5 v7 v8 v9 v10 hM hl => prep_acc w0 w F g r m v5 v7 v8 v9 v10 A c hM hl hf1 hs.1 n.v0 n.v1 n0 n.n5 hk a1 a2 a3 a4 a6 hb _ rfl, fun w0 w F g v5 v7 v8 v9 v10 hM hl => by
    obtain ⟨aE, eA, _⟩ := hl.2.2 (by omega)
    subst eA
    exact prep11_acc w0 w F g r m v5 v7 v8 v9 v10 aE c hM hl en hf hs.1 n.c1 n.v0 n.v1 n0 n.n5 hk a1 a2 a3 a4 a6 b1 b2 _ (by rw [hf])⟩
end Go.Proofs.YtggbjokhniigkaaGreat.Uc1
/- Walks: the law ReplicaPrepares. -/
namespace Go.Proofs.YtggbjokhniigkaaGreat.Lv1
open Go.Proofs.YtggbjokhniigkaaGreat.Ty Go.RowKit Go.Proofs.YtggbjokhniigkaaGreatW.PrintWords Go.Proofs.YtggbjokhniigkaaGreatW.PrintLast Go.Proofs.YtggbjokhniigkaaGreatW.PrintMore Go.Proofs.YtggbjokhniigkaaGreat.Mx Go.Proofs.YtggbjokhniigkaaGreat.Kx Go.Proofs.YtggbjokhniigkaaGreat.Wd Go.Proofs.YtggbjokhniigkaaGreat.Vc Go.Proofs.YtggbjokhniigkaaGreat.Og1 Go.Proofs.YtggbjokhniigkaaGreat.Uc1
set_option linter.unusedVariables false
set_option maxRecDepth 100000 in
set_option maxHeartbeats 4000000 in
theorem law_calls (r : Rep) (m : Msg) (A5 A7 A8 A9 A10 A : Option Addr) (c5 c7 c8 c9 c10 c : Nat) (w : World) (h : RdRep w r A5 A7 A8 A9 A10) (hc : Fit r c5 c7 c8 c9 c10) (hl : Kd.C kE w A m.f7.length m.f7) (hlc : m.f7.length ≤ c) :
    Calls Tryz.prog 4 #[.agg #[.int .i64 r.f0, .int .i64 r.f1, .int .i64 r.f2, .int .i64 r.f3, .int .i64 r.f4, .slice A5 r.f5.length c5, .int .i64 r.f6, .slice A7 r.f7.length c7, .slice A8 r.f8.length c8, .slice A9 r.f9.length c9, .slice A10 r.f10.length c10, .int .i64 r.f11, .int .i64 r.f12], .agg #[.int .i64 m.f0, .int .i64 m.f1, .int .i64 m.f2, .int .i64 m.f3, .int .i64 m.f4, .int .i64 m.f5, .int .i64 m.f6, .slice A m.f7.length c]] w fun e w' => e = .returned (.bool true) ∧ Mem w w' [] := by
  have H := Aside0.mk h
  have HC := Aside0.mk hc
  have HL := Aside0.mk hl
  have HLC := Aside0.mk hlc
  have M1 := Aside0.mk (((Mem.nil w).allocAt #[.int .i64 r.f0, .int .i64 r.f1, .int .i64 r.f2, .int .i64 r.f3, .int .i64 r.f4, .slice A5 r.f5.length c5, .int .i64 r.f6, .slice A7 r.f7.length c7, .slice A8 r.f8.length c8, .slice A9 r.f9.length c9, .slice A10 r.f10.length c10, .int .i64 r.f11, .int .i64 r.f12] 25 w.heap.size rfl).allocAt #[.int .i64 m.f0, .int .i64 m.f1, .int .i64 m.f2, .int .i64 m.f3, .int .i64 m.f4, .int .i64 m.f5, .int .i64 m.f6, .slice A m.f7.length c] 27 (w.heap.size + 1) (by simp))
  clear h hc hl hlc
  go_enter Tryz.func4, Tryz.ntmps4
  go_wp2_with fail
  refine (Og1.of1_calls r m A5 A7 A8 A9 A10 A c5 c7 c8 c9 c10 c _ (H.out.below M1.out.below) HC.out (Kd.C_below HL.out M1.out.below) HLC.out  (fun m' hk hs hn hlc' => good_1 r m' A5 A7 A8 A9 A10 A c5 c7 c8 c9 c10 c hk HC.out hs hn hlc')).mono ?_
  rintro e w1 ⟨rfl, hM⟩
  have M2 := Aside0.mk (M1.out.trans hM)
  clear hM
  go_wp2
  go_ret
  exact ⟨rfl, Mem.sel (ps := [_, _]) (F := []) [] 2 M2.out rfl rfl⟩
end Go.Proofs.YtggbjokhniigkaaGreat.Lv1
/- Whatever the replica and the message are, ReplicaPrepares answers true, and what was handed in reads as it did. No condition. -/
namespace Go.Proofs.YtggbjokhniigkaaGreat.LawPrepares
open Go.ChangeShapes Go.WideShapes Go.ChangeAt Go.RowKit Go.Proofs.YtggbjokhniigkaaGreatW.PrintWords Go.Proofs.YtggbjokhniigkaaGreat.Or Go.Proofs.YtggbjokhniigkaaGreat.Lv1 Go.Proofs.YtggbjokhniigkaaGreat.Vc Go.Proofs.YtggbjokhniigkaaGreat.Wd Go.Proofs.YtggbjokhniigkaaGreat.Mx
set_option linter.unusedVariables false
theorem own : ownKnob Tryz.prog.godebug = none := by kernel_rfl
theorem laidOut : laidOutB Tryz.prog = true := by kernel_rfl
set_option maxRecDepth 100000 in
theorem lifted (os : Os) (started : os.Started) (H : Type) (enc : TypeId × Value → H) :
    ReturnsInHanded {} Tryz.checked os 4 .any (Rows.replicaPreparesSpec.pre6 enc Tryz.prog Tryz.f4 Rows.replicaPreparesRow.domain false) (Rows.replicaPreparesSpec.post enc Tryz.prog Tryz.f4 false true false false) := by
  refine returnsInHanded_of_change (C := Tryz.checked) own started (by kernel_rfl) Tryz.func4
    (ChangeSpec.witness6 (enc := enc) (C := Tryz.checked) false ⟨#[], #[.agg #[.int .i64 0, .int .i64 0, .int .i64 0, .int .i64 0, .int .i64 0, .slice none 0 0, .int .i64 0, .slice none 0 0, .slice none 0 0, .slice none 0 0, .slice none 0 0, .int .i64 0, .int .i64 0], .agg #[.int .i64 0, .int .i64 0, .int .i64 0, .int .i64 0, .int .i64 0, .int .i64 0, .int .i64 0, .slice none 0 0]], []⟩ 8 (by kernel_rfl) (by kernel_rfl) (by kernel_rfl) (by kernel_rfl)) ?_
  intro W base args ds gs before hval0 hW hcnd _
  have hval : ∀ (j : Nat) t v, Tryz.f4.params[j]? = some t → args[j]? = some v → Value.okWide Tryz.prog W .any base t v := hval0
  have hW' := hW
  obtain ⟨p, q, hA0, hV, rfl, hfz, hnd⟩ := hW
  have hA : DataW.TrodAll enc Tryz.prog W 0 (fun _ => true) true Tryz.f4.params.toList args.toList ds p := hA0
  rw [Tryz.params4] at hA hval
  obtain ⟨v0, v1, d0, d1, p0, p1, rfl, rfl, rfl, h0, h1⟩ := trodAll_two hA
  obtain ⟨rfl, rfl⟩ := trodVars_none hV
  have k0 := h0
  have lt0 : ∀ x ∈ p0, x.block < W.heap.size := by obtain ⟨m, hm⟩ := k0; exact DataW.trod_lt m _ _ _ hm
  have k1 := h1
  have lt1 : ∀ x ∈ p1, x.block < W.heap.size := by obtain ⟨m, hm⟩ := k1; exact DataW.trod_lt m _ _ _ hm
  obtain ⟨r, A5, c5, A7, c7, A8, c8, A9, c9, A10, c10, rfl, l5, g5, l7, g7, l8, g8, l9, g9, l10, g10⟩ := open_rep (hval 0 25 v0 rfl rfl) h0
  obtain ⟨m, A, c, rfl, l1, g1⟩ := open_msg (hval 1 27 v1 rfl rfl) h1
  clear hA0 hval0
  refine (Lv1.law_calls r m A5 A7 A8 A9 A10 A c5 c7 c8 c9 c10 c W ⟨g5, g7, g8, g9, g10⟩ ⟨l5, l7, l8, l9, l10⟩ g1 l1).mono fun e W' ⟨he, hM⟩ => ?_
  subst he
  have bel := hM.below
  exact ⟨_, rfl, _, _, _, [], _, [], hW', trodAll_mk1 (shut_bool Tryz.underlying4 _), (trodAll_cons_mk (Below.trod laidOut (by kernel_rfl) (of_decide_eq_true (by kernel_rfl)) k0 bel lt0) (trodAll_cons_mk (Below.trod laidOut (by kernel_rfl) (of_decide_eq_true (by kernel_rfl)) k1 bel lt1) trodAll_mk0)), rfl, bel.frame _, fun h => by cases h⟩
theorem over : Rows.replicaPreparesRow.holds Tryz.pinned (OpenSpec.ofChange Rows.replicaPreparesSpec) :=
  OpenClaim.holds_of_wide 4 Tryz.f4 rfl rfl rfl rfl rfl rfl rfl ⟨rfl, rfl, rfl, rfl, rfl⟩ rfl rfl rfl rfl rfl (by kernel_rfl) Tryz.func4 (by kernel_rfl)
    (of_decide_eq_true (by kernel_rfl)) (by unfold Func.isWrapper; first | (rw [if_pos (by decide +kernel)]; kernel_rfl) | (rw [if_neg (by decide +kernel)]; exact ⟨rfl, rfl⟩))
    (fun os started H enc _ => lifted os started H enc)
theorem proved : Rows.ReplicaPreparesSaid := over
#print axioms proved
end Go.Proofs.YtggbjokhniigkaaGreat.LawPrepares
namespace Go.Proofs.YtggbjokhniigkaaGreat
theorem replicaPrepares_holds : Rows.ReplicaPreparesSaid := LawPrepares.proved
end Go.Proofs.YtggbjokhniigkaaGreat

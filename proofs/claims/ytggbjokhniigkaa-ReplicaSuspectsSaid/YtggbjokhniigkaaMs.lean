/- Walks: two equal logs, two equal lists of messages, are found to be so. -/
import Derived.Test.YtggbjokhniigkaaMem
import Derived.Test.YtggbjokhniigkaaKind
import Derived.Test.YtggbjokhniigkaaWEqStruct
import Derived.Deep.LoopGhost
import Derived.OrdersHeld
namespace Go.Proofs.Ytggbjokhniigkaa.Ms
open Go.Proofs.Ytggbjokhniigkaa.Ty Go.RowKit Go.Proofs.YtggbjokhniigkaaW.PrintWords Go.Proofs.YtggbjokhniigkaaW.PrintLast Go.Proofs.YtggbjokhniigkaaW.PrintMore Go.Proofs.Ytggbjokhniigkaa.Mx Go.Proofs.Ytggbjokhniigkaa.Kx
set_option linter.unusedVariables false
set_option linter.unusedSimpArgs false

theorem eqEntry (d : Nat) (w : World) (x0 y0 : Int) (x1 y1 : ByteArray) :
    (Op.equalIn (d + 2) 102 (.agg #[.int .i64 x0, .string x1]) (.agg #[.int .i64 y0, .string y1])).run Try.prog w = .ok (x0 == y0 && (x1.toList == y1.toList)) w := by
  refine eqA_of Try.underlying102 (by kernel_rfl) ?_
  refine eqf_cons (by rfl) (by go_simp; rfl) (by go_simp; rfl) (by go_simp) ?_
  exact eqf_last (by rfl) (by go_simp; rfl) (by go_simp; rfl) (by go_simp)
attribute [local go_sem high] eqEntry
set_option maxRecDepth 100000 in
set_option maxHeartbeats 4000000 in
theorem logs_calls (A B : Option Addr) (c d : Nat) (l : List Entry) (w : World) (hl : Kd.C kE w A l.length l) (hm : Kd.C kE w B l.length l) (hn : l.length ≤ 1000000000) :
    Calls Try.prog 50 #[.slice A l.length c, .slice B l.length d] w fun e w' => e = .returned (.bool true) ∧ Drawn0 w w' := by
  have hu := Try.underlying102
  have HL := Aside0.mk hl
  have HM := Aside0.mk hm
  clear hl hm
  have c3b0 : ((l.length : Int) == (l.length : Int)) = true := by simp
  have c3b1 : ((l.length : Int) != (l.length : Int)) = false := by simp
  go_enter Try.func50, Try.ntmps50
  go_wp2
  repeat (go_quiet (fail); try go_wp2)
  go_loopg [5] (l.length + 1) (fun kq v5 w' => ∃ (k : Nat), v5 = .int .i64 k ∧ Aside0 (k ≤ l.length ∧ kq = l.length + 1 - k) ∧ Drawn0 w w')
  case atStart => exact ⟨0, rfl, ⟨Nat.zero_le _, rfl⟩, by repeat (first | exact Drawn0.refl _ | apply Drawn0.step)⟩
  case round =>
    obtain ⟨k, rfl, HK, ⟨m1, rfl⟩⟩ := hrel
    by_cases hlt : k < l.length
    · obtain ⟨ad, e, hx0, hx1⟩ := at_Entry HL.out (k : Int) (by omega) (by omega)
      cases e
      obtain ⟨ae, e, hy0, hy1⟩ := at_Entry HM.out (k : Int) (by omega) (by omega)
      cases e
      simp only [Int.toNat_natCast] at hx0 hx1 hy0 hy1
      have p1 : (0 ≤ (k : Int)) = True := eq_true (by omega)
      have q1 : ((k : Int) < (l.length : Int)) = True := eq_true (by omega)
      have q2 : decide ((k : Int) < (l.length : Int)) = true := decide_eq_true (by omega)
      go_wp2
      go_quiet (fail)
      try go_wp2
      go_roundg (l.length - k)
      case measure => have := HK.out; omega
      case rel => exact ⟨k + 1, by go_num, ⟨by omega, by have := HK.out; omega⟩, by repeat (first | exact Drawn0.refl _ | apply Drawn0.step)⟩
    · have hk : k = l.length := by have := HK.out.1; omega
      subst hk
      go_wp2
      go_ret
      exact ⟨rfl, by repeat (first | exact Drawn0.refl _ | apply Drawn0.step)⟩
set_option maxRecDepth 100000 in
set_option maxHeartbeats 4000000 in
theorem messages_calls (A B : Option Addr) (c d : Nat) (l : List Msg) (w : World) (hl : Kd.C kM w A l.length l) (hm : Kd.C kM w B l.length l) (hn : l.length ≤ 1000000000) (hs : ∀ i, (rd_Msg l i).f7.length ≤ 1000000000) :
    Calls Try.prog 18 #[.slice A l.length c, .slice B l.length d] w fun e w' => e = .returned (.bool true) ∧ Mem w w' [] := by
  have hu := Try.underlying29
  have HL := Aside0.mk hl
  have HM := Aside0.mk hm
  have HS := Aside0.mk hs
  have M0 := Aside0.mk (Mem.nil w)
  clear hl hm hs
  have c3b0 : ((l.length : Int) == (l.length : Int)) = true := by simp
  have c3b1 : ((l.length : Int) != (l.length : Int)) = false := by simp
  go_enter Try.func18, Try.ntmps18
  go_wp2
  go_loopg [5] (l.length + 1) (fun kq v5 w' => ∃ (k : Nat), v5 = .int .i64 k ∧ Aside0 (k ≤ l.length ∧ kq = l.length + 1 - k) ∧ Aside0 (Mem w w' []))
  case atStart => exact ⟨0, rfl, ⟨Nat.zero_le _, rfl⟩, M0⟩
  case round =>
    obtain ⟨k, rfl, HK, M1⟩ := hrel
    rename_i _ w1
    by_cases hlt : k < l.length
    · obtain ⟨ad, A7, c7, e, hx0, hx1, hx2, hx3, hx4, hx5, hx6, hx7, lx7, ix7⟩ := at_Msg HL.out (k : Int) (by omega) (by omega)
      cases e
      obtain ⟨ae, B7, d7, e, hy0, hy1, hy2, hy3, hy4, hy5, hy6, hy7, ly7, iy7⟩ := at_Msg HM.out (k : Int) (by omega) (by omega)
      cases e
      have hs1 := HS.out (k : Int)
      simp only [Int.toNat_natCast] at hx0 hx1 hx2 hx3 hx4 hx5 hx6 hx7 hy0 hy1 hy2 hy3 hy4 hy5 hy6 hy7
      replace hx0 := (M1.out.below.cell (World.block_lt_of_cell? w _ hx0)).trans hx0
      replace hx1 := (M1.out.below.cell (World.block_lt_of_cell? w _ hx1)).trans hx1
      replace hx2 := (M1.out.below.cell (World.block_lt_of_cell? w _ hx2)).trans hx2
      replace hx3 := (M1.out.below.cell (World.block_lt_of_cell? w _ hx3)).trans hx3
      replace hx4 := (M1.out.below.cell (World.block_lt_of_cell? w _ hx4)).trans hx4
      replace hx5 := (M1.out.below.cell (World.block_lt_of_cell? w _ hx5)).trans hx5
      replace hx6 := (M1.out.below.cell (World.block_lt_of_cell? w _ hx6)).trans hx6
      replace hx7 := (M1.out.below.cell (World.block_lt_of_cell? w _ hx7)).trans hx7
      replace hy0 := (M1.out.below.cell (World.block_lt_of_cell? w _ hy0)).trans hy0
      replace hy1 := (M1.out.below.cell (World.block_lt_of_cell? w _ hy1)).trans hy1
      replace hy2 := (M1.out.below.cell (World.block_lt_of_cell? w _ hy2)).trans hy2
      replace hy3 := (M1.out.below.cell (World.block_lt_of_cell? w _ hy3)).trans hy3
      replace hy4 := (M1.out.below.cell (World.block_lt_of_cell? w _ hy4)).trans hy4
      replace hy5 := (M1.out.below.cell (World.block_lt_of_cell? w _ hy5)).trans hy5
      replace hy6 := (M1.out.below.cell (World.block_lt_of_cell? w _ hy6)).trans hy6
      replace hy7 := (M1.out.below.cell (World.block_lt_of_cell? w _ hy7)).trans hy7
      have bA : (ad.add (k * 8)).block < wr.heap.size := World.block_lt_of_cell? wr _ hx0
      have bB : (ae.add (k * 8)).block < wr.heap.size := World.block_lt_of_cell? wr _ hy0
      have nA3 : ¬ (ad.add (k * 8)).block = wr.heap.size := by omega
      have nB3 : ¬ (ae.add (k * 8)).block = wr.heap.size := by omega
      have nA4 : ¬ (ad.add (k * 8)).block = wr.heap.size + 1 := by omega
      have nB4 : ¬ (ae.add (k * 8)).block = wr.heap.size + 1 := by omega
      have IX := Aside0.mk ix7
      have IY := Aside0.mk iy7
      have LX := Aside0.mk lx7
      have LY := Aside0.mk ly7
      clear ix7 iy7 lx7 ly7
      generalize rd_Msg l (k : Int) = m at *
      have q2 : decide ((k : Int) < (l.length : Int)) = true := decide_eq_true (by omega)
      have q1 : ((k : Int) < (l.length : Int)) = True := eq_true (by omega)
      go_wp2_with fail
      go_region
      · have M2 := Aside0.mk (((M1.out.allocAt #[.int .i64 m.f0, .int .i64 m.f1, .int .i64 m.f2, .int .i64 m.f3, .int .i64 m.f4, .int .i64 m.f5, .int .i64 m.f6, .slice A7 m.f7.length c7] 29 _ rfl).allocAt #[.int .i64 m.f0, .int .i64 m.f1, .int .i64 m.f2, .int .i64 m.f3, .int .i64 m.f4, .int .i64 m.f5, .int .i64 m.f6, .slice B7 m.f7.length d7] 29 (wr.heap.size + 1) (by simp)).drew)
        go_wp2_with fail
        refine (logs_calls _ _ _ _ m.f7 _ (Kd.C_below IX.out M2.out.below) (Kd.C_below IY.out M2.out.below) hs1).mono ?_
        rintro e w2 ⟨rfl, hD⟩
        have M3 := Aside0.mk (M2.out.drawn hD)
        clear hD M2
        go_wp2
        go_roundg (l.length - k)
        case measure => have := HK.out; omega
        case rel => exact ⟨k + 1, by go_num, ⟨by omega, by have := HK.out; omega⟩, ⟨Mem.sel (ps := [_, _]) (F := []) [] 2 M3.out rfl rfl⟩⟩
      · have M2 := Aside0.mk (((M1.out.allocAt #[.int .i64 m.f0, .int .i64 m.f1, .int .i64 m.f2, .int .i64 m.f3, .int .i64 m.f4, .int .i64 m.f5, .int .i64 m.f6, .slice B7 m.f7.length d7] 29 _ rfl).allocAt #[.int .i64 m.f0, .int .i64 m.f1, .int .i64 m.f2, .int .i64 m.f3, .int .i64 m.f4, .int .i64 m.f5, .int .i64 m.f6, .slice A7 m.f7.length c7] 29 (wr.heap.size + 1) (by simp)).drew)
        go_wp2_with fail
        refine (logs_calls _ _ _ _ m.f7 _ (Kd.C_below IX.out M2.out.below) (Kd.C_below IY.out M2.out.below) hs1).mono ?_
        rintro e w2 ⟨rfl, hD⟩
        have M3 := Aside0.mk (M2.out.drawn hD)
        clear hD M2
        go_wp2
        go_roundg (l.length - k)
        case measure => have := HK.out; omega
        case rel => exact ⟨k + 1, by go_num, ⟨by omega, by have := HK.out; omega⟩, ⟨Mem.sel (ps := [_, _]) (F := []) [] 2 M3.out rfl rfl⟩⟩
    · have hk : k = l.length := by have := HK.out.1; omega
      subst hk
      go_wp2
      go_ret
      exact ⟨rfl, M1.out⟩
end Go.Proofs.Ytggbjokhniigkaa.Ms

/- Texts laid together: Co, Pe, Tp. No condition. -/
import Derived.Lib.AppendZeros
import Derived.Lib.AppendZerosOnto
import Derived.Deep.LoopGhost
import Derived.Test.YtggbjokhniigkaaYGz9
import Derived.Test.YtggbjokhniigkaaYGz12
set_option linter.unusedVariables false
set_option linter.unusedSimpArgs false
set_option maxRecDepth 100000
set_option maxHeartbeats 8000000
namespace Go.Proofs.Ytggbjokhniigkaa.Co
open Ty Go.RowKit YtggbjokhniigkaaW.PrintWords YtggbjokhniigkaaW.PrintLast YtggbjokhniigkaaW.PrintMore Mx Kx Wa Wb
theorem row_nil_ {w0 w : World} {rs : List Res} {α : Type} (h : Mem w0 w rs) (d : Kd α) (e : Nat) : Mem w0 w (row d e (.slice none 0 0) [] :: rs) := h.cons (Below.refl _ _) (Kd.R_nil _ _ _ _ _)
/-- A block with room is a row of nothing. -/
theorem row_room {w0 w : World} {rs : List Res} (h : Mem w0 w rs) (i : Nat) {g c : Nat} {cs : Array Value} (hi : rs[i]? = some (blk g 102 cs)) (hs : cs.size = c * 2) (hc : c ≤ maxLen) : Mem w0 w (rs.set i (row kE 102 (.slice (some ⟨g, 0, none⟩) 0 c) [])) := by
  refine h.imp hi _ (fun f hf => ⟨fun k hk => ?_, [], ⟨rfl, .inr ⟨g, c, cs, rfl, Nat.zero_le _, hf.1, Nat.zero_le _, hc, hs, rfl⟩⟩, Reps.none _ _⟩)
  have : g = k := by simpa [Value.ownBlock] using hk
  subst this
  exact hf.2
theorem grow_calls (n : Nat) (w : World) (hn : n ≤ 2000000) :
    Calls Try.prog 117 #[.slice none 0 0, .int .i64 n] w fun e w' => ∃ v : Value, e = .returned v ∧ Mem w w' [row kE 102 v []] := by
  have h1 : ¬ ((n : Int) < 0) := by omega
  have h2 : wrap64 ((0 : Int) - 0) = 0 := by unfold wrap64; omega
  have h3 : wrap64 ((n : Int) - 0) = (n : Int) := by unfold wrap64; omega
  by_cases h0 : n = 0
  · subst h0
    go_enter Try.func117, Try.ntmps117
    go_wp2
    go_ret
    exact ⟨_, rfl, row_nil_ (Mem.nil w) kE 102⟩
  · have hp : 0 < n := by omega
    obtain ⟨i0, hi0, hz0, hs0, hb0⟩ := info_parts infoEntry
    have hrz : ∀ ty, (Builtin.append_ #[27, 3] ty #[.slice none 0 0, .int .i64 (n : Int)]).run Try.prog w =
        .ok (.slice (some ⟨w.heap.size, 0, none⟩) n (grownCap w n 0 102)) (w.drew.alloc (.cells (Builtin.zeroCells (Value.agg #[.int .i64 0, .string ⟨#[]⟩]).cells n ++ Builtin.zeroCells (Value.agg #[.int .i64 0, .string ⟨#[]⟩]).cells (grownCap w n 0 102 - n)) 102)) := fun ty =>
      Lib.run_append_nil_zeros w 27 3 ty 102 i0 _ .i64 .i64 Try.underlying27 Try.underlying3 hi0 hz0 n hp (by rw [hs0]; decide) (by omega) (by rw [hb0]; omega)
    have hG : n ≤ grownCap w n 0 102 := grownCap_ge w _ _ _
    have hGm : grownCap w n 0 102 ≤ maxLen := grownCap_le_maxLen w n 0 102 (by unfold maxLen; omega)
    generalize grownCap w n 0 102 = Gc at hrz hG hGm
    have M1 := Aside0.mk ((Mem.nil w).drew.allocAt (Builtin.zeroCells (Value.agg #[.int .i64 0, .string ⟨#[]⟩]).cells n ++ Builtin.zeroCells (Value.agg #[.int .i64 0, .string ⟨#[]⟩]).cells (Gc - n)) 102 w.heap.size rfl)
    have hsz : (Builtin.zeroCells (Value.agg #[.int .i64 0, .string ⟨#[]⟩]).cells n ++ Builtin.zeroCells (Value.agg #[.int .i64 0, .string ⟨#[]⟩]).cells (Gc - n)).size = Gc * 2 := by
      simp only [Array.size_append, size_zeroCells]
      have e1 : (Value.agg #[.int .i64 0, .string ⟨#[]⟩]).cells.size = 2 := rfl
      rw [e1, ← Nat.add_mul]
      congr 1
      omega
    have HSZ := Aside0.mk hsz
    have HGM := Aside0.mk hGm
    have h4 : (n : Int) > 0 := by omega
    have h5 : ((0 : Int) < (n : Int)) = True := eq_true (by omega)
    have hc63 : Gc ≤ 9223372036854775807 := by unfold maxLen at hGm; exact hGm
    clear hsz hi0 hz0 hs0 hb0 h0 hGm
    go_enter Try.func117, Try.ntmps117
    go_wp2_with (at_builtin; refine Lib.wpList_append_run _ rfl _ _ _ _ rfl _ _ rfl rfl _ _ (hrz _) ?_)
    go_ret
    exact ⟨_, rfl, row_room M1.out 0 rfl HSZ.out HGM.out⟩
/-- How many are in the first k. -/
def sz (a b : Nat) : Nat → Nat
  | 0 => 0
  | 1 => a
  | _ => a + b
def part {α : Type} (a b : List α) : Nat → List α
  | 0 => []
  | 1 => a
  | _ => a ++ b
theorem concat_calls (gb : Nat) (A1 A2 : Option Addr) (c1 c2 : Nat) (l1 l2 : List Entry) (w : World) (hb : w.heap[gb]? = some (.cells #[.slice A1 l1.length c1, .slice A2 l2.length c2] 27 (0, 0))) (h1 : Kd.C kE w A1 l1.length l1) (h2 : Kd.C kE w A2 l2.length l2) (n1 : l1.length ≤ 1000000) (n2 : l2.length ≤ 1000000) :
    Calls Try.prog 111 #[.slice (some ⟨gb, 0, none⟩) 2 2] w fun e w' => ∃ v : Value, e = .returned v ∧ Mem w w' [row kE 102 v (l1 ++ l2)] := by
  have HB := Aside0.mk hb
  have H1 := Aside0.mk h1
  have H2 := Aside0.mk h2
  have HN := Aside0.mk (show l1.length ≤ 1000000 ∧ l2.length ≤ 1000000 from ⟨n1, n2⟩)
  have M0 := Aside0.mk (Mem.nil w)
  have hlt := blk_lt hb
  have HLT := Aside0.mk hlt
  clear hb h1 h2
  have cB := blk_cell HB.out
  go_enter Try.func111, Try.ntmps111
  go_wp2
  go_loopg [11, 3] 3 (fun kq v11 v3 w' => ∃ (k : Nat), v11 = .int .i64 k ∧ v3 = .int .i64 (sz l1.length l2.length k : Nat) ∧ Aside0 (k ≤ 2 ∧ kq = 3 - k) ∧ w = w')
  case atStart => exact ⟨0, rfl, rfl, ⟨by omega, rfl⟩, rfl⟩
  case round =>
    obtain ⟨k, rfl, rfl, HK, hww⟩ := hrel
    subst hww
    have hk3 : k = 0 ∨ k = 1 ∨ k = 2 := by have := HK.out; omega
    rcases hk3 with rfl | rfl | rfl
    · simp only [sz]
      have e1 : wrap64 (0 + (l1.length : Int)) = (l1.length : Int) := by unfold wrap64; omega
      have e2 : ¬ ((l1.length : Int) < 0) := by omega
      go_wp2
      go_roundg 2
      case measure => have := HK.out; omega
      case rel => exact ⟨1, by first | rfl | go_num, by first | rfl | rw [e1], ⟨by omega, by omega⟩, rfl⟩
    · simp only [sz]
      have e1 : wrap64 ((l1.length : Int) + (l2.length : Int)) = ((l1.length + l2.length : Nat) : Int) := by unfold wrap64; omega
      have e2 : ¬ (((l1.length + l2.length : Nat) : Int) < 0) := by omega
      go_wp2
      go_roundg 1
      case measure => have := HK.out; omega
      case rel => exact ⟨2, by first | rfl | go_num, by first | rfl | rw [e1], ⟨by omega, by omega⟩, rfl⟩
    · simp only [sz]
      go_wp2_with fail
      refine (grow_calls (l1.length + l2.length) _ (by omega)).mono ?_
      rintro e w1 ⟨v, rfl, hM⟩
      have M1 := Aside0.mk hM
      have HD := Aside0.mk (hM.below.block gb HLT.out)
      clear hM cB M0
      go_wp2
      go_loopg [27, 6] 3 (fun kq v27 v6 w' => ∃ (k : Nat), v27 = .int .i64 k ∧ Aside0 (k ≤ 2 ∧ kq = 3 - k) ∧ Aside0 (Mem w w' [row kE 102 v6 (part l1 l2 k)]))
      case atStart => exact ⟨0, rfl, ⟨by omega, rfl⟩, M1⟩
      case round =>
        obtain ⟨k, rfl, HK, M2⟩ := hrel
        have hk3 : k = 0 ∨ k = 1 ∨ k = 2 := by have := HK.out; omega
        clear M1 HD
        have cB := fun j => (blk_cell ((M2.out.below.block gb HLT.out).trans HB.out) j)
        rcases hk3 with rfl | rfl | rfl
        · simp only [part] at M2
          go_wp2_with (((with_reducible refine gate_builtin (b := .append) (xs := #[.tmp 31, .tmp 32]) rfl ?_); at_builtin; refine Mem.app kE M2.out 0 _ [] l1 rfl (.tmp 31) (.tmp 32) 27 102 _ _ rfl Try.underlying27 infoEntry rfl (by decide) (by omega) A1 _ c1 rfl rfl rfl (Kd.C_below H1.out M2.out.below) (fun x cs h => h) (by have := HN.out; simp; omega) ?_; intro v1 w2 hM1; have M3 := Aside0.mk hM1; clear hM1))
          go_roundg 2
          case measure => have := HK.out; omega
          case rel => exact ⟨1, by first | rfl | go_num, ⟨by omega, by omega⟩, M3⟩
        · simp only [part] at M2
          go_wp2_with (((with_reducible refine gate_builtin (b := .append) (xs := #[.tmp 31, .tmp 32]) rfl ?_); at_builtin; refine Mem.app kE M2.out 0 _ l1 l2 rfl (.tmp 31) (.tmp 32) 27 102 _ _ rfl Try.underlying27 infoEntry rfl (by decide) (by omega) A2 _ c2 rfl rfl rfl (Kd.C_below H2.out M2.out.below) (fun x cs h => h) (by have := HN.out; simp; omega) ?_; intro v1 w2 hM1; have M3 := Aside0.mk hM1; clear hM1))
          go_roundg 1
          case measure => have := HK.out; omega
          case rel => exact ⟨2, by first | rfl | go_num, ⟨by omega, by omega⟩, M3⟩
        · simp only [part] at M2
          go_wp2
          go_ret
          exact ⟨_, rfl, M2.out⟩
theorem rises_calls (A1 A2 : Option Addr) (c1 c2 : Nat) (l1 l2 : List Entry) (w : World) (h1 : Kd.C kE w A1 l1.length l1) (h2 : Kd.C kE w A2 l2.length l2) (n1 : l1.length ≤ 1000000) (n2 : l2.length ≤ 1000000) (b : Bool) (hb : log (l1 ++ l2) = b) :
    Calls Try.prog 105 #[.slice A1 l1.length c1, .slice A2 l2.length c2] w fun e w' => e = .returned (.bool b) ∧ Mem w w' [] := by
  have M1 := Aside0.mk ((Mem.nil w).allocAt #[.slice A1 l1.length c1, .slice A2 l2.length c2] 27 w.heap.size rfl)
  have H1 := Aside0.mk (Kd.C_below h1 M1.out.below)
  have H2 := Aside0.mk (Kd.C_below h2 M1.out.below)
  have HN := Aside0.mk (show l1.length ≤ 1000000 ∧ l2.length ≤ 1000000 from ⟨n1, n2⟩)
  obtain ⟨l3, hl3⟩ : ∃ l3, l1 ++ l2 = l3 := ⟨_, rfl⟩
  rw [hl3] at hb
  have HL3 := Aside0.mk hl3
  have HB := Aside0.mk hb
  have HN3 := Aside0.mk (show l3.length ≤ 2000000 by rw [← hl3]; simp; omega)
  clear h1 h2 hl3 hb
  go_enter Try.func105, Try.ntmps105
  go_wp2_with fail
  refine (concat_calls w.heap.size A1 A2 c1 c2 l1 l2 _ (M1.out.blk_at 0 rfl) H1.out H2.out HN.out.1 HN.out.2).mono ?_
  rintro e w1 ⟨v, rfl, hM⟩
  rw [HL3.out] at hM
  obtain ⟨B, d, rfl, _, hC⟩ := hM.row_at 0 rfl
  have M2 := Aside0.mk (M1.out.trans hM)
  have HC := Aside0.mk hC
  clear hM hC
  go_wp2_with fail
  refine (log_calls B d l3 _ HC.out (by have := HN3.out; omega)).mono ?_
  rintro e w2 ⟨he, hM⟩
  rw [HB.out] at he
  subst he
  have M3 := Aside0.mk (M2.out.trans hM)
  clear hM
  go_wp2
  go_ret
  exact ⟨rfl, Mem.sel (ps := [_, _]) (F := []) [] 2 M3.out rfl rfl⟩
end Go.Proofs.Ytggbjokhniigkaa.Co
namespace Go.Proofs.Ytggbjokhniigkaa.Pe
open Ty Go.RowKit
theorem eq_f {a b : Int} (h : ¬ a = b) : (a == b) = false := by simpa using h
theorem eq_t {a b : Int} (h : a = b) : (a == b) = true := by simpa using h
theorem low_ {a : Int} {n : Nat} (h : a ≤ (n : Int)) : (a == (n : Int) + 1) = false ∧ decide (a ≤ (n : Int)) = true ∧ decide ((n : Int) < a) = false := ⟨eq_f (by omega), decide_eq_true h, decide_eq_false (by omega)⟩
theorem high_ {a : Int} {n : Nat} (h : (n : Int) + 1 < a) : (a == (n : Int) + 1) = false ∧ decide (a ≤ (n : Int)) = false ∧ decide ((n : Int) < a) = true := ⟨eq_f (by omega), decide_eq_false (by omega), decide_eq_true (by omega)⟩
theorem even_ {a : Int} {n : Nat} (h : a = (n : Int) + 1) : (a == (n : Int) + 1) = true ∧ decide (a ≤ (n : Int)) = false ∧ decide ((n : Int) < a) = true := ⟨eq_t h, decide_eq_false (by omega), decide_eq_true (by omega)⟩
theorem up_ {a : Int} {n k : Nat} (h : a = (n : Int) + 1) (hk : k = n + 1) : (a == (n : Int) + 1) = true ∧ decide (a ≤ (k : Int)) = true ∧ decide ((k : Int) < a) = false := ⟨eq_t h, decide_eq_true (by omega), decide_eq_false (by omega)⟩
theorem wr_ {n : Nat} (h : n ≤ 1200) : IntKind.i64.wrap ((n : Int) + 1) = (n : Int) + 1 ∧ wrap64 ((n : Int) + 1) = (n : Int) + 1 := ⟨by rw [IntKind.wrap_i64]; omega, by unfold wrap64; omega⟩
end Go.Proofs.Ytggbjokhniigkaa.Pe
namespace Go.Proofs.Ytggbjokhniigkaa.Tp
open Ty Go.RowKit YtggbjokhniigkaaW.PrintWords YtggbjokhniigkaaW.PrintLast YtggbjokhniigkaaW.PrintMore Mx Kx Wa Tk We Sa Tl Wj Wd Tc Co Pe
theorem prep_low (w0 w : World) (F : List Res) (g : Nat) (r : Rep) (m : Msg) (v5 v7 v8 v9 v10 : Value) (A : Option Addr) (c : Nat) (hM : Mem w0 w (blk g 99 (Wa.wc r.f0 r.f1 r.f2 r.f3 r.f4 v5 r.f6 v7 v8 v9 v10 r.f11 r.f12 (.slice none 0 0)) :: row kM 29 (.slice none 0 0) [] :: Kx.sL r v5 v7 v8 v9 v10 F)) (hl : Kd.C kE w0 A m.f7.length m.f7) (hf : m.f7.length = 1) (hn : r.f5.length ≤ 1200) (hv : 0 ≤ m.f3) (hv2 : m.f3 ≤ 4611686018427387904) (hn0 : 0 < r.f1) (hn5 : r.f1 ≤ 5) (hk : m.f0 = 1) (h1 : ¬ m.f3 < r.f2) (h2 : m.f3 % r.f1 = m.f1) (h3 : ¬ r.f2 < m.f3) (h4 : r.f4 = 0) (h5 : m.f4 ≤ (r.f5.length : Int)) (s : Rep) (hs : raise r m.f5 = s) :
    Calls Try.prog 96 #[.pointer (some ⟨g, 0, none⟩), .agg (Kx.mA m A c)] w fun e w' => e = .returned (.tuple #[]) ∧ ∃ v5' v7' v8' v9' v10' vout' : Value, Mem w0 w' (blk g 99 (Wa.wc s.f0 s.f1 s.f2 s.f3 s.f4 v5' s.f6 v7' v8' v9' v10' s.f11 s.f12 vout') :: row kM 29 vout' [toOne s m.f1 ⟨2, 0, 0, 0, (s.f5.length : Int), 0, 0, []⟩] :: Kx.sL s v5' v7' v8' v9' v10' F) := by
  obtain ⟨B5, d5, rfl, _, _⟩ := hM.row_at 2 rfl
  obtain ⟨cx, hcx⟩ : ∃ cx : Int, max r.f6 (min m.f5 (r.f5.length : Int)) = cx := ⟨_, rfl⟩
  have HCX := Aside0.mk hcx
  have HSS := Aside0.mk hs
  clear hs hcx
  obtain ⟨ew, ew'⟩ := wr_ hn
  obtain ⟨e5, e6, e7⟩ := low_ h5
  clear h5
  have e0 : (m.f0 == 1) = true := by simpa using hk
  clear hk
  have e1 : decide (m.f3 < r.f2) = false := by simpa using h1
  clear h1
  have e2 : (m.f3 % r.f1 == m.f1) = true := by simpa using h2
  have e2' : (m.f3 % r.f1 != m.f1) = false := by simpa using h2
  clear h2
  have e3 : decide (r.f2 < m.f3) = false := by simpa using h3
  clear h3
  have e4 : (r.f4 == 0) = true := by simpa using h4
  have e4' : (r.f4 != 0) = false := by simpa using h4
  clear h4
  have HL := Aside0.mk hl
  have HF := Aside0.mk hf
  have HN := Aside0.mk hn
  have HV := Aside0.mk (show 0 ≤ m.f3 ∧ m.f3 ≤ 4611686018427387904 from ⟨hv, hv2⟩)
  have HI := Aside0.mk (show 0 < r.f1 ∧ r.f1 ≤ 5 from ⟨hn0, hn5⟩)
  have M1 := Aside0.mk (hM.alloc (Kx.mA m A c) 29)
  clear hM hl hf hn hv hv2 hn0 hn5
  have cM := blk_cell (M1.out.blk_at 0 rfl)
  have cG := blk_cell (M1.out.blk_at 1 rfl)
  unfold Wa.wc at cG
  go_enter Try.func96, Try.ntmps96
  go_wp2_with fail
  have hW := M1.out.blk_at 1 rfl
  go_quiet ((go_at_call 74; exact primary_quiet _ _ g r.f0 r.f1 r.f2 r.f3 r.f4 _ r.f6 _ _ _ _ r.f11 r.f12 _ m.f3 hW HV.out.1 HV.out.2 HI.out.1 HI.out.2))
  clear hW
  go_upto_region 2 with (fail)
  go_cut [38] (fun s38 wx => s38 = .bool false ∧ Aside0 (Mem w0 wx (blk w.heap.size 29 (Kx.mA m A c) :: blk g 99 (Wa.wc r.f0 r.f1 r.f2 r.f3 r.f4 (.slice B5 r.f5.length d5) r.f6 v7 v8 v9 v10 r.f11 r.f12 (.slice none 0 0)) :: row kM 29 (.slice none 0 0) [] :: row kE 102 (.slice B5 r.f5.length d5) r.f5 :: row (Kd.int .i64) 3 v7 r.f7 :: row (Kd.int .i64) 3 v8 r.f8 :: row (Kd.int .i64) 3 v9 r.f9 :: row kE 102 v10 r.f10 :: F)))
  case first =>
    go_quiet (fail)
    go_wp2_with fail
    go_meet
    case rel => exact ⟨rfl, ⟨(M1.out.drewN _).drewN _⟩⟩
  case rest =>
    obtain ⟨rfl, M2⟩ := hcut
    clear M1 cM cG
    have cM := blk_cell (M2.out.blk_at 0 rfl)
    have cG := blk_cell (M2.out.blk_at 1 rfl)
    unfold Wa.wc at cG
    go_wp2_with fail
    go_quiet (fail)
    clear ew ew' e5 cM cG
    have M3 := Aside0.mk (M2.out.drewN nq)
    clear M2
    have cM := blk_cell (M3.out.blk_at 0 rfl)
    have cG := blk_cell (M3.out.blk_at 1 rfl)
    unfold Wa.wc at cG
    go_wp2_with fail
    refine (commit_calls w0 _ _ g r.f0 r.f1 r.f2 r.f3 r.f4 B5 r.f5.length d5 r.f6 _ _ _ _ r.f11 r.f12 _ m.f5 (Mem.sel (ps := [_, _, _, _, _, _, _, _]) (F := F) [1, 0, 2, 3, 4, 5, 6, 7] 8 M3.out rfl rfl) cx HCX.out).mono ?_
    rintro e w5 ⟨rfl, hM⟩
    have M5 := Aside0.mk (Mem.sel (ps := [_, _, _, _, _, _, _, _]) (F := F) [0, 2, 1, 3, 4, 5, 6, 7] 8 hM rfl rfl)
    clear hM M3 cM cG
    have cM := blk_cell (M5.out.blk_at 2 rfl)
    have cG := blk_cell (M5.out.blk_at 0 rfl)
    unfold Wa.wc at cG
    go_wp2_with fail
    refine (send_calls w0 _ emp _ g r.f0 r.f1 r.f2 r.f3 r.f4 _ cx v7 v8 v9 v10 r.f11 r.f12 (.slice none 0 0) [] m.f1 2 0 0 0 (r.f5.length : Int) 0 0 none 0 [] (Mem.sel (ps := [_, _, _, _, _, _, _, _, _]) (F := F) [0, 1, 2, 3, 4, 5, 6, 7, 8] 9 (Mem.cons_emp M5.out) rfl rfl) (Rd.old (C_zero _)) (by decide) (by decide) (by decide)).mono ?_
    rintro e w6 ⟨vo, rfl, hM⟩
    have M6 := Aside0.mk (Mem.sel (ps := [_, _, _, _, _, _, _, _, _]) (F := F) [1, 2, 3, 4, 5, 6, 7, 8] 9 hM rfl rfl)
    clear hM
    have cM := blk_cell (M6.out.blk_at 2 rfl)
    go_wp2
    first | go_end0 | (refine bodyPost_ret (results_none rfl _ _ _) rfl ?_)
    have hs := HSS.out
    have hcx := HCX.out
    subst hs
    subst hcx
    exact ⟨rfl, _, _, _, _, _, _, Mem.sel (ps := [_, _, _, _, _, _, _, _]) (F := F) [0, 1, 3, 4, 5, 6, 7] 8 M6.out rfl rfl⟩
theorem prep_high (w0 w : World) (F : List Res) (g : Nat) (r : Rep) (m : Msg) (v5 v7 v8 v9 v10 : Value) (A : Option Addr) (c : Nat) (hM : Mem w0 w (blk g 99 (Wa.wc r.f0 r.f1 r.f2 r.f3 r.f4 v5 r.f6 v7 v8 v9 v10 r.f11 r.f12 (.slice none 0 0)) :: row kM 29 (.slice none 0 0) [] :: Kx.sL r v5 v7 v8 v9 v10 F)) (hl : Kd.C kE w0 A m.f7.length m.f7) (hf : m.f7.length = 1) (hn : r.f5.length ≤ 1200) (hv : 0 ≤ m.f3) (hv2 : m.f3 ≤ 4611686018427387904) (hn0 : 0 < r.f1) (hn5 : r.f1 ≤ 5) (hk : m.f0 = 1) (h1 : ¬ m.f3 < r.f2) (h2 : m.f3 % r.f1 = m.f1) (h3 : ¬ r.f2 < m.f3) (h4 : r.f4 = 0) (h5 : (r.f5.length : Int) + 1 < m.f4) (s : Rep) (hs : raise r m.f5 = s) :
    Calls Try.prog 96 #[.pointer (some ⟨g, 0, none⟩), .agg (Kx.mA m A c)] w fun e w' => e = .returned (.tuple #[]) ∧ ∃ v5' v7' v8' v9' v10' vout' : Value, Mem w0 w' (blk g 99 (Wa.wc s.f0 s.f1 s.f2 s.f3 s.f4 v5' s.f6 v7' v8' v9' v10' s.f11 s.f12 vout') :: row kM 29 vout' [toOne s m.f1 ⟨7, 0, 0, 0, (s.f5.length : Int), 0, 0, []⟩] :: Kx.sL s v5' v7' v8' v9' v10' F) := by
  obtain ⟨B5, d5, rfl, _, _⟩ := hM.row_at 2 rfl
  obtain ⟨cx, hcx⟩ : ∃ cx : Int, max r.f6 (min m.f5 (r.f5.length : Int)) = cx := ⟨_, rfl⟩
  have HCX := Aside0.mk hcx
  have HSS := Aside0.mk hs
  clear hs hcx
  obtain ⟨ew, ew'⟩ := wr_ hn
  obtain ⟨e5, e6, e7⟩ := high_ h5
  clear h5
  have e0 : (m.f0 == 1) = true := by simpa using hk
  clear hk
  have e1 : decide (m.f3 < r.f2) = false := by simpa using h1
  clear h1
  have e2 : (m.f3 % r.f1 == m.f1) = true := by simpa using h2
  have e2' : (m.f3 % r.f1 != m.f1) = false := by simpa using h2
  clear h2
  have e3 : decide (r.f2 < m.f3) = false := by simpa using h3
  clear h3
  have e4 : (r.f4 == 0) = true := by simpa using h4
  have e4' : (r.f4 != 0) = false := by simpa using h4
  clear h4
  have HL := Aside0.mk hl
  have HF := Aside0.mk hf
  have HN := Aside0.mk hn
  have HV := Aside0.mk (show 0 ≤ m.f3 ∧ m.f3 ≤ 4611686018427387904 from ⟨hv, hv2⟩)
  have HI := Aside0.mk (show 0 < r.f1 ∧ r.f1 ≤ 5 from ⟨hn0, hn5⟩)
  have M1 := Aside0.mk (hM.alloc (Kx.mA m A c) 29)
  clear hM hl hf hn hv hv2 hn0 hn5
  have cM := blk_cell (M1.out.blk_at 0 rfl)
  have cG := blk_cell (M1.out.blk_at 1 rfl)
  unfold Wa.wc at cG
  go_enter Try.func96, Try.ntmps96
  go_wp2_with fail
  have hW := M1.out.blk_at 1 rfl
  go_quiet ((go_at_call 74; exact primary_quiet _ _ g r.f0 r.f1 r.f2 r.f3 r.f4 _ r.f6 _ _ _ _ r.f11 r.f12 _ m.f3 hW HV.out.1 HV.out.2 HI.out.1 HI.out.2))
  clear hW
  go_upto_region 2 with (fail)
  go_cut [38] (fun s38 wx => s38 = .bool false ∧ Aside0 (Mem w0 wx (blk w.heap.size 29 (Kx.mA m A c) :: blk g 99 (Wa.wc r.f0 r.f1 r.f2 r.f3 r.f4 (.slice B5 r.f5.length d5) r.f6 v7 v8 v9 v10 r.f11 r.f12 (.slice none 0 0)) :: row kM 29 (.slice none 0 0) [] :: row kE 102 (.slice B5 r.f5.length d5) r.f5 :: row (Kd.int .i64) 3 v7 r.f7 :: row (Kd.int .i64) 3 v8 r.f8 :: row (Kd.int .i64) 3 v9 r.f9 :: row kE 102 v10 r.f10 :: F)))
  case first =>
    go_quiet (fail)
    go_wp2_with fail
    go_meet
    case rel => exact ⟨rfl, ⟨(M1.out.drewN _).drewN _⟩⟩
  case rest =>
    obtain ⟨rfl, M2⟩ := hcut
    clear M1 cM cG
    have cM := blk_cell (M2.out.blk_at 0 rfl)
    have cG := blk_cell (M2.out.blk_at 1 rfl)
    unfold Wa.wc at cG
    go_wp2_with fail
    go_quiet (fail)
    clear ew ew' e5 cM cG
    have M3 := Aside0.mk (M2.out.drewN nq)
    clear M2
    have cM := blk_cell (M3.out.blk_at 0 rfl)
    have cG := blk_cell (M3.out.blk_at 1 rfl)
    unfold Wa.wc at cG
    go_wp2_with fail
    refine (commit_calls w0 _ _ g r.f0 r.f1 r.f2 r.f3 r.f4 B5 r.f5.length d5 r.f6 _ _ _ _ r.f11 r.f12 _ m.f5 (Mem.sel (ps := [_, _, _, _, _, _, _, _]) (F := F) [1, 0, 2, 3, 4, 5, 6, 7] 8 M3.out rfl rfl) cx HCX.out).mono ?_
    rintro e w5 ⟨rfl, hM⟩
    have M5 := Aside0.mk (Mem.sel (ps := [_, _, _, _, _, _, _, _]) (F := F) [0, 2, 1, 3, 4, 5, 6, 7] 8 hM rfl rfl)
    clear hM M3 cM cG
    have cM := blk_cell (M5.out.blk_at 2 rfl)
    have cG := blk_cell (M5.out.blk_at 0 rfl)
    unfold Wa.wc at cG
    go_wp2_with fail
    refine (send_calls w0 _ emp _ g r.f0 r.f1 r.f2 r.f3 r.f4 _ cx v7 v8 v9 v10 r.f11 r.f12 (.slice none 0 0) [] m.f1 7 0 0 0 (r.f5.length : Int) 0 0 none 0 [] (Mem.sel (ps := [_, _, _, _, _, _, _, _, _]) (F := F) [0, 1, 2, 3, 4, 5, 6, 7, 8] 9 (Mem.cons_emp M5.out) rfl rfl) (Rd.old (C_zero _)) (by decide) (by decide) (by decide)).mono ?_
    rintro e w6 ⟨vo, rfl, hM⟩
    have M6 := Aside0.mk (Mem.sel (ps := [_, _, _, _, _, _, _, _, _]) (F := F) [1, 2, 3, 4, 5, 6, 7, 8] 9 hM rfl rfl)
    clear hM
    have cM := blk_cell (M6.out.blk_at 2 rfl)
    go_wp2
    first | go_end0 | (refine bodyPost_ret (results_none rfl _ _ _) rfl ?_)
    have hs := HSS.out
    have hcx := HCX.out
    subst hs
    subst hcx
    exact ⟨rfl, _, _, _, _, _, _, Mem.sel (ps := [_, _, _, _, _, _, _, _]) (F := F) [0, 1, 3, 4, 5, 6, 7] 8 M6.out rfl rfl⟩
theorem prep_rej (w0 w : World) (F : List Res) (g : Nat) (r : Rep) (m : Msg) (v5 v7 v8 v9 v10 : Value) (A : Option Addr) (c : Nat) (hM : Mem w0 w (blk g 99 (Wa.wc r.f0 r.f1 r.f2 r.f3 r.f4 v5 r.f6 v7 v8 v9 v10 r.f11 r.f12 (.slice none 0 0)) :: row kM 29 (.slice none 0 0) [] :: Kx.sL r v5 v7 v8 v9 v10 F)) (hl : Kd.C kE w0 A m.f7.length m.f7) (hf : m.f7.length = 1) (hn : r.f5.length ≤ 1200) (hv : 0 ≤ m.f3) (hv2 : m.f3 ≤ 4611686018427387904) (hn0 : 0 < r.f1) (hn5 : r.f1 ≤ 5) (hk : m.f0 = 1) (h1 : ¬ m.f3 < r.f2) (h2 : m.f3 % r.f1 = m.f1) (h3 : ¬ r.f2 < m.f3) (h4 : r.f4 = 0) (h5 : m.f4 = (r.f5.length : Int) + 1) (hb : log (r.f5 ++ m.f7) = false) (s : Rep) (hs : raise r m.f5 = s) :
    Calls Try.prog 96 #[.pointer (some ⟨g, 0, none⟩), .agg (Kx.mA m A c)] w fun e w' => e = .returned (.tuple #[]) ∧ ∃ v5' v7' v8' v9' v10' vout' : Value, Mem w0 w' (blk g 99 (Wa.wc s.f0 s.f1 s.f2 s.f3 s.f4 v5' s.f6 v7' v8' v9' v10' s.f11 s.f12 vout') :: row kM 29 vout' [toOne s m.f1 ⟨7, 0, 0, 0, (s.f5.length : Int), 0, 0, []⟩] :: Kx.sL s v5' v7' v8' v9' v10' F) := by
  obtain ⟨B5, d5, rfl, _, _⟩ := hM.row_at 2 rfl
  have HB := Aside0.mk hb
  clear hb
  obtain ⟨cx, hcx⟩ : ∃ cx : Int, max r.f6 (min m.f5 (r.f5.length : Int)) = cx := ⟨_, rfl⟩
  have HCX := Aside0.mk hcx
  have HSS := Aside0.mk hs
  clear hs hcx
  obtain ⟨ew, ew'⟩ := wr_ hn
  obtain ⟨e5, e6, e7⟩ := even_ h5
  clear h5
  have e0 : (m.f0 == 1) = true := by simpa using hk
  clear hk
  have e1 : decide (m.f3 < r.f2) = false := by simpa using h1
  clear h1
  have e2 : (m.f3 % r.f1 == m.f1) = true := by simpa using h2
  have e2' : (m.f3 % r.f1 != m.f1) = false := by simpa using h2
  clear h2
  have e3 : decide (r.f2 < m.f3) = false := by simpa using h3
  clear h3
  have e4 : (r.f4 == 0) = true := by simpa using h4
  have e4' : (r.f4 != 0) = false := by simpa using h4
  clear h4
  have HL := Aside0.mk hl
  have HF := Aside0.mk hf
  have HN := Aside0.mk hn
  have HV := Aside0.mk (show 0 ≤ m.f3 ∧ m.f3 ≤ 4611686018427387904 from ⟨hv, hv2⟩)
  have HI := Aside0.mk (show 0 < r.f1 ∧ r.f1 ≤ 5 from ⟨hn0, hn5⟩)
  have M1 := Aside0.mk (hM.alloc (Kx.mA m A c) 29)
  clear hM hl hf hn hv hv2 hn0 hn5
  have cM := blk_cell (M1.out.blk_at 0 rfl)
  have cG := blk_cell (M1.out.blk_at 1 rfl)
  unfold Wa.wc at cG
  go_enter Try.func96, Try.ntmps96
  go_wp2_with fail
  have hW := M1.out.blk_at 1 rfl
  go_quiet ((go_at_call 74; exact primary_quiet _ _ g r.f0 r.f1 r.f2 r.f3 r.f4 _ r.f6 _ _ _ _ r.f11 r.f12 _ m.f3 hW HV.out.1 HV.out.2 HI.out.1 HI.out.2))
  clear hW
  go_upto_region 2 with (fail)
  go_cut [38] (fun s38 wx => s38 = .bool false ∧ Aside0 (Mem w0 wx (blk w.heap.size 29 (Kx.mA m A c) :: blk g 99 (Wa.wc r.f0 r.f1 r.f2 r.f3 r.f4 (.slice B5 r.f5.length d5) r.f6 v7 v8 v9 v10 r.f11 r.f12 (.slice none 0 0)) :: row kM 29 (.slice none 0 0) [] :: row kE 102 (.slice B5 r.f5.length d5) r.f5 :: row (Kd.int .i64) 3 v7 r.f7 :: row (Kd.int .i64) 3 v8 r.f8 :: row (Kd.int .i64) 3 v9 r.f9 :: row kE 102 v10 r.f10 :: F)))
  case first =>
    go_quiet (fail)
    go_wp2_with fail
    go_meet
    case rel => exact ⟨rfl, ⟨(M1.out.drewN _).drewN _⟩⟩
  case rest =>
    obtain ⟨rfl, M2⟩ := hcut
    clear M1 cM cG
    have HM0 := Aside0.mk (blk_cell (M2.out.blk_at 0 rfl))
    have HG0 := Aside0.mk (blk_cell (M2.out.blk_at 1 rfl))
    have cM := HM0.out
    have cG := HG0.out
    unfold Wa.wc at cG
    have RISE : Aside0 (∀ wd : World, Mem w0 wd (blk w.heap.size 29 (Kx.mA m A c) :: blk g 99 (Wa.wc r.f0 r.f1 r.f2 r.f3 r.f4 (.slice B5 r.f5.length d5) r.f6 v7 v8 v9 v10 r.f11 r.f12 (.slice none 0 0)) :: row kM 29 (.slice none 0 0) [] :: row kE 102 (.slice B5 r.f5.length d5) r.f5 :: row (Kd.int .i64) 3 v7 r.f7 :: row (Kd.int .i64) 3 v8 r.f8 :: row (Kd.int .i64) 3 v9 r.f9 :: row kE 102 v10 r.f10 :: F) → Calls Try.prog 105 #[.slice B5 r.f5.length d5, .slice A m.f7.length c] wd fun e w' => e = .returned (.bool false) ∧ Mem w0 w' (blk w.heap.size 29 (Kx.mA m A c) :: blk g 99 (Wa.wc r.f0 r.f1 r.f2 r.f3 r.f4 (.slice B5 r.f5.length d5) r.f6 v7 v8 v9 v10 r.f11 r.f12 (.slice none 0 0)) :: row kM 29 (.slice none 0 0) [] :: row kE 102 (.slice B5 r.f5.length d5) r.f5 :: row (Kd.int .i64) 3 v7 r.f7 :: row (Kd.int .i64) 3 v8 r.f8 :: row (Kd.int .i64) 3 v9 r.f9 :: row kE 102 v10 r.f10 :: F)) := ⟨fun wd hMd =>
      (rises_calls B5 A d5 c r.f5 m.f7 wd (hMd.row_C 3 rfl) (Kd.C_below HL.out hMd.below) (by have := HN.out; omega) (by have := HF.out; omega) false HB.out).mono fun e w' q => ⟨q.1, hMd.trans q.2⟩⟩
    go_upto_region 7 with (fail)
    have M2D := Aside0.mk M2.out.drew
    have HS0 := Aside0.mk (show (∀ j : Nat, wc.drew.cell? ⟨w.heap.size, j, none⟩ = wc.cell? ⟨w.heap.size, j, none⟩) ∧ (∀ j : Nat, wc.drew.cell? ⟨g, j, none⟩ = wc.cell? ⟨g, j, none⟩) from ⟨fun _ => rfl, fun _ => rfl⟩)
    have H9 := HS0
    go_region_held3 (fun w' => (∀ j : Nat, w'.cell? ⟨w.heap.size, j, none⟩ = wc.cell? ⟨w.heap.size, j, none⟩) ∧ (∀ j : Nat, w'.cell? ⟨g, j, none⟩ = wc.cell? ⟨g, j, none⟩)) (first | with_reducible exact HS0.out | with_reducible exact H9.out | fail) ((go_at_call 105; refine (RISE.out _ M2D.out).mono ?_; rintro e w1 ⟨rfl, hM⟩; have M3 := Aside0.mk hM; clear hM; have H9 := Aside0.mk (show (∀ j : Nat, w1.cell? ⟨w.heap.size, j, none⟩ = wc.cell? ⟨w.heap.size, j, none⟩) ∧ (∀ j : Nat, w1.cell? ⟨g, j, none⟩ = wc.cell? ⟨g, j, none⟩) from ⟨fun j => (blk_cell (M3.out.blk_at 0 rfl) j).trans (HM0.out j).symm, fun j => (blk_cell (M3.out.blk_at 1 rfl) j).trans (HG0.out j).symm⟩)))
    clear H9 HS0 HM0 HG0 M2D RISE M2
    clear ew ew' e5
    go_wp2_with fail
    refine (commit_calls w0 _ _ g r.f0 r.f1 r.f2 r.f3 r.f4 B5 r.f5.length d5 r.f6 _ _ _ _ r.f11 r.f12 _ m.f5 (Mem.sel (ps := [_, _, _, _, _, _, _, _]) (F := F) [1, 0, 2, 3, 4, 5, 6, 7] 8 M3.out rfl rfl) cx HCX.out).mono ?_
    rintro e w5 ⟨rfl, hM⟩
    have M5 := Aside0.mk (Mem.sel (ps := [_, _, _, _, _, _, _, _]) (F := F) [0, 2, 1, 3, 4, 5, 6, 7] 8 hM rfl rfl)
    clear hM M3 cM cG
    have cM := blk_cell (M5.out.blk_at 2 rfl)
    have cG := blk_cell (M5.out.blk_at 0 rfl)
    unfold Wa.wc at cG
    go_wp2_with fail
    refine (send_calls w0 _ emp _ g r.f0 r.f1 r.f2 r.f3 r.f4 _ cx v7 v8 v9 v10 r.f11 r.f12 (.slice none 0 0) [] m.f1 7 0 0 0 (r.f5.length : Int) 0 0 none 0 [] (Mem.sel (ps := [_, _, _, _, _, _, _, _, _]) (F := F) [0, 1, 2, 3, 4, 5, 6, 7, 8] 9 (Mem.cons_emp M5.out) rfl rfl) (Rd.old (C_zero _)) (by decide) (by decide) (by decide)).mono ?_
    rintro e w6 ⟨vo, rfl, hM⟩
    have M6 := Aside0.mk (Mem.sel (ps := [_, _, _, _, _, _, _, _, _]) (F := F) [1, 2, 3, 4, 5, 6, 7, 8] 9 hM rfl rfl)
    clear hM
    have cM := blk_cell (M6.out.blk_at 2 rfl)
    go_wp2
    first | go_end0 | (refine bodyPost_ret (results_none rfl _ _ _) rfl ?_)
    have hs := HSS.out
    have hcx := HCX.out
    subst hs
    subst hcx
    exact ⟨rfl, _, _, _, _, _, _, Mem.sel (ps := [_, _, _, _, _, _, _, _]) (F := F) [0, 1, 3, 4, 5, 6, 7] 8 M6.out rfl rfl⟩
theorem prep_acc (w0 w : World) (F : List Res) (g : Nat) (r : Rep) (m : Msg) (v5 v7 v8 v9 v10 : Value) (A : Option Addr) (c : Nat) (hM : Mem w0 w (blk g 99 (Wa.wc r.f0 r.f1 r.f2 r.f3 r.f4 v5 r.f6 v7 v8 v9 v10 r.f11 r.f12 (.slice none 0 0)) :: row kM 29 (.slice none 0 0) [] :: Kx.sL r v5 v7 v8 v9 v10 F)) (hl : Kd.C kE w0 A m.f7.length m.f7) (hf : m.f7.length = 1) (hn : r.f5.length ≤ 1200) (hv : 0 ≤ m.f3) (hv2 : m.f3 ≤ 4611686018427387904) (hn0 : 0 < r.f1) (hn5 : r.f1 ≤ 5) (hk : m.f0 = 1) (h1 : ¬ m.f3 < r.f2) (h2 : m.f3 % r.f1 = m.f1) (h3 : ¬ r.f2 < m.f3) (h4 : r.f4 = 0) (h5 : m.f4 = (r.f5.length : Int) + 1) (hb : log (r.f5 ++ m.f7) = true) (s : Rep) (hs : raise { r with f5 := r.f5 ++ m.f7 } m.f5 = s) :
    Calls Try.prog 96 #[.pointer (some ⟨g, 0, none⟩), .agg (Kx.mA m A c)] w fun e w' => e = .returned (.tuple #[]) ∧ ∃ v5' v7' v8' v9' v10' vout' : Value, Mem w0 w' (blk g 99 (Wa.wc s.f0 s.f1 s.f2 s.f3 s.f4 v5' s.f6 v7' v8' v9' v10' s.f11 s.f12 vout') :: row kM 29 vout' [toOne s m.f1 ⟨2, 0, 0, 0, (s.f5.length : Int), 0, 0, []⟩] :: Kx.sL s v5' v7' v8' v9' v10' F) := by
  obtain ⟨B5, d5, rfl, _, _⟩ := hM.row_at 2 rfl
  have HB := Aside0.mk hb
  clear hb
  obtain ⟨l3, hl3⟩ : ∃ l3, r.f5 ++ m.f7 = l3 := ⟨_, rfl⟩
  have hn3 : l3.length = r.f5.length + 1 := by rw [← hl3, List.length_append, hf]
  obtain ⟨cx, hcx⟩ : ∃ cx : Int, max r.f6 (min m.f5 (l3.length : Int)) = cx := ⟨_, rfl⟩
  have HCX := Aside0.mk hcx
  have HSS := Aside0.mk hs
  have HL3 := Aside0.mk hl3
  clear hs hcx
  obtain ⟨ew, ew'⟩ := wr_ hn
  obtain ⟨e5, e6, e7⟩ := up_ h5 hn3
  have HN3 := Aside0.mk hn3
  clear h5 hl3 hn3
  have e0 : (m.f0 == 1) = true := by simpa using hk
  clear hk
  have e1 : decide (m.f3 < r.f2) = false := by simpa using h1
  clear h1
  have e2 : (m.f3 % r.f1 == m.f1) = true := by simpa using h2
  have e2' : (m.f3 % r.f1 != m.f1) = false := by simpa using h2
  clear h2
  have e3 : decide (r.f2 < m.f3) = false := by simpa using h3
  clear h3
  have e4 : (r.f4 == 0) = true := by simpa using h4
  have e4' : (r.f4 != 0) = false := by simpa using h4
  clear h4
  have HL := Aside0.mk hl
  have HF := Aside0.mk hf
  have HN := Aside0.mk hn
  have HV := Aside0.mk (show 0 ≤ m.f3 ∧ m.f3 ≤ 4611686018427387904 from ⟨hv, hv2⟩)
  have HI := Aside0.mk (show 0 < r.f1 ∧ r.f1 ≤ 5 from ⟨hn0, hn5⟩)
  have M1 := Aside0.mk (hM.alloc (Kx.mA m A c) 29)
  clear hM hl hf hn hv hv2 hn0 hn5
  have cM := blk_cell (M1.out.blk_at 0 rfl)
  have cG := blk_cell (M1.out.blk_at 1 rfl)
  unfold Wa.wc at cG
  go_enter Try.func96, Try.ntmps96
  go_wp2_with fail
  have hW := M1.out.blk_at 1 rfl
  go_quiet ((go_at_call 74; exact primary_quiet _ _ g r.f0 r.f1 r.f2 r.f3 r.f4 _ r.f6 _ _ _ _ r.f11 r.f12 _ m.f3 hW HV.out.1 HV.out.2 HI.out.1 HI.out.2))
  clear hW
  go_upto_region 2 with (fail)
  go_cut [38] (fun s38 wx => s38 = .bool false ∧ Aside0 (Mem w0 wx (blk w.heap.size 29 (Kx.mA m A c) :: blk g 99 (Wa.wc r.f0 r.f1 r.f2 r.f3 r.f4 (.slice B5 r.f5.length d5) r.f6 v7 v8 v9 v10 r.f11 r.f12 (.slice none 0 0)) :: row kM 29 (.slice none 0 0) [] :: row kE 102 (.slice B5 r.f5.length d5) r.f5 :: row (Kd.int .i64) 3 v7 r.f7 :: row (Kd.int .i64) 3 v8 r.f8 :: row (Kd.int .i64) 3 v9 r.f9 :: row kE 102 v10 r.f10 :: F)))
  case first =>
    go_quiet (fail)
    go_wp2_with fail
    go_meet
    case rel => exact ⟨rfl, ⟨(M1.out.drewN _).drewN _⟩⟩
  case rest =>
    obtain ⟨rfl, M2⟩ := hcut
    clear M1 cM cG
    have HM0 := Aside0.mk (blk_cell (M2.out.blk_at 0 rfl))
    have HG0 := Aside0.mk (blk_cell (M2.out.blk_at 1 rfl))
    have cM := HM0.out
    have cG := HG0.out
    unfold Wa.wc at cG
    have RISE : Aside0 (∀ wd : World, Mem w0 wd (blk w.heap.size 29 (Kx.mA m A c) :: blk g 99 (Wa.wc r.f0 r.f1 r.f2 r.f3 r.f4 (.slice B5 r.f5.length d5) r.f6 v7 v8 v9 v10 r.f11 r.f12 (.slice none 0 0)) :: row kM 29 (.slice none 0 0) [] :: row kE 102 (.slice B5 r.f5.length d5) r.f5 :: row (Kd.int .i64) 3 v7 r.f7 :: row (Kd.int .i64) 3 v8 r.f8 :: row (Kd.int .i64) 3 v9 r.f9 :: row kE 102 v10 r.f10 :: F) → Calls Try.prog 105 #[.slice B5 r.f5.length d5, .slice A m.f7.length c] wd fun e w' => e = .returned (.bool true) ∧ Mem w0 w' (blk w.heap.size 29 (Kx.mA m A c) :: blk g 99 (Wa.wc r.f0 r.f1 r.f2 r.f3 r.f4 (.slice B5 r.f5.length d5) r.f6 v7 v8 v9 v10 r.f11 r.f12 (.slice none 0 0)) :: row kM 29 (.slice none 0 0) [] :: row kE 102 (.slice B5 r.f5.length d5) r.f5 :: row (Kd.int .i64) 3 v7 r.f7 :: row (Kd.int .i64) 3 v8 r.f8 :: row (Kd.int .i64) 3 v9 r.f9 :: row kE 102 v10 r.f10 :: F)) := ⟨fun wd hMd =>
      (rises_calls B5 A d5 c r.f5 m.f7 wd (hMd.row_C 3 rfl) (Kd.C_below HL.out hMd.below) (by have := HN.out; omega) (by have := HF.out; omega) true HB.out).mono fun e w' q => ⟨q.1, hMd.trans q.2⟩⟩
    go_upto_region 7 with (fail)
    have M2D := Aside0.mk M2.out.drew
    have HS0 := Aside0.mk (show (∀ j : Nat, wc.drew.cell? ⟨w.heap.size, j, none⟩ = wc.cell? ⟨w.heap.size, j, none⟩) ∧ (∀ j : Nat, wc.drew.cell? ⟨g, j, none⟩ = wc.cell? ⟨g, j, none⟩) from ⟨fun _ => rfl, fun _ => rfl⟩)
    have H9 := HS0
    go_region_held3 (fun w' => (∀ j : Nat, w'.cell? ⟨w.heap.size, j, none⟩ = wc.cell? ⟨w.heap.size, j, none⟩) ∧ (∀ j : Nat, w'.cell? ⟨g, j, none⟩ = wc.cell? ⟨g, j, none⟩)) (first | with_reducible exact HS0.out | with_reducible exact H9.out | fail) ((go_at_call 105; refine (RISE.out _ M2D.out).mono ?_; rintro e w1 ⟨rfl, hM⟩; have M3 := Aside0.mk hM; clear hM; have H9 := Aside0.mk (show (∀ j : Nat, w1.cell? ⟨w.heap.size, j, none⟩ = wc.cell? ⟨w.heap.size, j, none⟩) ∧ (∀ j : Nat, w1.cell? ⟨g, j, none⟩ = wc.cell? ⟨g, j, none⟩) from ⟨fun j => (blk_cell (M3.out.blk_at 0 rfl) j).trans (HM0.out j).symm, fun j => (blk_cell (M3.out.blk_at 1 rfl) j).trans (HG0.out j).symm⟩)))
    clear H9 HS0 HM0 HG0 M2D RISE M2
    clear ew ew' e5
    go_upto_region 8 with (fail)
    go_cut [] (fun wx => ∃ (A3 : Option Addr) (c3 : Nat), Aside0 (Mem w0 wx (blk w.heap.size 29 (Kx.mA m A c) :: blk g 99 (Wa.wc r.f0 r.f1 r.f2 r.f3 r.f4 (.slice A3 l3.length c3) r.f6 v7 v8 v9 v10 r.f11 r.f12 (.slice none 0 0)) :: row kM 29 (.slice none 0 0) [] :: row kE 102 (.slice A3 l3.length c3) l3 :: row (Kd.int .i64) 3 v7 r.f7 :: row (Kd.int .i64) 3 v8 r.f8 :: row (Kd.int .i64) 3 v9 r.f9 :: row kE 102 v10 r.f10 :: F)))
    case first =>
      go_region_law (refine Mem.app_step kE M3.out.drew 3 _ r.f5 m.f7 (by rfl) (.tmp 92) (.tmp 94) 27 102 _ _ rfl Try.underlying27 infoEntry rfl (by decide) (by omega) A m.f7.length c (by simp [Act.eval, Act.put]) (by simp [Act.eval, Act.put]) rfl (Kd.C_below HL.out M3.out.drew.below) (fun x cs h => h) (by have := HN.out; have := HF.out; omega) ?_; intro v1 w3 hM; rw [HL3.out] at hM; have M7 := Aside0.mk hM; clear hM; obtain ⟨A3, c3, he, hc3, _⟩ := M7.out.row_at 3 rfl; subst he; have cG3 := blk_cell (M7.out.blk_at 1 rfl); have fG3 := blk_frozen (M7.out.blk_at 1 rfl); have gG3 := blk_lt (M7.out.blk_at 1 rfl); unfold Wa.wc at cG3; clear hc3)
      all_goals
        go_wp2_with fail
        all_goals
          go_meet
          case rel => exact ⟨_, _, ⟨M7.out.set 1 rfl 5 _⟩⟩
    case rest =>
      obtain ⟨A3, c3, M4⟩ := hcut
      clear M3 cM cG
      have cM := blk_cell (M4.out.blk_at 0 rfl)
      have cG := blk_cell (M4.out.blk_at 1 rfl)
      unfold Wa.wc at cG
      go_wp2_with fail
      refine (commit_calls w0 _ _ g r.f0 r.f1 r.f2 r.f3 r.f4 A3 l3.length c3 r.f6 _ _ _ _ r.f11 r.f12 _ m.f5 (Mem.sel (ps := [_, _, _, _, _, _, _, _]) (F := F) [1, 0, 2, 3, 4, 5, 6, 7] 8 M4.out rfl rfl) cx HCX.out).mono ?_
      rintro e w5 ⟨rfl, hM⟩
      have M5 := Aside0.mk (Mem.sel (ps := [_, _, _, _, _, _, _, _]) (F := F) [0, 2, 1, 3, 4, 5, 6, 7] 8 hM rfl rfl)
      clear hM M4 cM cG
      have cM := blk_cell (M5.out.blk_at 2 rfl)
      have cG := blk_cell (M5.out.blk_at 0 rfl)
      unfold Wa.wc at cG
      go_wp2_with fail
      refine (send_calls w0 _ emp _ g r.f0 r.f1 r.f2 r.f3 r.f4 _ cx v7 v8 v9 v10 r.f11 r.f12 (.slice none 0 0) [] m.f1 2 0 0 0 (l3.length : Int) 0 0 none 0 [] (Mem.sel (ps := [_, _, _, _, _, _, _, _, _]) (F := F) [0, 1, 2, 3, 4, 5, 6, 7, 8] 9 (Mem.cons_emp M5.out) rfl rfl) (Rd.old (C_zero _)) (by decide) (by decide) (by decide)).mono ?_
      rintro e w6 ⟨vo, rfl, hM⟩
      have M6 := Aside0.mk (Mem.sel (ps := [_, _, _, _, _, _, _, _, _]) (F := F) [1, 2, 3, 4, 5, 6, 7, 8] 9 hM rfl rfl)
      clear hM
      have cM := blk_cell (M6.out.blk_at 2 rfl)
      go_wp2
      first | go_end0 | (refine bodyPost_ret (results_none rfl _ _ _) rfl ?_)
      have hs := HSS.out
      have hcx := HCX.out
      have hl3 := HL3.out
      subst hl3
      subst hs
      subst hcx
      exact ⟨rfl, _, _, _, _, _, _, Mem.sel (ps := [_, _, _, _, _, _, _, _]) (F := F) [0, 1, 3, 4, 5, 6, 7] 8 M6.out rfl rfl⟩
end Go.Proofs.Ytggbjokhniigkaa.Tp

/- Walks: slices.Grow of nothing, slices.Concat of two rows of entries, rises. -/
import Derived.Test.YtggbjokhniigkaaGreatGc
import Derived.Lib.AppendZeros
import Derived.Lib.AppendZerosOnto
import Derived.Deep.LoopGhost
namespace Go.Proofs.YtggbjokhniigkaaGreat.Co
open Go.Proofs.YtggbjokhniigkaaGreat.Ty Go.RowKit Go.Proofs.YtggbjokhniigkaaGreatW.PrintWords Go.Proofs.YtggbjokhniigkaaGreatW.PrintLast Go.Proofs.YtggbjokhniigkaaGreatW.PrintMore Go.Proofs.YtggbjokhniigkaaGreat.Mx Go.Proofs.YtggbjokhniigkaaGreat.Kx Go.Proofs.YtggbjokhniigkaaGreat.Wa Go.Proofs.YtggbjokhniigkaaGreat.Wb
set_option linter.unusedVariables false
set_option linter.unusedSimpArgs false
theorem row_nil_ {w0 w : World} {rs : List Res} {α : Type} (h : Mem w0 w rs) (d : Kd α) (e : Nat) : Mem w0 w (row d e (.slice none 0 0) [] :: rs) := h.cons (Below.refl _ _) (Kd.R_nil _ _ _ _ _)
/-- A block with room is a row of nothing. -/
theorem row_room {w0 w : World} {rs : List Res} (h : Mem w0 w rs) (i : Nat) {g c : Nat} {cs : Array Value} (hi : rs[i]? = some (blk g 68 cs)) (hs : cs.size = c * 2) (hc : c ≤ maxLen) : Mem w0 w (rs.set i (row kE 68 (.slice (some ⟨g, 0, none⟩) 0 c) [])) := by
  refine h.imp hi _ (fun f hf => ⟨fun k hk => ?_, [], ⟨rfl, .inr ⟨g, c, cs, rfl, Nat.zero_le _, hf.1, Nat.zero_le _, hc, hs, rfl⟩⟩, Reps.none _ _⟩)
  have : g = k := by simpa [Value.ownBlock] using hk
  subst this
  exact hf.2
set_option maxRecDepth 100000 in
set_option maxHeartbeats 4000000 in
theorem grow_calls (n : Nat) (w : World) (hn : n ≤ 2000000) :
    Calls Tryz.prog 140 #[.slice none 0 0, .int .i64 n] w fun e w' => ∃ v : Value, e = .returned v ∧ Mem w w' [row kE 68 v []] := by
  have h1 : ¬ ((n : Int) < 0) := by omega
  have h2 : wrap64 ((0 : Int) - 0) = 0 := by unfold wrap64; omega
  have h3 : wrap64 ((n : Int) - 0) = (n : Int) := by unfold wrap64; omega
  by_cases h0 : n = 0
  · subst h0
    go_enter Tryz.func140, Tryz.ntmps140
    go_wp2
    go_ret
    exact ⟨_, rfl, row_nil_ (Mem.nil w) kE 68⟩
  · have hp : 0 < n := by omega
    obtain ⟨i0, hi0, hz0, hs0, hb0⟩ := info_parts infoEntry
    have hrz : ∀ ty, (Builtin.append_ #[22, 3] ty #[.slice none 0 0, .int .i64 (n : Int)]).run Tryz.prog w =
        .ok (.slice (some ⟨w.heap.size, 0, none⟩) n (grownCap w n 0 68)) (w.drew.alloc (.cells (Builtin.zeroCells (Value.agg #[.int .i64 0, .string ⟨#[]⟩]).cells n ++ Builtin.zeroCells (Value.agg #[.int .i64 0, .string ⟨#[]⟩]).cells (grownCap w n 0 68 - n)) 68)) := fun ty =>
      Lib.run_append_nil_zeros w 22 3 ty 68 i0 _ .i64 .i64 Tryz.underlying22 Tryz.underlying3 hi0 hz0 n hp (by rw [hs0]; decide) (by omega) (by rw [hb0]; omega)
    have hG : n ≤ grownCap w n 0 68 := grownCap_ge w _ _ _
    have hGm : grownCap w n 0 68 ≤ maxLen := grownCap_le_maxLen w n 0 68 (by unfold maxLen; omega)
    generalize grownCap w n 0 68 = Gc at hrz hG hGm
    have M1 := Aside0.mk ((Mem.nil w).drew.allocAt (Builtin.zeroCells (Value.agg #[.int .i64 0, .string ⟨#[]⟩]).cells n ++ Builtin.zeroCells (Value.agg #[.int .i64 0, .string ⟨#[]⟩]).cells (Gc - n)) 68 w.heap.size rfl)
    have hsz : (Builtin.zeroCells (Value.agg #[.int .i64 0, .string ⟨#[]⟩]).cells n ++ Builtin.zeroCells (Value.agg #[.int .i64 0, .string ⟨#[]⟩]).cells (Gc - n)).size = Gc * 2 := by
      simp only [Array.size_append, size_zeroCells]
      have e1 : (Value.agg #[.int .i64 0, .string ⟨#[]⟩]).cells.size = 2 := rfl
      rw [e1, ← Nat.add_mul]
      congr 1
      omega
    have HSZ := Aside0.mk hsz
    have HGM := Aside0.mk hGm
    have h4 : (n : Int) > 0 := by omega
    have h5 : ((0 : Int) < (n : Int)) = True := eq_true (by omega)
    have hc63 : Gc ≤ 9223372036854775807 := by unfold maxLen at hGm; exact hGm
    clear hsz hi0 hz0 hs0 hb0 h0 hGm
    go_enter Tryz.func140, Tryz.ntmps140
    go_wp2_with (at_builtin; refine Lib.wpList_append_run _ rfl _ _ _ _ rfl _ _ rfl rfl _ _ (hrz _) ?_)
    go_ret
    exact ⟨_, rfl, row_room M1.out 0 rfl HSZ.out HGM.out⟩
/-- How many are in the first k. -/
def sz (a b : Nat) : Nat → Nat
  | 0 => 0
  | 1 => a
  | _ => a + b
def part {α : Type} (a b : List α) : Nat → List α
  | 0 => []
  | 1 => a
  | _ => a ++ b
set_option maxRecDepth 100000 in
set_option maxHeartbeats 4000000 in
theorem concat_calls (gb : Nat) (A1 A2 : Option Addr) (c1 c2 : Nat) (l1 l2 : List Entry) (w : World) (hb : w.heap[gb]? = some (.cells #[.slice A1 l1.length c1, .slice A2 l2.length c2] 22 (0, 0))) (h1 : Kd.C kE w A1 l1.length l1) (h2 : Kd.C kE w A2 l2.length l2) (n1 : l1.length ≤ 1000000) (n2 : l2.length ≤ 1000000) :
    Calls Tryz.prog 133 #[.slice (some ⟨gb, 0, none⟩) 2 2] w fun e w' => ∃ v : Value, e = .returned v ∧ Mem w w' [row kE 68 v (l1 ++ l2)] := by
  have HB := Aside0.mk hb
  have H1 := Aside0.mk h1
  have H2 := Aside0.mk h2
  have HN := Aside0.mk (show l1.length ≤ 1000000 ∧ l2.length ≤ 1000000 from ⟨n1, n2⟩)
  have M0 := Aside0.mk (Mem.nil w)
  have hlt := blk_lt hb
  have HLT := Aside0.mk hlt
  clear hb h1 h2
  have cB := blk_cell HB.out
  go_enter Tryz.func133, Tryz.ntmps133
  go_wp2
  go_loopg [11, 3] 3 (fun kq v11 v3 w' => ∃ (k : Nat), v11 = .int .i64 k ∧ v3 = .int .i64 (sz l1.length l2.length k : Nat) ∧ Aside0 (k ≤ 2 ∧ kq = 3 - k) ∧ w = w')
  case atStart => exact ⟨0, rfl, rfl, ⟨by omega, rfl⟩, rfl⟩
  case round =>
    obtain ⟨k, rfl, rfl, HK, hww⟩ := hrel
    subst hww
    have hk3 : k = 0 ∨ k = 1 ∨ k = 2 := by have := HK.out; omega
    rcases hk3 with rfl | rfl | rfl
    · simp only [sz]
      have e1 : wrap64 (0 + (l1.length : Int)) = (l1.length : Int) := by unfold wrap64; omega
      have e2 : ¬ ((l1.length : Int) < 0) := by omega
      go_wp2
      go_roundg 2
      case measure => have := HK.out; omega
      case rel => exact ⟨1, by first | rfl | go_num, by first | rfl | rw [e1], ⟨by omega, by omega⟩, rfl⟩
    · simp only [sz]
      have e1 : wrap64 ((l1.length : Int) + (l2.length : Int)) = ((l1.length + l2.length : Nat) : Int) := by unfold wrap64; omega
      have e2 : ¬ (((l1.length + l2.length : Nat) : Int) < 0) := by omega
      go_wp2
      go_roundg 1
      case measure => have := HK.out; omega
      case rel => exact ⟨2, by first | rfl | go_num, by first | rfl | rw [e1], ⟨by omega, by omega⟩, rfl⟩
    · simp only [sz]
      go_wp2_with fail
      refine (grow_calls (l1.length + l2.length) _ (by omega)).mono ?_
      rintro e w1 ⟨v, rfl, hM⟩
      have M1 := Aside0.mk hM
      have HD := Aside0.mk (hM.below.block gb HLT.out)
      clear hM cB M0
      go_wp2
      go_loopg [27, 6] 3 (fun kq v27 v6 w' => ∃ (k : Nat), v27 = .int .i64 k ∧ Aside0 (k ≤ 2 ∧ kq = 3 - k) ∧ Aside0 (Mem w w' [row kE 68 v6 (part l1 l2 k)]))
      case atStart => exact ⟨0, rfl, ⟨by omega, rfl⟩, M1⟩
      case round =>
        obtain ⟨k, rfl, HK, M2⟩ := hrel
        have hk3 : k = 0 ∨ k = 1 ∨ k = 2 := by have := HK.out; omega
        clear M1 HD
        have cB := fun j => (blk_cell ((M2.out.below.block gb HLT.out).trans HB.out) j)
        rcases hk3 with rfl | rfl | rfl
        · simp only [part] at M2
          go_wp2_with (((with_reducible refine gate_builtin (b := .append) (xs := #[.tmp 31, .tmp 32]) rfl ?_); at_builtin; refine Mem.app kE M2.out 0 _ [] l1 rfl (.tmp 31) (.tmp 32) 22 68 _ _ rfl Tryz.underlying22 infoEntry rfl (by decide) (by omega) A1 _ c1 rfl rfl rfl (Kd.C_below H1.out M2.out.below) (fun x cs h => h) (by have := HN.out; simp; omega) ?_; intro v1 w2 hM1; have M3 := Aside0.mk hM1; clear hM1))
          go_roundg 2
          case measure => have := HK.out; omega
          case rel => exact ⟨1, by first | rfl | go_num, ⟨by omega, by omega⟩, M3⟩
        · simp only [part] at M2
          go_wp2_with (((with_reducible refine gate_builtin (b := .append) (xs := #[.tmp 31, .tmp 32]) rfl ?_); at_builtin; refine Mem.app kE M2.out 0 _ l1 l2 rfl (.tmp 31) (.tmp 32) 22 68 _ _ rfl Tryz.underlying22 infoEntry rfl (by decide) (by omega) A2 _ c2 rfl rfl rfl (Kd.C_below H2.out M2.out.below) (fun x cs h => h) (by have := HN.out; simp; omega) ?_; intro v1 w2 hM1; have M3 := Aside0.mk hM1; clear hM1))
          go_roundg 1
          case measure => have := HK.out; omega
          case rel => exact ⟨2, by first | rfl | go_num, ⟨by omega, by omega⟩, M3⟩
        · simp only [part] at M2
          go_wp2
          go_ret
          exact ⟨_, rfl, M2.out⟩
set_option maxRecDepth 100000 in
set_option maxHeartbeats 4000000 in
theorem rises_calls (A1 A2 : Option Addr) (c1 c2 : Nat) (l1 l2 : List Entry) (w : World) (h1 : Kd.C kE w A1 l1.length l1) (h2 : Kd.C kE w A2 l2.length l2) (n1 : l1.length ≤ 1000000) (n2 : l2.length ≤ 1000000) (b : Bool) (hb : log (l1 ++ l2) = b) :
    Calls Tryz.prog 127 #[.slice A1 l1.length c1, .slice A2 l2.length c2] w fun e w' => e = .returned (.bool b) ∧ Mem w w' [] := by
  have M1 := Aside0.mk ((Mem.nil w).allocAt #[.slice A1 l1.length c1, .slice A2 l2.length c2] 22 w.heap.size rfl)
  have H1 := Aside0.mk (Kd.C_below h1 M1.out.below)
  have H2 := Aside0.mk (Kd.C_below h2 M1.out.below)
  have HN := Aside0.mk (show l1.length ≤ 1000000 ∧ l2.length ≤ 1000000 from ⟨n1, n2⟩)
  obtain ⟨l3, hl3⟩ : ∃ l3, l1 ++ l2 = l3 := ⟨_, rfl⟩
  rw [hl3] at hb
  have HL3 := Aside0.mk hl3
  have HB := Aside0.mk hb
  have HN3 := Aside0.mk (show l3.length ≤ 2000000 by rw [← hl3]; simp; omega)
  clear h1 h2 hl3 hb
  go_enter Tryz.func127, Tryz.ntmps127
  go_wp2_with fail
  refine (concat_calls w.heap.size A1 A2 c1 c2 l1 l2 _ (M1.out.blk_at 0 rfl) H1.out H2.out HN.out.1 HN.out.2).mono ?_
  rintro e w1 ⟨v, rfl, hM⟩
  rw [HL3.out] at hM
  obtain ⟨B, d, rfl, _, hC⟩ := hM.row_at 0 rfl
  have M2 := Aside0.mk (M1.out.trans hM)
  have HC := Aside0.mk hC
  clear hM hC
  go_wp2_with fail
  refine (log_calls B d l3 _ HC.out (by have := HN3.out; omega)).mono ?_
  rintro e w2 ⟨he, hM⟩
  rw [HB.out] at he
  subst he
  have M3 := Aside0.mk (M2.out.trans hM)
  clear hM
  go_wp2
  go_ret
  exact ⟨rfl, Mem.sel (ps := [_, _]) (F := []) [] 2 M3.out rfl rfl⟩
end Go.Proofs.YtggbjokhniigkaaGreat.Co

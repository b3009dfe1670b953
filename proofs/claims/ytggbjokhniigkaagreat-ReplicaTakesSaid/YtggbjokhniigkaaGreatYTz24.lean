/- Texts laid together: Cq, Uc2, Tt3. No condition. -/
import Derived.Deep.RegionHeld3
import Derived.Test.YtggbjokhniigkaaGreatYTz23
set_option linter.unusedVariables false
set_option linter.unusedSimpArgs false
set_option maxRecDepth 100000
set_option maxHeartbeats 8000000
namespace Go.Proofs.YtggbjokhniigkaaGreat.Cq
open Lx Ty Go.RowKit YtggbjokhniigkaaGreatW.PrintWords YtggbjokhniigkaaGreatW.PrintLast YtggbjokhniigkaaGreatW.PrintMore Mx Kx Wa Tk Sa Rb Rp Wj Wd Mo Cp
def Prepared11Does (w0 w : World) (F : List Res) (g : Nat) (m : Msg) (A : Option Addr) (c : Nat) (s : Rep) (out : List Msg) : Prop :=
  Calls Tryz.prog 71 #[.pointer (some ⟨g, 0, none⟩), .agg (Kx.mA m A c)] w fun e w' => ∃ vout v5' v7' v8' v9' v10' : Value, e = .returned vout ∧ Mem w0 w' (qS g s v5' s.f5 s.f6 v7' v8' v9' v10' (row kM 27 vout out :: F))
theorem primary11_quiet (w : World) (k g : Nat) (i n vw nr hw : Int) (vl : Value) (cm : Int) (va vv vo vb : Value) (bv bd : Int)
    (hb : w.heap[g]? = some (.cells (qc i n vw nr hw vl cm va vv vo vb bv bd) 25 (0, 0))) (hv : 0 ≤ vw) (hv2 : vw ≤ 4611686018427387904) (hn : 0 < n) (hn2 : n ≤ 5) (b : Bool) (e : (vw % n == i) = b) :
    Calls Tryz.prog 114 #[.pointer (some ⟨g, 0, none⟩)] (w.drewN k) fun e w' => e = .returned (.bool b) ∧ ∃ m, w' = w.drewN m :=
  (primary11_calls (w.drewN k) g i n vw nr hw vl cm va vv vo vb bv bd hb hv hv2 hn hn2).mono fun e' w' h => ⟨by rw [h.1, e], by obtain ⟨m, h2⟩ := h.2.out; rw [h2]; exact (Drawn0.step (⟨⟨k, rfl⟩⟩ : Drawn0 w (w.drewN k)) m).out⟩
theorem cnt_take (zs : List Int) (i : Int) (k : Nat) (h : k < zs.length) : Tq.cnt (zs.take (k + 1)) i = Tq.cnt (zs.take k) i + (if i ≤ rd zs (k : Int) then 1 else 0) := by
  rw [← Ad.take_snoc zs k h]
  unfold Tq.cnt
  rw [List.filter_append, List.length_append]
  congr 1
  by_cases h2 : i ≤ rd zs (k : Int)
  · simp [h2]
  · simp [h2]
theorem prepared11_n1 (w0 w : World) (F : List Res) (g : Nat) (r s : Rep) (m : Msg) (v5 v7 v8 v9 v10 : Value) (ms : List Msg) (A : Option Addr) (c : Nat) (hM : Mem w0 w (qS g r v5 r.f5 r.f6 v7 v8 v9 v10 F)) (H0 : PreparedIn r m) (h1 : ¬ m.f3 = r.f2) : Prepared11Does w0 w F g m A c r [] := by
  obtain ⟨e1, e1'⟩ := ne_b h1
  clear h1
  unfold Prepared11Does
  obtain ⟨B5, d5, rfl, _, _⟩ := hM.row_at 1 rfl
  have H := Aside0.mk H0
  have M1 := Aside0.mk (hM.alloc (Kx.mA m A c) 27)
  clear hM H0
  have cM := blk_cell (M1.out.blk_at 0 rfl)
  have cG := blk_cell (M1.out.blk_at 1 rfl)
  unfold qc at cG
  go_enter Tryz.func71, Tryz.ntmps71
  go_wp2_with fail
  have hW := M1.out.blk_at 1 rfl
  go_quiet (fail)
  clear hW
  go_wp2
  go_ret
  exact ⟨_, _, _, _, _, _, rfl, Mem.sel (ps := [_, _, _, _, _, _, _, _]) (F := F) [2, 3, 4, 5, 6, 7, 0] 8 (Mem.row_nil (M1.out.drewN _) kM 27) rfl rfl⟩
theorem prepared11_n2 (w0 w : World) (F : List Res) (g : Nat) (r s : Rep) (m : Msg) (v5 v7 v8 v9 v10 : Value) (ms : List Msg) (A : Option Addr) (c : Nat) (hM : Mem w0 w (qS g r v5 r.f5 r.f6 v7 v8 v9 v10 F)) (H0 : PreparedIn r m) (h1 : m.f3 = r.f2) (h2 : ¬ r.f4 = 0) : Prepared11Does w0 w F g m A c r [] := by
  obtain ⟨e1, e1'⟩ := eq_b h1
  obtain ⟨e2, e2'⟩ := ne_b h2
  clear h1 h2
  unfold Prepared11Does
  obtain ⟨B5, d5, rfl, _, _⟩ := hM.row_at 1 rfl
  have H := Aside0.mk H0
  have M1 := Aside0.mk (hM.alloc (Kx.mA m A c) 27)
  clear hM H0
  have cM := blk_cell (M1.out.blk_at 0 rfl)
  have cG := blk_cell (M1.out.blk_at 1 rfl)
  unfold qc at cG
  go_enter Tryz.func71, Tryz.ntmps71
  go_wp2_with fail
  have hW := M1.out.blk_at 1 rfl
  go_quiet (fail)
  clear hW
  go_wp2
  go_ret
  exact ⟨_, _, _, _, _, _, rfl, Mem.sel (ps := [_, _, _, _, _, _, _, _]) (F := F) [2, 3, 4, 5, 6, 7, 0] 8 (Mem.row_nil (M1.out.drewN _) kM 27) rfl rfl⟩
theorem prepared11_n3 (w0 w : World) (F : List Res) (g : Nat) (r s : Rep) (m : Msg) (v5 v7 v8 v9 v10 : Value) (ms : List Msg) (A : Option Addr) (c : Nat) (hM : Mem w0 w (qS g r v5 r.f5 r.f6 v7 v8 v9 v10 F)) (H0 : PreparedIn r m) (h1 : m.f3 = r.f2) (h2 : r.f4 = 0) (h3 : ¬ r.f2 % r.f1 = r.f0) : Prepared11Does w0 w F g m A c r [] := by
  obtain ⟨e1, e1'⟩ := eq_b h1
  obtain ⟨e2, e2'⟩ := eq_b h2
  obtain ⟨e3, e3'⟩ := ne_b h3
  clear h1 h2 h3
  unfold Prepared11Does
  obtain ⟨B5, d5, rfl, _, _⟩ := hM.row_at 1 rfl
  have H := Aside0.mk H0
  have M1 := Aside0.mk (hM.alloc (Kx.mA m A c) 27)
  clear hM H0
  have cM := blk_cell (M1.out.blk_at 0 rfl)
  have cG := blk_cell (M1.out.blk_at 1 rfl)
  unfold qc at cG
  go_enter Tryz.func71, Tryz.ntmps71
  go_wp2_with fail
  have hW := M1.out.blk_at 1 rfl
  go_quiet ((go_at_call 114; exact primary11_quiet _ _ g r.f0 r.f1 r.f2 r.f3 r.f4 _ r.f6 _ _ _ _ r.f11 r.f12 hW H.out.w0 H.out.w1 (by have := H.out.i0; have := H.out.i1; omega) H.out.n5 false e3))
  clear hW
  go_wp2
  go_ret
  exact ⟨_, _, _, _, _, _, rfl, Mem.sel (ps := [_, _, _, _, _, _, _, _]) (F := F) [2, 3, 4, 5, 6, 7, 0] 8 (Mem.row_nil (M1.out.drewN _) kM 27) rfl rfl⟩
theorem prepared11_on (w0 w : World) (F : List Res) (g : Nat) (r s : Rep) (m : Msg) (v5 v7 v8 v9 v10 : Value) (ms : List Msg) (A : Option Addr) (c : Nat) (hM : Mem w0 w (qS g r v5 r.f5 r.f6 v7 v8 v9 v10 F)) (H0 : PreparedIn r m) (h1 : m.f3 = r.f2) (h2 : r.f4 = 0) (h3 : r.f2 % r.f1 = r.f0) (hs : tPrepared r m = (s, ms)) : Prepared11Does w0 w F g m A c s ms := by
  have HSS := Aside0.mk hs
  have H123 := Aside0.mk (And.intro h1 (And.intro h2 h3))
  obtain ⟨e1, e1'⟩ := eq_b h1
  obtain ⟨e2, e2'⟩ := eq_b h2
  obtain ⟨e3, e3'⟩ := eq_b h3
  clear h1 h2 h3 hs
  obtain ⟨g7, k7, rfl, hg7⟩ := hM.int_form 2 rfl (by have := H0.i0; have := H0.i1; have := H0.l7; omega)
  clear hg7
  unfold Prepared11Does
  obtain ⟨B5, d5, rfl, _, _⟩ := hM.row_at 1 rfl
  have H := Aside0.mk H0
  have M1 := Aside0.mk (hM.alloc (Kx.mA m A c) 27)
  clear hM H0
  have cM := blk_cell (M1.out.blk_at 0 rfl)
  have cG := blk_cell (M1.out.blk_at 1 rfl)
  unfold qc at cG
  go_enter Tryz.func71, Tryz.ntmps71
  go_wp2_with fail
  go_upto_region 1 with (fail)
  go_cut [27] (fun s27 wx => s27 = .bool false ∧ Aside0 (Mem w0 wx (blk w.heap.size 27 (Kx.mA m A c) :: blk g 25 (qc r.f0 r.f1 r.f2 r.f3 r.f4 (.slice B5 r.f5.length d5) r.f6 (.slice (some ⟨g7, 0, none⟩) r.f7.length k7) v8 v9 v10 r.f11 r.f12) :: row kE 68 (.slice B5 r.f5.length d5) r.f5 :: row (Kd.int .i64) 3 (.slice (some ⟨g7, 0, none⟩) r.f7.length k7) r.f7 :: row (Kd.int .i64) 3 v8 r.f8 :: row (Kd.int .i64) 3 v9 r.f9 :: row kE 68 v10 r.f10 :: F)))
  case first =>
    have hW := M1.out.blk_at 1 rfl
    go_quiet ((go_at_call 114; exact primary11_quiet _ _ g r.f0 r.f1 r.f2 r.f3 r.f4 _ r.f6 _ _ _ _ r.f11 r.f12 hW H.out.w0 H.out.w1 (by have := H.out.i0; have := H.out.i1; omega) H.out.n5 true e3))
    go_wp2_with fail
    go_meet
    case rel => exact ⟨rfl, ⟨M1.out.drewN _⟩⟩
  case rest =>
  obtain ⟨rfl, M2⟩ := hcut
  clear M1 cM cG e1 e1' e2 e2' e3 e3'
  obtain ⟨x, hx⟩ : ∃ x, min (max (rd r.f7 m.f1) m.f4) (r.f5.length : Int) = x := ⟨_, rfl⟩
  have hrm : rd r.f7 m.f1 ∈ r.f7 := by
    have h := Ij.rd_mem r.f7 m.f1.toNat (by have := H.out.x0; have := H.out.x1; have := H.out.l7; omega)
    rwa [Int.toNat_of_nonneg H.out.x0] at h
  have hrb := H.out.b7 _ hrm
  have HX := Aside0.mk (show min (max (rd r.f7 m.f1) m.f4) (r.f5.length : Int) = x ∧ max (rd r.f7 m.f1) (min m.f4 (r.f5.length : Int)) = x ∧ 0 ≤ x ∧ x ≤ (r.f5.length : Int) from ⟨hx, by omega, by omega, by omega⟩)
  clear hx hrm hrb
  go_upto_region 3 with (fail)
  go_cut [] (fun wy => Aside0 (Mem w0 wy (blk w.heap.size 27 (Kx.mA m A c) :: blk g 25 (qc r.f0 r.f1 r.f2 r.f3 r.f4 (.slice B5 r.f5.length d5) r.f6 (.slice (some ⟨g7, 0, none⟩) r.f7.length k7) v8 v9 v10 r.f11 r.f12) :: row kE 68 (.slice B5 r.f5.length d5) r.f5 :: row (Kd.int .i64) 3 (.slice (some ⟨g7, 0, none⟩) r.f7.length k7) (r.f7.set m.f1.toNat x) :: row (Kd.int .i64) 3 v8 r.f8 :: row (Kd.int .i64) 3 v9 r.f9 :: row kE 68 v10 r.f10 :: F)))
  case first =>
    have cM := blk_cell (M2.out.blk_at 0 rfl)
    have cG := blk_cell (M2.out.blk_at 1 rfl)
    unfold qc at cG
    have hi0 := H.out.x0
    have hi2 : m.f1 < (r.f7.length : Int) := by have := H.out.x1; have := H.out.l7; omega
    have x7 := (M2.out.int_cell 3 rfl m.f1 hi0 hi2).1
    have y7 := (M2.out.int_cell 3 rfl m.f1 hi0 hi2).2
    have hi3 : (m.f1 < (r.f7.length : Int)) = True := eq_true hi2
    go_region
    go_wp2_with fail
    go_meet
    case rel =>
      have hx := HX.out.2.1
      subst hx
      exact ⟨(M2.out.int_put 3 rfl m.f1 _).drew⟩
  case rest =>
  clear M2
  have M2 := hcut
  clear hcut
  obtain ⟨zs, hz⟩ : ∃ zs, r.f7.set m.f1.toNat x = zs := ⟨_, rfl⟩
  have hlz : r.f7.length = zs.length := by rw [← hz, List.length_set]
  have HZ : Aside0 (r.f7.set m.f1.toNat (min (max (rd r.f7 m.f1) m.f4) (r.f5.length : Int)) = zs) := ⟨by rw [HX.out.1]; exact hz⟩
  have HLZ := Aside0.mk (show (zs.length : Int) = r.f1 from by rw [← hlz]; exact H.out.l7)
  have hzb : ∀ n ∈ zs, n ≤ (r.f5.length : Int) := fun n hn => by
    rw [← hz] at hn
    rcases List.mem_or_eq_of_mem_set hn with h | h
    · exact (H.out.b7 n h).2
    · rw [h]
      exact HX.out.2.2.2
  have M3 : Aside0 (Mem w0 wc (blk w.heap.size 27 (Kx.mA m A c) :: blk g 25 (qc r.f0 r.f1 r.f2 r.f3 r.f4 (.slice B5 r.f5.length d5) r.f6 (.slice (some ⟨g7, 0, none⟩) zs.length k7) v8 v9 v10 r.f11 r.f12) :: row kE 68 (.slice B5 r.f5.length d5) r.f5 :: row (Kd.int .i64) 3 (.slice (some ⟨g7, 0, none⟩) zs.length k7) zs :: row (Kd.int .i64) 3 v8 r.f8 :: row (Kd.int .i64) 3 v9 r.f9 :: row kE 68 v10 r.f10 :: F)) := ⟨by have h := M2.out; rw [hz, hlz] at h; exact h⟩
  obtain ⟨q, hq⟩ : ∃ q, quorum zs r.f1 = q := ⟨_, rfl⟩
  have HQ := Aside0.mk hq
  have HQL : Aside0 (q ≤ (r.f5.length : Int)) := ⟨by rw [← hq]; exact hzb _ (Tq.quorum_mem HLZ.out H.out.sz)⟩
  have HQI : Aside0 (∀ i : Int, most r.f1 ≤ (Tq.cnt zs i : Int) ↔ i ≤ q) := ⟨fun i => by rw [← hq]; exact Tq.quorum_iff HLZ.out H.out.sz i⟩
  clear M2 HX hz hlz hzb hq
  have cG := blk_cell (M3.out.blk_at 1 rfl)
  unfold qc at cG
  have HC := Aside0.mk (show 0 ≤ r.f6 ∧ r.f6 ≤ (r.f5.length : Int) ∧ r.f5.length ≤ 1200 ∧ zs.length ≤ 5 from ⟨H.out.c0, H.out.c1, H.out.l5, by have := HLZ.out; have := H.out.n5; omega⟩)
  have hwc : wrap64 (r.f6 + 1) = r.f6 + 1 := by have := HC.out; unfold wrap64; omega
  go_wp2_with fail
  clear cG hwc
  go_loopg [5, 6] ((r.f5.length : Int) + 1 - r.f6).toNat (fun kq s5 s6 wr => ∃ (i b : Int), s5 = .int .i64 b ∧ s6 = .int .i64 i ∧ Aside0 (r.f6 + 1 ≤ i ∧ i ≤ (r.f5.length : Int) + 1 ∧ (kq : Int) = (r.f5.length : Int) + 2 - i ∧ b = max r.f6 (min q (i - 1))) ∧ Aside0 (Mem w0 wr (blk w.heap.size 27 (Kx.mA m A c) :: blk g 25 (qc r.f0 r.f1 r.f2 r.f3 r.f4 (.slice B5 r.f5.length d5) r.f6 (.slice (some ⟨g7, 0, none⟩) zs.length k7) v8 v9 v10 r.f11 r.f12) :: row kE 68 (.slice B5 r.f5.length d5) r.f5 :: row (Kd.int .i64) 3 (.slice (some ⟨g7, 0, none⟩) zs.length k7) zs :: row (Kd.int .i64) 3 v8 r.f8 :: row (Kd.int .i64) 3 v9 r.f9 :: row kE 68 v10 r.f10 :: F)))
  case atStart => exact ⟨r.f6 + 1, r.f6, rfl, by rw [show wrap64 (r.f6 + 1) = r.f6 + 1 from by have := HC.out; unfold wrap64; omega], ⟨by omega, by have := HC.out; omega, by have := HC.out; omega, by omega⟩, M3⟩
  case round =>
    obtain ⟨i, b, rfl, rfl, HK, M4⟩ := hrel
    clear M3
    have cG := blk_cell (M4.out.blk_at 1 rfl)
    unfold qc at cG
    have hl5 : (r.f5.length : Int) ≤ 1200 := by have := HC.out; omega
    by_cases hi : i ≤ (r.f5.length : Int)
    · have f1 : decide (i ≤ (r.f5.length : Int)) = true := decide_eq_true hi
      have HI := Aside0.mk hi
      clear hi hl5
      obtain ⟨wo, hwo⟩ : ∃ wo : World, wr = wo := ⟨_, rfl⟩
      have M5 : Aside0 (Mem w0 wo (blk w.heap.size 27 (Kx.mA m A c) :: blk g 25 (qc r.f0 r.f1 r.f2 r.f3 r.f4 (.slice B5 r.f5.length d5) r.f6 (.slice (some ⟨g7, 0, none⟩) zs.length k7) v8 v9 v10 r.f11 r.f12) :: row kE 68 (.slice B5 r.f5.length d5) r.f5 :: row (Kd.int .i64) 3 (.slice (some ⟨g7, 0, none⟩) zs.length k7) zs :: row (Kd.int .i64) 3 v8 r.f8 :: row (Kd.int .i64) 3 v9 r.f9 :: row kE 68 v10 r.f10 :: F)) := ⟨by rw [← hwo]; exact M4.out⟩
      rw [hwo] at cG ⊢
      clear hwo M4
      go_wp2_with fail
      clear f1
      go_loopg [7, 8] (zs.length + 1) (fun kq s7 s8 wr => ∃ (k n : Nat), s7 = .int .i64 n ∧ s8 = .int .i64 k ∧ Aside0 (k ≤ zs.length ∧ kq = zs.length + 1 - k ∧ n = Tq.cnt (zs.take k) i ∧ n ≤ k) ∧ Aside0 (Mem w0 wr (blk w.heap.size 27 (Kx.mA m A c) :: blk g 25 (qc r.f0 r.f1 r.f2 r.f3 r.f4 (.slice B5 r.f5.length d5) r.f6 (.slice (some ⟨g7, 0, none⟩) zs.length k7) v8 v9 v10 r.f11 r.f12) :: row kE 68 (.slice B5 r.f5.length d5) r.f5 :: row (Kd.int .i64) 3 (.slice (some ⟨g7, 0, none⟩) zs.length k7) zs :: row (Kd.int .i64) 3 v8 r.f8 :: row (Kd.int .i64) 3 v9 r.f9 :: row kE 68 v10 r.f10 :: F)))
      case atStart => exact ⟨0, 0, rfl, rfl, ⟨Nat.zero_le _, rfl, rfl, Nat.le_refl _⟩, M5⟩
      case round =>
        obtain ⟨k, n, rfl, rfl, HK2, M6⟩ := hrel
        clear M5 cG
        have cG := blk_cell (M6.out.blk_at 1 rfl)
        unfold qc at cG
        by_cases hk : k < zs.length
        · have p1 : ((k : Int) < r.f1) = True := eq_true (by rw [← HLZ.out]; omega)
          have p2 : decide ((k : Int) < r.f1) = true := decide_eq_true (by rw [← HLZ.out]; omega)
          have p3 : ((k : Int) < (zs.length : Int)) = True := eq_true (by omega)
          have p4 : decide ((k : Int) < (zs.length : Int)) = true := decide_eq_true (by omega)
          have p5 : decide (k < zs.length) = true := decide_eq_true hk
          have x7 := (M6.out.int_cell 3 rfl (k : Int) (by omega) (by omega)).1
          rw [Int.toNat_natCast] at x7
          have HCT := Aside0.mk (cnt_take zs i k hk)
          have hn5 : n ≤ 5 := by have := HK2.out.2.2.2; have := HC.out.2.2.2; omega
          have hk5 : k ≤ 5 := by have := HC.out.2.2.2; omega
          have w1 : wrap64 ((n : Int) + 1) = (n : Int) + 1 := by unfold wrap64; omega
          have w2 : wrap64 ((k : Int) + 1) = (k : Int) + 1 := by unfold wrap64; omega
          clear hn5 hk5
          by_cases hr : i ≤ rd zs (k : Int)
          · have p6 : decide (i ≤ rd zs (k : Int)) = true := decide_eq_true hr
            have HR := Aside0.mk hr
            clear hr
            go_wp2_with fail
            clear p1 p2 p3 p4 p6 x7
            go_roundg (zs.length - k)
            case measure => have := HK2.out; omega
            case rel => exact ⟨k + 1, n + 1, by rw [w1]; rfl, by rw [w2]; rfl, ⟨by omega, by omega, by rw [HCT.out, if_pos HR.out, HK2.out.2.2.1], by have := HK2.out; omega⟩, M6⟩
          · have p6 : decide (i ≤ rd zs (k : Int)) = false := decide_eq_false hr
            have HR := Aside0.mk (Int.not_le.1 hr)
            clear hr
            go_wp2_with fail
            clear p1 p2 p3 p4 p6 x7
            go_roundg (zs.length - k)
            case measure => have := HK2.out; omega
            case rel => exact ⟨k + 1, n, rfl, by rw [w2]; rfl, ⟨by omega, by omega, by rw [HCT.out, if_neg (Int.not_le.2 HR.out), HK2.out.2.2.1]; rfl, by have := HK2.out; omega⟩, M6⟩
        · have hkn : k = zs.length := by have := HK2.out.1; omega
          have p1 : ((k : Int) < r.f1) = False := eq_false (by rw [← HLZ.out]; omega)
          have p2 : decide ((k : Int) < r.f1) = false := decide_eq_false (by rw [← HLZ.out]; omega)
          have HN : Aside0 (n = Tq.cnt zs i) := ⟨by rw [HK2.out.2.2.1, hkn, List.take_length]⟩
          clear hk hkn
          go_wp2_with fail
          refine (most11_calls _ r.f1 (by have := H.out.i0; have := H.out.i1; omega) H.out.n5).mono ?_
          rintro e w3 ⟨rfl, hD⟩
          have M7 := Aside0.mk (M6.out.drawn hD)
          clear M6 hD cG p1 p2
          have hil : i ≤ 1200 := by have := HI.out; have := HC.out; omega
          have hi0 : 0 ≤ i := by have := HK.out; have := HC.out; omega
          have w1 : wrap64 (i + 1) = i + 1 := by unfold wrap64; omega
          clear hil hi0
          by_cases hq : i ≤ q
          · have p3 : decide (most r.f1 ≤ (n : Int)) = true := decide_eq_true (by rw [HN.out]; exact (HQI.out i).2 hq)
            have HQ2 := Aside0.mk hq
            clear hq
            go_wp2_with fail
            clear p3
            go_roundg (r.f5.length + 1 - i).toNat
            case measure => have := HK.out; have := HI.out; omega
            case rel => exact ⟨i + 1, i, rfl, by rw [w1], ⟨by have := HK.out; omega, by have := HI.out; omega, by have := HI.out; omega, by have := HQ2.out; have := HK.out; omega⟩, M7⟩
          · have p3 : decide (most r.f1 ≤ (n : Int)) = false := decide_eq_false (fun h => hq ((HQI.out i).1 (by rw [HN.out] at h; exact h)))
            have HQ2 := Aside0.mk (Int.not_le.1 hq)
            clear hq
            go_wp2_with fail
            clear p3
            go_roundg (r.f5.length + 1 - i).toNat
            case measure => have := HK.out; have := HI.out; omega
            case rel => exact ⟨i + 1, b, rfl, by rw [w1], ⟨by have := HK.out; omega, by have := HI.out; omega, by have := HI.out; omega, by have := HQ2.out; have := HK.out; omega⟩, M7⟩
    · have f1 : decide (i ≤ (r.f5.length : Int)) = false := decide_eq_false hi
      have hb : b = max r.f6 q := by have := HK.out; have := HQL.out; omega
      clear hi hl5
      subst hb
      by_cases h6 : r.f6 < q
      · have e5 : max r.f6 q = q := by omega
        have H6 := Aside0.mk h6
        obtain ⟨e6, e6'⟩ := ne_b (show ¬ q = r.f6 by omega)
        rw [e5]
        clear h6 e5
        have fG := blk_frozen (M4.out.blk_at 1 rfl)
        have gG := blk_lt (M4.out.blk_at 1 rfl)
        go_wp2_with fail
        refine (all11_calls w0 _ emp _ g r.f0 r.f1 r.f2 r.f3 r.f4 _ q _ v8 v9 v10 r.f11 r.f12 3 0 0 0 0 q 0 none 0 [] (Mem.sel (ps := [_, _, _, _, _, _, _, _]) (F := F) [0, 2, 3, 4, 5, 6, 7] 8 (Mem.cons_emp (M4.out.set 1 rfl 6 (.int .i64 q))) rfl rfl) (Rd.old (C_zero _)) (by decide) (by decide) (by have := H.out.i0; have := H.out.i1; omega) H.out.n5).mono ?_
        rintro e w3 ⟨vo2, rfl, hM⟩
        have M6 := Aside0.mk hM
        clear hM
        go_wp2
        first | (refine bodyPost_ret (results_tmp rfl _ _ _) rfl ?_) | go_ret
        obtain ⟨hs1, hs2⟩ := pair_inj ((tPrepared_more H123.out.1 H123.out.2.1 H123.out.2.2 HZ.out HQ.out H6.out).symm.trans HSS.out)
        subst hs1
        subst hs2
        exact ⟨_, _, _, _, _, _, rfl, Mem.sel (ps := [_, _, _, _, _, _, _, _]) (F := F) [2, 3, 4, 5, 6, 7, 0] 8 M6.out rfl rfl⟩
      · have e5 : max r.f6 q = r.f6 := by omega
        have H6 := Aside0.mk h6
        rw [e5]
        clear h6 e5
        go_wp2
        first | (refine bodyPost_ret (results_tmp rfl _ _ _) rfl ?_) | go_ret
        obtain ⟨hs1, hs2⟩ := pair_inj ((tPrepared_few H123.out.1 H123.out.2.1 H123.out.2.2 HZ.out HQ.out (by first | exact H6.out | exact Int.not_lt.2 H6.out)).symm.trans HSS.out)
        subst hs1
        subst hs2
        have M8 := Mem.sel (ps := [_, _, _, _, _, _, _, _]) (F := F) [2, 3, 4, 5, 6, 7, 0] 8 (Mem.row_nil M4.out kM 27) rfl rfl
        first | exact ⟨_, rfl, _, _, _, _, _, M8⟩ | exact ⟨_, _, _, _, _, _, rfl, M8⟩
theorem prepared11_calls (w0 w : World) (F : List Res) (g : Nat) (r s : Rep) (m : Msg) (v5 v7 v8 v9 v10 : Value) (ms : List Msg) (A : Option Addr) (c : Nat) (hM : Mem w0 w (qS g r v5 r.f5 r.f6 v7 v8 v9 v10 F)) (H0 : PreparedIn r m) (hs : tPrepared r m = (s, ms)) : Prepared11Does w0 w F g m A c s ms := by
  by_cases h1 : m.f3 = r.f2
  case neg =>
    obtain ⟨e1, e2⟩ := pair_inj ((tPrepared_no (.inl h1)).symm.trans hs)
    subst e1
    subst e2
    exact prepared11_n1 w0 w F g r r m v5 v7 v8 v9 v10 [] A c hM H0 h1
  by_cases h2 : r.f4 = 0
  case neg =>
    obtain ⟨e1, e2⟩ := pair_inj ((tPrepared_no (.inr (.inl h2))).symm.trans hs)
    subst e1
    subst e2
    exact prepared11_n2 w0 w F g r r m v5 v7 v8 v9 v10 [] A c hM H0 h1 h2
  by_cases h3 : r.f2 % r.f1 = r.f0
  case neg =>
    obtain ⟨e1, e2⟩ := pair_inj ((tPrepared_no (.inr (.inr h3))).symm.trans hs)
    subst e1
    subst e2
    exact prepared11_n3 w0 w F g r r m v5 v7 v8 v9 v10 [] A c hM H0 h1 h2 h3
  exact prepared11_on w0 w F g r s m v5 v7 v8 v9 v10 ms A c hM H0 h1 h2 h3 hs
end Go.Proofs.YtggbjokhniigkaaGreat.Cq
namespace Go.Proofs.YtggbjokhniigkaaGreat.Uc2
open Ty Go.RowKit YtggbjokhniigkaaGreatW.PrintWords YtggbjokhniigkaaGreatW.PrintLast YtggbjokhniigkaaGreatW.PrintMore Mx Kx Wa Wd Vc Wj Tk Tb Tn Tz Ua Un Ub2 Cp Cq
theorem len_all (id n view : Int) (m : Msg) : ∀ (k : Nat) (i : Int), (allFrom id n view m k i).length ≤ k
  | 0, _ => Nat.le_refl _
  | k + 1, i => by
    simp only [allFrom]
    have := len_all id n view m k (i + 1)
    split
    · split
      · omega
      · rw [List.length_cons]
        omega
    · exact Nat.zero_le _
theorem all_nil (id n view : Int) (m : Msg) (h0 : m.f7 = []) : ∀ (k : Nat) (i : Int), ∀ x ∈ allFrom id n view m k i, x.f7 = []
  | 0, _, _, h => by cases h
  | k + 1, i, x, h => by
    simp only [allFrom] at h
    split at h
    · split at h
      · exact all_nil id n view m h0 k (i + 1) x h
      · rcases List.mem_cons.1 h with rfl | h
        · exact h0
        · exact all_nil id n view m h0 k (i + 1) x h
    · cases h
theorem few_prepared {r : Rep} {m : Msg} (hs : r.f5.length ≤ 1200 ∧ r.f7.length ≤ 20 ∧ r.f8.length ≤ 20 ∧ r.f9.length ≤ 20 ∧ r.f10.length ≤ 1200) (hn : r.f1 ≤ 5) : FewOf (tPrepared r m).1 (tPrepared r m).2 := by
  have hz : ∀ x : Int, (r.f7.set m.f1.toNat x).length ≤ 20 := fun x => by rw [List.length_set]; exact hs.2.1
  have none_few : ([] : List Msg).length ≤ 1000000000 ∧ ∀ i, (rd_Msg [] i).f7.length ≤ 1000000000 := ⟨Nat.zero_le _, rd_f7 (by simp)⟩
  unfold tPrepared
  split
  · exact few_same hs
  · dsimp only
    split
    · refine ⟨⟨Nat.le_trans hs.1 (by decide), Nat.le_trans hs.1 (by decide), Nat.le_trans (hz _) (by decide), Nat.le_trans hs.2.2.1 (by decide), Nat.le_trans hs.2.2.2.1 (by decide), Nat.le_trans hs.2.2.2.2 (by decide)⟩, ?_, rd_f7 (fun x hx => ?_)⟩
      · refine Nat.le_trans (len_all _ _ _ _ _ _) ?_
        show r.f1.toNat ≤ _
        omega
      · rw [all_nil _ _ _ _ rfl _ _ x hx]
        exact Nat.zero_le _
    · exact ⟨⟨Nat.le_trans hs.1 (by decide), Nat.le_trans hs.1 (by decide), Nat.le_trans (hz _) (by decide), Nat.le_trans hs.2.2.1 (by decide), Nat.le_trans hs.2.2.2.1 (by decide), Nat.le_trans hs.2.2.2.2 (by decide)⟩, none_few⟩
theorem good_2 (r : Rep) (m : Msg) (A5 A7 A8 A9 A10 A : Option Addr) (c5 c7 c8 c9 c10 c : Nat) (hk : m.f0 = 2) (hc : Fit r c5 c7 c8 c9 c10) (hs : r.f5.length ≤ 1200 ∧ r.f7.length ≤ 20 ∧ r.f8.length ≤ 20 ∧ r.f9.length ≤ 20 ∧ r.f10.length ≤ 1200) (hln : m.f7.length ≤ 1200) (hlc : m.f7.length ≤ c) : TakesAs r m A5 A7 A8 A9 A10 A c5 c7 c8 c9 c10 c := by
  refine both_2 r m A5 A7 A8 A9 A10 A c5 c7 c8 c9 c10 c hk hc hs hln hlc fun h1 h2 => ?_
  have n := nums (by omega) (by omega) h1 h2
  have P := (may_iff r).1 h1
  have H0 : PreparedIn r m := ⟨n.i0, n.i1, n.n5, n.w0, n.w1, hs.1, P.2.2.2.2.2.2.2.2.2.2.2.2.1, P.1, n.f0, n.f1, P.2.2.2.2.2.2.2.2.2.2.2.2.2.1, n.c0, n.c1⟩
  exact ⟨(tPrepared r m).1, (tPrepared r m).2, few_prepared hs n.n5, fun w0 w F g v5 v7 v8 v9 v10 hM hl => Cp.prepared_calls w0 w F g r _ m v5 v7 v8 v9 v10 (.slice none 0 0) [] _ A c hM H0 (Nat.zero_le _) rfl, fun w0 w F g v5 v7 v8 v9 v10 hM hl => Cq.prepared11_calls w0 w F g r _ m v5 v7 v8 v9 v10 _ A c hM H0 rfl⟩
end Go.Proofs.YtggbjokhniigkaaGreat.Uc2
namespace Go.Proofs.YtggbjokhniigkaaGreat.Tt3
open Ty Go.RowKit YtggbjokhniigkaaGreatW.PrintWords YtggbjokhniigkaaGreatW.PrintLast YtggbjokhniigkaaGreatW.PrintMore Mx Kx Wa Wb Ta Tb
theorem takes_3 (w0 w : World) (F : List Res) (g : Nat) (r s : Rep) (m : Msg) (v5 v7 v8 v9 v10 vout : Value) (out : List Msg) (A : Option Addr) (c : Nat) (hk : m.f0 = 3) (hm : mayM r m = true)
    (hM : Mem w0 w (blk g 95 (Wa.wc r.f0 r.f1 r.f2 r.f3 r.f4 v5 r.f6 v7 v8 v9 v10 r.f11 r.f12 vout) :: row kM 27 vout [] :: Kx.sL r v5 v7 v8 v9 v10 F)) (hl : Kd.C kE w0 A m.f7.length m.f7) (hn : m.f7.length ≤ 1000000000)
    (hcall : ∀ (F : List Res) (w : World), Mem w0 w (blk g 95 (Wa.wc r.f0 r.f1 r.f2 r.f3 r.f4 v5 r.f6 v7 v8 v9 v10 r.f11 r.f12 vout) :: row kM 27 vout [] :: Kx.sL r v5 v7 v8 v9 v10 F) → Calls Tryz.prog 103 #[.pointer (some ⟨g, 0, none⟩), .agg #[.int .i64 m.f0, .int .i64 m.f1, .int .i64 m.f2, .int .i64 m.f3, .int .i64 m.f4, .int .i64 m.f5, .int .i64 m.f6, .slice A m.f7.length c]] w fun e w' => e = .returned (.tuple #[]) ∧ ∃ v5' v7' v8' v9' v10' vout' : Value, Mem w0 w' (blk g 95 (Wa.wc s.f0 s.f1 s.f2 s.f3 s.f4 v5' s.f6 v7' v8' v9' v10' s.f11 s.f12 vout') :: row kM 27 vout' out :: Kx.sL s v5' v7' v8' v9' v10' F)) :
    Calls Tryz.prog 65 #[.pointer (some ⟨g, 0, none⟩), .agg #[.int .i64 m.f0, .int .i64 m.f1, .int .i64 m.f2, .int .i64 m.f3, .int .i64 m.f4, .int .i64 m.f5, .int .i64 m.f6, .slice A m.f7.length c]] w fun e w' => e = .returned (.bool true) ∧ ∃ v5' v7' v8' v9' v10' vout' : Value, Mem w0 w' (blk g 95 (Wa.wc s.f0 s.f1 s.f2 s.f3 s.f4 v5' s.f6 v7' v8' v9' v10' s.f11 s.f12 vout') :: row kM 27 vout' out :: Kx.sL s v5' v7' v8' v9' v10' F) := by
  have hmf : ∀ (fn : Fn) (first cap : Array Value) (w : World), (Instr.makeFunc fn first cap).run Tryz.prog w = .ok (.func fn first cap) w := fun _ _ _ _ => rfl
  have HMF := Aside0.mk hmf
  obtain ⟨B5, d5, rfl, _, _⟩ := hM.row_at 2 rfl
  obtain ⟨B7, d7, rfl, _, _⟩ := hM.row_at 3 rfl
  obtain ⟨B8, d8, rfl, _, _⟩ := hM.row_at 4 rfl
  obtain ⟨B9, d9, rfl, _, _⟩ := hM.row_at 5 rfl
  obtain ⟨B10, d10, rfl, _, _⟩ := hM.row_at 6 rfl
  have HL := Aside0.mk hl
  have HN := Aside0.mk hn
  have CALL := Aside0.mk hcall
  have HMB := Aside0.mk hm
  have HMC : Aside0 (∀ w', Kd.C kE w' A m.f7.length m.f7 → Calls Tryz.prog 110 #[.agg #[.int .i64 r.f0, .int .i64 r.f1, .int .i64 r.f2, .int .i64 r.f3, .int .i64 r.f4, .slice B5 r.f5.length d5, .int .i64 r.f6, .slice B7 r.f7.length d7, .slice B8 r.f8.length d8, .slice B9 r.f9.length d9, .slice B10 r.f10.length d10, .int .i64 r.f11, .int .i64 r.f12], .agg #[.int .i64 3, .int .i64 m.f1, .int .i64 m.f2, .int .i64 m.f3, .int .i64 m.f4, .int .i64 m.f5, .int .i64 m.f6, .slice A m.f7.length c]] w' fun e w'' => e = .returned (.bool true) ∧ Mem w' w'' []) :=
    ⟨fun w' h => by have := mayM_calls r m B5 B7 B8 B9 B10 A d5 d7 d8 d9 d10 c w' h hn; (try unfold Kx.mA at this); rw [hm, hk] at this; exact this⟩
  rw [hk] at hcall CALL ⊢
  have M1 := Aside0.mk (((hM.alloc #[.int .i64 3, .int .i64 m.f1, .int .i64 m.f2, .int .i64 m.f3, .int .i64 m.f4, .int .i64 m.f5, .int .i64 m.f6, .slice A m.f7.length c] 27).allocAt #[.bool false] 4 (w.heap.size + 1) (by simp)).allocAt #[.nilFunc, .func (Fn.func 103) #[.pointer (some ⟨g, 0, none⟩)] #[], .func (Fn.func 104) #[.pointer (some ⟨g, 0, none⟩)] #[], .func (Fn.func 103) #[.pointer (some ⟨g, 0, none⟩)] #[], .func (Fn.func 105) #[.pointer (some ⟨g, 0, none⟩)] #[], .func (Fn.func 106) #[.pointer (some ⟨g, 0, none⟩)] #[], .func (Fn.func 107) #[.pointer (some ⟨g, 0, none⟩)] #[], .func (Fn.func 108) #[.pointer (some ⟨g, 0, none⟩)] #[], .func (Fn.func 109) #[.pointer (some ⟨g, 0, none⟩)] #[]] 122 (w.heap.size + 2) (by simp))
  clear hl hn hM hcall hm hk
  have cM := blk_cell (M1.out.blk_at 2 rfl)
  have cB := blk_cell (M1.out.blk_at 1 rfl)
  have cF := blk_cell (M1.out.blk_at 0 rfl)
  have cG := blk_cell (M1.out.blk_at 3 rfl)
  unfold Wa.wc at cG
  go_enter_defers Tryz.func65, Tryz.ntmps65
  go_wp2_with fail
  go_upto_region 3 with (fail)
  clear cM cB cF cG
  obtain ⟨wc, hwc⟩ : ∃ wc : World, ((w.alloc (Obj.cells #[.int .i64 3, .int .i64 m.f1, .int .i64 m.f2, .int .i64 m.f3, .int .i64 m.f4, .int .i64 m.f5, .int .i64 m.f6, .slice A m.f7.length c] 27)).alloc (Obj.cells #[.bool false] 4)).alloc (Obj.cells #[.nilFunc, .func (Fn.func 103) #[.pointer (some ⟨g, 0, none⟩)] #[], .func (Fn.func 104) #[.pointer (some ⟨g, 0, none⟩)] #[], .func (Fn.func 103) #[.pointer (some ⟨g, 0, none⟩)] #[], .func (Fn.func 105) #[.pointer (some ⟨g, 0, none⟩)] #[], .func (Fn.func 106) #[.pointer (some ⟨g, 0, none⟩)] #[], .func (Fn.func 107) #[.pointer (some ⟨g, 0, none⟩)] #[], .func (Fn.func 108) #[.pointer (some ⟨g, 0, none⟩)] #[], .func (Fn.func 109) #[.pointer (some ⟨g, 0, none⟩)] #[]] 122) = wc := ⟨_, rfl⟩
  rw [hwc] at M1 ⊢
  clear hwc
  have cM := blk_cell (M1.out.blk_at 2 rfl)
  have cG0 := blk_cell (M1.out.blk_at 3 rfl)
  have HG0 := Aside0.mk cG0
  have HM0 := Aside0.mk cM
  have cG := cG0
  unfold Wa.wc at cG
  clear cG0
  have M1D := Aside0.mk M1.out.drew
  have HS0 := Aside0.mk (show (∀ j : Nat, wc.drew.cell? ⟨w.heap.size, j, none⟩ = wc.cell? ⟨w.heap.size, j, none⟩) ∧ (∀ j : Nat, wc.drew.cell? ⟨g, j, none⟩ = wc.cell? ⟨g, j, none⟩) from ⟨fun _ => rfl, fun _ => rfl⟩)
  have H9 := HS0
  go_region_held3 (fun w' => (∀ j : Nat, w'.cell? ⟨w.heap.size, j, none⟩ = wc.cell? ⟨w.heap.size, j, none⟩) ∧ (∀ j : Nat, w'.cell? ⟨g, j, none⟩ = wc.cell? ⟨g, j, none⟩)) (first | with_reducible exact HS0.out | with_reducible exact H9.out | fail) ((go_at_call 110; refine (HMC.out _ (Kd.C_below HL.out M1D.out.below)).mono ?_; rintro e w1 ⟨rfl, hM⟩; have M2 := Aside0.mk (M1D.out.trans hM); clear hM; have H9 := Aside0.mk (show (∀ j : Nat, w1.cell? ⟨w.heap.size, j, none⟩ = wc.cell? ⟨w.heap.size, j, none⟩) ∧ (∀ j : Nat, w1.cell? ⟨g, j, none⟩ = wc.cell? ⟨g, j, none⟩) from ⟨fun j => (blk_cell (M2.out.blk_at 2 rfl) j).trans (HM0.out j).symm, fun j => (blk_cell (M2.out.blk_at 3 rfl) j).trans (HG0.out j).symm⟩)))
  clear H9 HS0 HM0 HG0 M1D
  have HF0 := Aside0.mk (blk_cell (M2.out.blk_at 0 rfl))
  have HM0 := Aside0.mk (blk_cell (M2.out.blk_at 2 rfl))
  have cM := HM0.out
  have cF := HF0.out
  go_wp2_with fail
  go_upto_region 5 with (fail)
  have M2D := Aside0.mk M2.out.drew
  have HS0 := Aside0.mk (show (∀ j : Nat, w1.drew.cell? ⟨w.heap.size, j, none⟩ = w1.cell? ⟨w.heap.size, j, none⟩) ∧ (∀ j : Nat, w1.drew.cell? ⟨w.heap.size + 1 + 1, j, none⟩ = w1.cell? ⟨w.heap.size + 1 + 1, j, none⟩) from ⟨fun _ => rfl, fun _ => rfl⟩)
  have H9 := HS0
  go_region_held3 (fun w' => (∀ j : Nat, w'.cell? ⟨w.heap.size, j, none⟩ = w1.cell? ⟨w.heap.size, j, none⟩) ∧ (∀ j : Nat, w'.cell? ⟨w.heap.size + 1 + 1, j, none⟩ = w1.cell? ⟨w.heap.size + 1 + 1, j, none⟩)) (first | with_reducible exact HS0.out | with_reducible exact H9.out | fail) ((go_at_call 103; refine (CALL.out (_ :: _ :: _ :: F) _ (Mem.sel (ps := [_, _, _, _, _, _, _, _, _, _]) (F := F) [3, 4, 5, 6, 7, 8, 9, 0, 1, 2] 10 M2D.out rfl rfl)).mono ?_; rintro e w2 ⟨rfl, v5', v7', v8', v9', v10', vout', hM⟩; have M3 := Aside0.mk (Mem.sel (ps := [_, _, _, _, _, _, _, _, _, _]) (F := F) [7, 8, 9, 0, 1, 2, 3, 4, 5, 6] 10 hM rfl rfl); clear hM; have H9 := Aside0.mk (show (∀ j : Nat, w2.cell? ⟨w.heap.size, j, none⟩ = w1.cell? ⟨w.heap.size, j, none⟩) ∧ (∀ j : Nat, w2.cell? ⟨w.heap.size + 1 + 1, j, none⟩ = w1.cell? ⟨w.heap.size + 1 + 1, j, none⟩) from ⟨fun j => (blk_cell (M3.out.blk_at 2 rfl) j).trans (HM0.out j).symm, fun j => (blk_cell (M3.out.blk_at 0 rfl) j).trans (HF0.out j).symm⟩)))
  clear H9 HS0 HM0 HF0 M2D
  have cB := blk_cell (M3.out.blk_at 1 rfl)
  have fB := blk_frozen (M3.out.blk_at 1 rfl)
  have hB := blk_lt (M3.out.blk_at 1 rfl)
  clear cM cF cG M1 M2
  go_wp2_with fail
  refine leaves_cons (f := 102) (args := #[.pointer (some ⟨w.heap.size + 1, 0, none⟩)]) (by simp) (by simp [go_sem]) ?_
  refine (catch_idle ⟨w.heap.size + 1, 0, none⟩ _).mono ?_
  rintro e u' w4 ⟨rfl, rfl, hM⟩
  have M4 := (M3.out.set 1 rfl 0 (.bool true)).trans hM
  have cE : w4.cell? ⟨w.heap.size + 1, 0, none⟩ = some (.bool true) := blk_cell (M4.blk_at 1 rfl) 0
  clear hM
  simp [Leaves, settle, results, Tryz.results65, go_sem, cE]
  exact ⟨_, _, _, _, _, _, Mem.sel (ps := [_, _, _, _, _, _, _, _, _, _]) (F := F) [3, 4, 5, 6, 7, 8, 9] 10 M4 rfl rfl⟩
end Go.Proofs.YtggbjokhniigkaaGreat.Tt3

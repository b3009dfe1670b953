/- Texts laid together: Cq, Uc2, Lv2, LawPrepareds. No condition. -/
import Derived.Test.YtggbjokhniigkaaGreatRows
import Derived.ChangeMaps5
import Derived.Deep.Slices
import Derived.Test.YtggbjokhniigkaaGreatY2z19
namespace Go.Proofs.YtggbjokhniigkaaGreat.Cq
open Go.Proofs.YtggbjokhniigkaaGreat.Lx Go.Proofs.YtggbjokhniigkaaGreat.Ty Go.RowKit Go.Proofs.YtggbjokhniigkaaGreatW.PrintWords Go.Proofs.YtggbjokhniigkaaGreatW.PrintLast Go.Proofs.YtggbjokhniigkaaGreatW.PrintMore Go.Proofs.YtggbjokhniigkaaGreat.Mx Go.Proofs.YtggbjokhniigkaaGreat.Kx Go.Proofs.YtggbjokhniigkaaGreat.Wa Go.Proofs.YtggbjokhniigkaaGreat.Tk Go.Proofs.YtggbjokhniigkaaGreat.Sa Go.Proofs.YtggbjokhniigkaaGreat.Rb Go.Proofs.YtggbjokhniigkaaGreat.Rp Go.Proofs.YtggbjokhniigkaaGreat.Wj Go.Proofs.YtggbjokhniigkaaGreat.Wd Go.Proofs.YtggbjokhniigkaaGreat.Mo Go.Proofs.YtggbjokhniigkaaGreat.Cp
set_option linter.unusedVariables false
set_option maxRecDepth 100000
set_option maxHeartbeats 8000000
set_option linter.unusedSimpArgs false
def Prepared11Does (w0 w : World) (F : List Res) (g : Nat) (m : Msg) (A : Option Addr) (c : Nat) (s : Rep) (out : List Msg) : Prop :=
  Calls Tryz.prog 71 #[.pointer (some ⟨g, 0, none⟩), .agg #[.int .i64 m.f0, .int .i64 m.f1, .int .i64 m.f2, .int .i64 m.f3, .int .i64 m.f4, .int .i64 m.f5, .int .i64 m.f6, .slice A m.f7.length c]] w fun e w' => ∃ vout v5' v7' v8' v9' v10' : Value, e = .returned vout ∧ Mem w0 w' (qS g s v5' s.f5 s.f6 v7' v8' v9' v10' (row kM 27 vout out :: F))
theorem primary11_quiet (w : World) (k g : Nat) (i n vw nr hw : Int) (vl : Value) (cm : Int) (va vv vo vb : Value) (bv bd : Int)
    (hb : w.heap[g]? = some (.cells (qc i n vw nr hw vl cm va vv vo vb bv bd) 25 (0, 0))) (hv : 0 ≤ vw) (hv2 : vw ≤ 4611686018427387904) (hn : 0 < n) (hn2 : n ≤ 5) (b : Bool) (e : (vw % n == i) = b) :
    Calls Tryz.prog 114 #[.pointer (some ⟨g, 0, none⟩)] (w.drewN k) fun e w' => e = .returned (.bool b) ∧ ∃ m, w' = w.drewN m :=
  (primary11_calls (w.drewN k) g i n vw nr hw vl cm va vv vo vb bv bd hb hv hv2 hn hn2).mono fun e' w' h => ⟨by rw [h.1, e], by obtain ⟨m, h2⟩ := h.2.out; rw [h2]; exact (Drawn0.step (⟨⟨k, rfl⟩⟩ : Drawn0 w (w.drewN k)) m).out⟩
theorem cnt_take (zs : List Int) (i : Int) (k : Nat) (h : k < zs.length) : Tq.cnt (zs.take (k + 1)) i = Tq.cnt (zs.take k) i + (if i ≤ rd zs (k : Int) then 1 else 0) := by
  rw [← Ad.take_snoc zs k h]
  unfold Tq.cnt
  rw [List.filter_append, List.length_append]
  congr 1
  by_cases h2 : i ≤ rd zs (k : Int)
  · simp [h2]
  · simp [h2]
theorem prepared11_n1 (w0 w : World) (F : List Res) (g : Nat) (r s : Rep) (m : Msg) (v5 v7 v8 v9 v10 : Value) (ms : List Msg) (A : Option Addr) (c : Nat) (hM : Mem w0 w (qS g r v5 r.f5 r.f6 v7 v8 v9 v10 F)) (H0 : PreparedIn r m) (h1 : ¬ m.f3 = r.f2) : Prepared11Does w0 w F g m A c r [] := by
  obtain ⟨e1, e1'⟩ := ne_b h1
  clear h1
  unfold Prepared11Does
  obtain ⟨B5, d5, rfl, _, _⟩ := hM.row_at 1 rfl
  have H := Aside0.mk H0
  have M1 := Aside0.mk (hM.alloc #[.int .i64 m.f0, .int .i64 m.f1, .int .i64 m.f2, .int .i64 m.f3, .int .i64 m.f4, .int .i64 m.f5, .int .i64 m.f6, .slice A m.f7.length c] 27)
  clear hM H0
  have cM := blk_cell (M1.out.blk_at 0 rfl)
  have cG := blk_cell (M1.out.blk_at 1 rfl)
  unfold qc at cG
  go_enter Tryz.func71, Tryz.ntmps71
  go_wp2_with fail
  have hW := M1.out.blk_at 1 rfl
  go_quiet (fail)
  clear hW
  go_wp2
  go_ret
  exact ⟨_, _, _, _, _, _, rfl, Mem.sel (ps := [_, _, _, _, _, _, _, _]) (F := F) [2, 3, 4, 5, 6, 7, 0] 8 (Mem.row_nil (M1.out.drewN _) kM 27) rfl rfl⟩
theorem prepared11_n2 (w0 w : World) (F : List Res) (g : Nat) (r s : Rep) (m : Msg) (v5 v7 v8 v9 v10 : Value) (ms : List Msg) (A : Option Addr) (c : Nat) (hM : Mem w0 w (qS g r v5 r.f5 r.f6 v7 v8 v9 v10 F)) (H0 : PreparedIn r m) (h1 : m.f3 = r.f2) (h2 : ¬ r.f4 = 0) : Prepared11Does w0 w F g m A c r [] := by
  obtain ⟨e1, e1'⟩ := eq_b h1
  obtain ⟨e2, e2'⟩ := ne_b h2
  clear h1 h2
  unfold Prepared11Does
  obtain ⟨B5, d5, rfl, _, _⟩ := hM.row_at 1 rfl
  have H := Aside0.mk H0
  have M1 := Aside0.mk (hM.alloc #[.int .i64 m.f0, .int .i64 m.f1, .int .i64 m.f2, .int .i64 m.f3, .int .i64 m.f4, .int .i64 m.f5, .int .i64 m.f6, .slice A m.f7.length c] 27)
  clear hM H0
  have cM := blk_cell (M1.out.blk_at 0 rfl)
  have cG := blk_cell (M1.out.blk_at 1 rfl)
  unfold qc at cG
  go_enter Tryz.func71, Tryz.ntmps71
  go_wp2_with fail
  have hW := M1.out.blk_at 1 rfl
  go_quiet (fail)
  clear hW
  go_wp2
  go_ret
  exact ⟨_, _, _, _, _, _, rfl, Mem.sel (ps := [_, _, _, _, _, _, _, _]) (F := F) [2, 3, 4, 5, 6, 7, 0] 8 (Mem.row_nil (M1.out.drewN _) kM 27) rfl rfl⟩
theorem prepared11_n3 (w0 w : World) (F : List Res) (g : Nat) (r s : Rep) (m : Msg) (v5 v7 v8 v9 v10 : Value) (ms : List Msg) (A : Option Addr) (c : Nat) (hM : Mem w0 w (qS g r v5 r.f5 r.f6 v7 v8 v9 v10 F)) (H0 : PreparedIn r m) (h1 : m.f3 = r.f2) (h2 : r.f4 = 0) (h3 : ¬ r.f2 % r.f1 = r.f0) : Prepared11Does w0 w F g m A c r [] := by
  obtain ⟨e1, e1'⟩ := eq_b h1
  obtain ⟨e2, e2'⟩ := eq_b h2
  obtain ⟨e3, e3'⟩ := ne_b h3
  clear h1 h2 h3
  unfold Prepared11Does
  obtain ⟨B5, d5, rfl, _, _⟩ := hM.row_at 1 rfl
  have H := Aside0.mk H0
  have M1 := Aside0.mk (hM.alloc #[.int .i64 m.f0, .int .i64 m.f1, .int .i64 m.f2, .int .i64 m.f3, .int .i64 m.f4, .int .i64 m.f5, .int .i64 m.f6, .slice A m.f7.length c] 27)
  clear hM H0
  have cM := blk_cell (M1.out.blk_at 0 rfl)
  have cG := blk_cell (M1.out.blk_at 1 rfl)
  unfold qc at cG
  go_enter Tryz.func71, Tryz.ntmps71
  go_wp2_with fail
  have hW := M1.out.blk_at 1 rfl
  go_quiet ((go_at_call 114; exact primary11_quiet _ _ g r.f0 r.f1 r.f2 r.f3 r.f4 _ r.f6 _ _ _ _ r.f11 r.f12 hW H.out.w0 H.out.w1 (by have := H.out.i0; have := H.out.i1; omega) H.out.n5 false e3))
  clear hW
  go_wp2
  go_ret
  exact ⟨_, _, _, _, _, _, rfl, Mem.sel (ps := [_, _, _, _, _, _, _, _]) (F := F) [2, 3, 4, 5, 6, 7, 0] 8 (Mem.row_nil (M1.out.drewN _) kM 27) rfl rfl⟩
theorem prepared11_on (w0 w : World) (F : List Res) (g : Nat) (r s : Rep) (m : Msg) (v5 v7 v8 v9 v10 : Value) (ms : List Msg) (A : Option Addr) (c : Nat) (hM : Mem w0 w (qS g r v5 r.f5 r.f6 v7 v8 v9 v10 F)) (H0 : PreparedIn r m) (h1 : m.f3 = r.f2) (h2 : r.f4 = 0) (h3 : r.f2 % r.f1 = r.f0) (hs : tPrepared r m = (s, ms)) : Prepared11Does w0 w F g m A c s ms := by
  have HSS := Aside0.mk hs
  have H123 := Aside0.mk (And.intro h1 (And.intro h2 h3))
  obtain ⟨e1, e1'⟩ := eq_b h1
  obtain ⟨e2, e2'⟩ := eq_b h2
  obtain ⟨e3, e3'⟩ := eq_b h3
  clear h1 h2 h3 hs
  obtain ⟨g7, k7, rfl, hg7⟩ := hM.int_form 2 rfl (by have := H0.i0; have := H0.i1; have := H0.l7; omega)
  clear hg7
  unfold Prepared11Does
  obtain ⟨B5, d5, rfl, _, _⟩ := hM.row_at 1 rfl
  have H := Aside0.mk H0
  have M1 := Aside0.mk (hM.alloc #[.int .i64 m.f0, .int .i64 m.f1, .int .i64 m.f2, .int .i64 m.f3, .int .i64 m.f4, .int .i64 m.f5, .int .i64 m.f6, .slice A m.f7.length c] 27)
  clear hM H0
  have cM := blk_cell (M1.out.blk_at 0 rfl)
  have cG := blk_cell (M1.out.blk_at 1 rfl)
  unfold qc at cG
  go_enter Tryz.func71, Tryz.ntmps71
  go_wp2_with fail
  go_upto_region 1 with (fail)
  go_cut [27] (fun s27 wx => s27 = .bool false ∧ Aside0 (Mem w0 wx (blk w.heap.size 27 #[.int .i64 m.f0, .int .i64 m.f1, .int .i64 m.f2, .int .i64 m.f3, .int .i64 m.f4, .int .i64 m.f5, .int .i64 m.f6, .slice A m.f7.length c] :: blk g 25 (qc r.f0 r.f1 r.f2 r.f3 r.f4 (.slice B5 r.f5.length d5) r.f6 (.slice (some ⟨g7, 0, none⟩) r.f7.length k7) v8 v9 v10 r.f11 r.f12) :: row kE 68 (.slice B5 r.f5.length d5) r.f5 :: row (Kd.int .i64) 3 (.slice (some ⟨g7, 0, none⟩) r.f7.length k7) r.f7 :: row (Kd.int .i64) 3 v8 r.f8 :: row (Kd.int .i64) 3 v9 r.f9 :: row kE 68 v10 r.f10 :: F)))
  case first =>
    have hW := M1.out.blk_at 1 rfl
    go_quiet ((go_at_call 114; exact primary11_quiet _ _ g r.f0 r.f1 r.f2 r.f3 r.f4 _ r.f6 _ _ _ _ r.f11 r.f12 hW H.out.w0 H.out.w1 (by have := H.out.i0; have := H.out.i1; omega) H.out.n5 true e3))
    go_wp2_with fail
    go_meet
    case rel => exact ⟨rfl, ⟨M1.out.drewN _⟩⟩
  case rest =>
  obtain ⟨rfl, M2⟩ := hcut
  clear M1 cM cG e1 e1' e2 e2' e3 e3'
  obtain ⟨x, hx⟩ : ∃ x, min (max (rd r.f7 m.f1) m.f4) (r.f5.length : Int) = x := ⟨_, rfl⟩
  have hrm : rd r.f7 m.f1 ∈ r.f7 := by
    have h := Ij.rd_mem r.f7 m.f1.toNat (by have := H.out.x0; have := H.out.x1; have := H.out.l7; omega)
    rwa [Int.toNat_of_nonneg H.out.x0] at h
  have hrb := H.out.b7 _ hrm
  have HX := Aside0.mk (show min (max (rd r.f7 m.f1) m.f4) (r.f5.length : Int) = x ∧ max (rd r.f7 m.f1) (min m.f4 (r.f5.length : Int)) = x ∧ 0 ≤ x ∧ x ≤ (r.f5.length : Int) from ⟨hx, by omega, by omega, by omega⟩)
  clear hx hrm hrb
  go_upto_region 3 with (fail)
  go_cut [] (fun wy => Aside0 (Mem w0 wy (blk w.heap.size 27 #[.int .i64 m.f0, .int .i64 m.f1, .int .i64 m.f2, .int .i64 m.f3, .int .i64 m.f4, .int .i64 m.f5, .int .i64 m.f6, .slice A m.f7.length c] :: blk g 25 (qc r.f0 r.f1 r.f2 r.f3 r.f4 (.slice B5 r.f5.length d5) r.f6 (.slice (some ⟨g7, 0, none⟩) r.f7.length k7) v8 v9 v10 r.f11 r.f12) :: row kE 68 (.slice B5 r.f5.length d5) r.f5 :: row (Kd.int .i64) 3 (.slice (some ⟨g7, 0, none⟩) r.f7.length k7) (r.f7.set m.f1.toNat x) :: row (Kd.int .i64) 3 v8 r.f8 :: row (Kd.int .i64) 3 v9 r.f9 :: row kE 68 v10 r.f10 :: F)))
  case first =>
    have cM := blk_cell (M2.out.blk_at 0 rfl)
    have cG := blk_cell (M2.out.blk_at 1 rfl)
    unfold qc at cG
    have hi0 := H.out.x0
    have hi2 : m.f1 < (r.f7.length : Int) := by have := H.out.x1; have := H.out.l7; omega
    have x7 := (M2.out.int_cell 3 rfl m.f1 hi0 hi2).1
    have y7 := (M2.out.int_cell 3 rfl m.f1 hi0 hi2).2
    have hi3 : (m.f1 < (r.f7.length : Int)) = True := eq_true hi2
    go_region
    go_wp2_with fail
    go_meet
    case rel =>
      have hx := HX.out.2.1
      subst hx
      exact ⟨(M2.out.int_put 3 rfl m.f1 _).drew⟩
  case rest =>
  clear M2
  have M2 := hcut
  clear hcut
  obtain ⟨zs, hz⟩ : ∃ zs, r.f7.set m.f1.toNat x = zs := ⟨_, rfl⟩
  have hlz : r.f7.length = zs.length := by rw [← hz, List.length_set]
  have HZ : Aside0 (r.f7.set m.f1.toNat (min (max (rd r.f7 m.f1) m.f4) (r.f5.length : Int)) = zs) := ⟨by rw [HX.out.1]; exact hz⟩
  have HLZ := Aside0.mk (show (zs.length : Int) = r.f1 from by rw [← hlz]; exact H.out.l7)
  have hzb : ∀ n ∈ zs, n ≤ (r.f5.length : Int) := fun n hn => by
    rw [← hz] at hn
    rcases List.mem_or_eq_of_mem_set hn with h | h
    · exact (H.out.b7 n h).2
    · rw [h]
      exact HX.out.2.2.2
  have M3 : Aside0 (Mem w0 wc (blk w.heap.size 27 #[.int .i64 m.f0, .int .i64 m.f1, .int .i64 m.f2, .int .i64 m.f3, .int .i64 m.f4, .int .i64 m.f5, .int .i64 m.f6, .slice A m.f7.length c] :: blk g 25 (qc r.f0 r.f1 r.f2 r.f3 r.f4 (.slice B5 r.f5.length d5) r.f6 (.slice (some ⟨g7, 0, none⟩) zs.length k7) v8 v9 v10 r.f11 r.f12) :: row kE 68 (.slice B5 r.f5.length d5) r.f5 :: row (Kd.int .i64) 3 (.slice (some ⟨g7, 0, none⟩) zs.length k7) zs :: row (Kd.int .i64) 3 v8 r.f8 :: row (Kd.int .i64) 3 v9 r.f9 :: row kE 68 v10 r.f10 :: F)) := ⟨by have h := M2.out; rw [hz, hlz] at h; exact h⟩
  obtain ⟨q, hq⟩ : ∃ q, quorum zs r.f1 = q := ⟨_, rfl⟩
  have HQ := Aside0.mk hq
  have HQL : Aside0 (q ≤ (r.f5.length : Int)) := ⟨by rw [← hq]; exact hzb _ (Tq.quorum_mem HLZ.out H.out.sz)⟩
  have HQI : Aside0 (∀ i : Int, most r.f1 ≤ (Tq.cnt zs i : Int) ↔ i ≤ q) := ⟨fun i => by rw [← hq]; exact Tq.quorum_iff HLZ.out H.out.sz i⟩
  clear M2 HX hz hlz hzb hq
  have cG := blk_cell (M3.out.blk_at 1 rfl)
  unfold qc at cG
  have HC := Aside0.mk (show 0 ≤ r.f6 ∧ r.f6 ≤ (r.f5.length : Int) ∧ r.f5.length ≤ 1200 ∧ zs.length ≤ 5 from ⟨H.out.c0, H.out.c1, H.out.l5, by have := HLZ.out; have := H.out.n5; omega⟩)
  have hwc : wrap64 (r.f6 + 1) = r.f6 + 1 := by have := HC.out; unfold wrap64; omega
  go_wp2_with fail
  clear cG hwc
  go_loopg [5, 6] ((r.f5.length : Int) + 1 - r.f6).toNat (fun kq s5 s6 wr => ∃ (i b : Int), s5 = .int .i64 b ∧ s6 = .int .i64 i ∧ Aside0 (r.f6 + 1 ≤ i ∧ i ≤ (r.f5.length : Int) + 1 ∧ (kq : Int) = (r.f5.length : Int) + 2 - i ∧ b = max r.f6 (min q (i - 1))) ∧ Aside0 (Mem w0 wr (blk w.heap.size 27 #[.int .i64 m.f0, .int .i64 m.f1, .int .i64 m.f2, .int .i64 m.f3, .int .i64 m.f4, .int .i64 m.f5, .int .i64 m.f6, .slice A m.f7.length c] :: blk g 25 (qc r.f0 r.f1 r.f2 r.f3 r.f4 (.slice B5 r.f5.length d5) r.f6 (.slice (some ⟨g7, 0, none⟩) zs.length k7) v8 v9 v10 r.f11 r.f12) :: row kE 68 (.slice B5 r.f5.length d5) r.f5 :: row (Kd.int .i64) 3 (.slice (some ⟨g7, 0, none⟩) zs.length k7) zs :: row (Kd.int .i64) 3 v8 r.f8 :: row (Kd.int .i64) 3 v9 r.f9 :: row kE 68 v10 r.f10 :: F)))
  case atStart => exact ⟨r.f6 + 1, r.f6, rfl, by rw [show wrap64 (r.f6 + 1) = r.f6 + 1 from by have := HC.out; unfold wrap64; omega], ⟨by omega, by have := HC.out; omega, by have := HC.out; omega, by omega⟩, M3⟩
  case round =>
    obtain ⟨i, b, rfl, rfl, HK, M4⟩ := hrel
    clear M3
    have cG := blk_cell (M4.out.blk_at 1 rfl)
    unfold qc at cG
    have hl5 : (r.f5.length : Int) ≤ 1200 := by have := HC.out; omega
    by_cases hi : i ≤ (r.f5.length : Int)
    · have f1 : decide (i ≤ (r.f5.length : Int)) = true := decide_eq_true hi
      have HI := Aside0.mk hi
      clear hi hl5
      obtain ⟨wo, hwo⟩ : ∃ wo : World, wr = wo := ⟨_, rfl⟩
      have M5 : Aside0 (Mem w0 wo (blk w.heap.size 27 #[.int .i64 m.f0, .int .i64 m.f1, .int .i64 m.f2, .int .i64 m.f3, .int .i64 m.f4, .int .i64 m.f5, .int .i64 m.f6, .slice A m.f7.length c] :: blk g 25 (qc r.f0 r.f1 r.f2 r.f3 r.f4 (.slice B5 r.f5.length d5) r.f6 (.slice (some ⟨g7, 0, none⟩) zs.length k7) v8 v9 v10 r.f11 r.f12) :: row kE 68 (.slice B5 r.f5.length d5) r.f5 :: row (Kd.int .i64) 3 (.slice (some ⟨g7, 0, none⟩) zs.length k7) zs :: row (Kd.int .i64) 3 v8 r.f8 :: row (Kd.int .i64) 3 v9 r.f9 :: row kE 68 v10 r.f10 :: F)) := ⟨by rw [← hwo]; exact M4.out⟩
      rw [hwo] at cG ⊢
      clear hwo M4
      go_wp2_with fail
      clear f1
      go_loopg [7, 8] (zs.length + 1) (fun kq s7 s8 wr => ∃ (k n : Nat), s7 = .int .i64 n ∧ s8 = .int .i64 k ∧ Aside0 (k ≤ zs.length ∧ kq = zs.length + 1 - k ∧ n = Tq.cnt (zs.take k) i ∧ n ≤ k) ∧ Aside0 (Mem w0 wr (blk w.heap.size 27 #[.int .i64 m.f0, .int .i64 m.f1, .int .i64 m.f2, .int .i64 m.f3, .int .i64 m.f4, .int .i64 m.f5, .int .i64 m.f6, .slice A m.f7.length c] :: blk g 25 (qc r.f0 r.f1 r.f2 r.f3 r.f4 (.slice B5 r.f5.length d5) r.f6 (.slice (some ⟨g7, 0, none⟩) zs.length k7) v8 v9 v10 r.f11 r.f12) :: row kE 68 (.slice B5 r.f5.length d5) r.f5 :: row (Kd.int .i64) 3 (.slice (some ⟨g7, 0, none⟩) zs.length k7) zs :: row (Kd.int .i64) 3 v8 r.f8 :: row (Kd.int .i64) 3 v9 r.f9 :: row kE 68 v10 r.f10 :: F)))
      case atStart => exact ⟨0, 0, rfl, rfl, ⟨Nat.zero_le _, rfl, rfl, Nat.le_refl _⟩, M5⟩
      case round =>
        obtain ⟨k, n, rfl, rfl, HK2, M6⟩ := hrel
        clear M5 cG
        have cG := blk_cell (M6.out.blk_at 1 rfl)
        unfold qc at cG
        by_cases hk : k < zs.length
        · have p1 : ((k : Int) < r.f1) = True := eq_true (by rw [← HLZ.out]; omega)
          have p2 : decide ((k : Int) < r.f1) = true := decide_eq_true (by rw [← HLZ.out]; omega)
          have p3 : ((k : Int) < (zs.length : Int)) = True := eq_true (by omega)
          have p4 : decide ((k : Int) < (zs.length : Int)) = true := decide_eq_true (by omega)
          have p5 : decide (k < zs.length) = true := decide_eq_true hk
          have x7 := (M6.out.int_cell 3 rfl (k : Int) (by omega) (by omega)).1
          rw [Int.toNat_natCast] at x7
          have HCT := Aside0.mk (cnt_take zs i k hk)
          have hn5 : n ≤ 5 := by have := HK2.out.2.2.2; have := HC.out.2.2.2; omega
          have hk5 : k ≤ 5 := by have := HC.out.2.2.2; omega
          have w1 : wrap64 ((n : Int) + 1) = (n : Int) + 1 := by unfold wrap64; omega
          have w2 : wrap64 ((k : Int) + 1) = (k : Int) + 1 := by unfold wrap64; omega
          clear hn5 hk5
          by_cases hr : i ≤ rd zs (k : Int)
          · have p6 : decide (i ≤ rd zs (k : Int)) = true := decide_eq_true hr
            have HR := Aside0.mk hr
            clear hr
            go_wp2_with fail
            clear p1 p2 p3 p4 p6 x7
            go_roundg (zs.length - k)
            case measure => have := HK2.out; omega
            case rel => exact ⟨k + 1, n + 1, by rw [w1]; rfl, by rw [w2]; rfl, ⟨by omega, by omega, by rw [HCT.out, if_pos HR.out, HK2.out.2.2.1], by have := HK2.out; omega⟩, M6⟩
          · have p6 : decide (i ≤ rd zs (k : Int)) = false := decide_eq_false hr
            have HR := Aside0.mk (Int.not_le.1 hr)
            clear hr
            go_wp2_with fail
            clear p1 p2 p3 p4 p6 x7
            go_roundg (zs.length - k)
            case measure => have := HK2.out; omega
            case rel => exact ⟨k + 1, n, rfl, by rw [w2]; rfl, ⟨by omega, by omega, by rw [HCT.out, if_neg (Int.not_le.2 HR.out), HK2.out.2.2.1]; rfl, by have := HK2.out; omega⟩, M6⟩
        · have hkn : k = zs.length := by have := HK2.out.1; omega
          have p1 : ((k : Int) < r.f1) = False := eq_false (by rw [← HLZ.out]; omega)
          have p2 : decide ((k : Int) < r.f1) = false := decide_eq_false (by rw [← HLZ.out]; omega)
          have HN : Aside0 (n = Tq.cnt zs i) := ⟨by rw [HK2.out.2.2.1, hkn, List.take_length]⟩
          clear hk hkn
          go_wp2_with fail
          refine (most11_calls _ r.f1 (by have := H.out.i0; have := H.out.i1; omega) H.out.n5).mono ?_
          rintro e w3 ⟨rfl, hD⟩
          have M7 := Aside0.mk (M6.out.drawn hD)
          clear M6 hD cG p1 p2
          have hil : i ≤ 1200 := by have := HI.out; have := HC.out; omega
          have hi0 : 0 ≤ i := by have := HK.out; have := HC.out; omega
          have w1 : wrap64 (i + 1) = i + 1 := by unfold wrap64; omega
          clear hil hi0
          by_cases hq : i ≤ q
          · have p3 : decide (most r.f1 ≤ (n : Int)) = true := decide_eq_true (by rw [HN.out]; exact (HQI.out i).2 hq)
            have HQ2 := Aside0.mk hq
            clear hq
            go_wp2_with fail
            clear p3
            go_roundg (r.f5.length + 1 - i).toNat
            case measure => have := HK.out; have := HI.out; omega
            case rel => exact ⟨i + 1, i, rfl, by rw [w1], ⟨by have := HK.out; omega, by have := HI.out; omega, by have := HI.out; omega, by have := HQ2.out; have := HK.out; omega⟩, M7⟩
          · have p3 : decide (most r.f1 ≤ (n : Int)) = false := decide_eq_false (fun h => hq ((HQI.out i).1 (by rw [HN.out] at h; exact h)))
            have HQ2 := Aside0.mk (Int.not_le.1 hq)
            clear hq
            go_wp2_with fail
            clear p3
            go_roundg (r.f5.length + 1 - i).toNat
            case measure => have := HK.out; have := HI.out; omega
            case rel => exact ⟨i + 1, b, rfl, by rw [w1], ⟨by have := HK.out; omega, by have := HI.out; omega, by have := HI.out; omega, by have := HQ2.out; have := HK.out; omega⟩, M7⟩
    · have f1 : decide (i ≤ (r.f5.length : Int)) = false := decide_eq_false hi
      have hb : b = max r.f6 q := by have := HK.out; have := HQL.out; omega
      clear hi hl5
      subst hb
      by_cases h6 : r.f6 < q
      · have e5 : max r.f6 q = q := by omega
        have H6 := Aside0.mk h6
        obtain ⟨e6, e6'⟩ := ne_b (show ¬ q = r.f6 by omega)
        rw [e5]
        clear h6 e5
        have fG := blk_frozen (M4.out.blk_at 1 rfl)
        have gG := blk_lt (M4.out.blk_at 1 rfl)
        go_wp2_with fail
        refine (all11_calls w0 _ emp _ g r.f0 r.f1 r.f2 r.f3 r.f4 _ q _ v8 v9 v10 r.f11 r.f12 3 0 0 0 0 q 0 none 0 [] (Mem.sel (ps := [_, _, _, _, _, _, _, _]) (F := F) [0, 2, 3, 4, 5, 6, 7] 8 (Mem.cons_emp (M4.out.set 1 rfl 6 (.int .i64 q))) rfl rfl) (Rd.old (C_zero _)) (by decide) (by decide) (by have := H.out.i0; have := H.out.i1; omega) H.out.n5).mono ?_
        rintro e w3 ⟨vo2, rfl, hM⟩
        have M6 := Aside0.mk hM
        clear hM
        go_wp2
        first | (refine bodyPost_ret (results_tmp rfl _ _ _) rfl ?_) | go_ret
        obtain ⟨hs1, hs2⟩ := pair_inj ((tPrepared_more H123.out.1 H123.out.2.1 H123.out.2.2 HZ.out HQ.out H6.out).symm.trans HSS.out)
        subst hs1
        subst hs2
        exact ⟨_, _, _, _, _, _, rfl, Mem.sel (ps := [_, _, _, _, _, _, _, _]) (F := F) [2, 3, 4, 5, 6, 7, 0] 8 M6.out rfl rfl⟩
      · have e5 : max r.f6 q = r.f6 := by omega
        have H6 := Aside0.mk h6
        rw [e5]
        clear h6 e5
        go_wp2
        first | (refine bodyPost_ret (results_tmp rfl _ _ _) rfl ?_) | go_ret
        obtain ⟨hs1, hs2⟩ := pair_inj ((tPrepared_few H123.out.1 H123.out.2.1 H123.out.2.2 HZ.out HQ.out (by first | exact H6.out | exact Int.not_lt.2 H6.out)).symm.trans HSS.out)
        subst hs1
        subst hs2
        have M8 := Mem.sel (ps := [_, _, _, _, _, _, _, _]) (F := F) [2, 3, 4, 5, 6, 7, 0] 8 (Mem.row_nil M4.out kM 27) rfl rfl
        first | exact ⟨_, rfl, _, _, _, _, _, M8⟩ | exact ⟨_, _, _, _, _, _, rfl, M8⟩
theorem prepared11_calls (w0 w : World) (F : List Res) (g : Nat) (r s : Rep) (m : Msg) (v5 v7 v8 v9 v10 : Value) (ms : List Msg) (A : Option Addr) (c : Nat) (hM : Mem w0 w (qS g r v5 r.f5 r.f6 v7 v8 v9 v10 F)) (H0 : PreparedIn r m) (hs : tPrepared r m = (s, ms)) : Prepared11Does w0 w F g m A c s ms := by
  by_cases h1 : m.f3 = r.f2
  case neg =>
    obtain ⟨e1, e2⟩ := pair_inj ((tPrepared_no (.inl h1)).symm.trans hs)
    subst e1
    subst e2
    exact prepared11_n1 w0 w F g r r m v5 v7 v8 v9 v10 [] A c hM H0 h1
  by_cases h2 : r.f4 = 0
  case neg =>
    obtain ⟨e1, e2⟩ := pair_inj ((tPrepared_no (.inr (.inl h2))).symm.trans hs)
    subst e1
    subst e2
    exact prepared11_n2 w0 w F g r r m v5 v7 v8 v9 v10 [] A c hM H0 h1 h2
  by_cases h3 : r.f2 % r.f1 = r.f0
  case neg =>
    obtain ⟨e1, e2⟩ := pair_inj ((tPrepared_no (.inr (.inr h3))).symm.trans hs)
    subst e1
    subst e2
    exact prepared11_n3 w0 w F g r r m v5 v7 v8 v9 v10 [] A c hM H0 h1 h2 h3
  exact prepared11_on w0 w F g r s m v5 v7 v8 v9 v10 ms A c hM H0 h1 h2 h3 hs
end Go.Proofs.YtggbjokhniigkaaGreat.Cq
namespace Go.Proofs.YtggbjokhniigkaaGreat.Uc2
open Go.Proofs.YtggbjokhniigkaaGreat.Ty Go.RowKit Go.Proofs.YtggbjokhniigkaaGreatW.PrintWords Go.Proofs.YtggbjokhniigkaaGreatW.PrintLast Go.Proofs.YtggbjokhniigkaaGreatW.PrintMore Go.Proofs.YtggbjokhniigkaaGreat.Mx Go.Proofs.YtggbjokhniigkaaGreat.Kx Go.Proofs.YtggbjokhniigkaaGreat.Wa Go.Proofs.YtggbjokhniigkaaGreat.Wd Go.Proofs.YtggbjokhniigkaaGreat.Vc Go.Proofs.YtggbjokhniigkaaGreat.Wj Go.Proofs.YtggbjokhniigkaaGreat.Tk Go.Proofs.YtggbjokhniigkaaGreat.Tb Go.Proofs.YtggbjokhniigkaaGreat.Tn Go.Proofs.YtggbjokhniigkaaGreat.Tz Go.Proofs.YtggbjokhniigkaaGreat.Ua Go.Proofs.YtggbjokhniigkaaGreat.Un Go.Proofs.YtggbjokhniigkaaGreat.Ub2 Go.Proofs.YtggbjokhniigkaaGreat.Cp Go.Proofs.YtggbjokhniigkaaGreat.Cq
theorem len_all (id n view : Int) (m : Msg) : ∀ (k : Nat) (i : Int), (allFrom id n view m k i).length ≤ k
  | 0, _ => Nat.le_refl _
  | k + 1, i => by
    simp only [allFrom]
    have := len_all id n view m k (i + 1)
    split
    · split
      · omega
      · rw [List.length_cons]
        omega
    · exact Nat.zero_le _
theorem all_nil (id n view : Int) (m : Msg) (h0 : m.f7 = []) : ∀ (k : Nat) (i : Int), ∀ x ∈ allFrom id n view m k i, x.f7 = []
  | 0, _, _, h => by cases h
  | k + 1, i, x, h => by
    simp only [allFrom] at h
    split at h
    · split at h
      · exact all_nil id n view m h0 k (i + 1) x h
      · rcases List.mem_cons.1 h with rfl | h
        · exact h0
        · exact all_nil id n view m h0 k (i + 1) x h
    · cases h
theorem few_prepared {r : Rep} {m : Msg} (hs : r.f5.length ≤ 1200 ∧ r.f7.length ≤ 20 ∧ r.f8.length ≤ 20 ∧ r.f9.length ≤ 20 ∧ r.f10.length ≤ 1200) (hn : r.f1 ≤ 5) : FewOf (tPrepared r m).1 (tPrepared r m).2 := by
  have hz : ∀ x : Int, (r.f7.set m.f1.toNat x).length ≤ 20 := fun x => by rw [List.length_set]; exact hs.2.1
  have none_few : ([] : List Msg).length ≤ 1000000000 ∧ ∀ i, (rd_Msg [] i).f7.length ≤ 1000000000 := ⟨Nat.zero_le _, rd_f7 (by simp)⟩
  unfold tPrepared
  split
  · exact few_same hs
  · dsimp only
    split
    · refine ⟨⟨Nat.le_trans hs.1 (by decide), Nat.le_trans hs.1 (by decide), Nat.le_trans (hz _) (by decide), Nat.le_trans hs.2.2.1 (by decide), Nat.le_trans hs.2.2.2.1 (by decide), Nat.le_trans hs.2.2.2.2 (by decide)⟩, ?_, rd_f7 (fun x hx => ?_)⟩
      · refine Nat.le_trans (len_all _ _ _ _ _ _) ?_
        show r.f1.toNat ≤ _
        omega
      · rw [all_nil _ _ _ _ rfl _ _ x hx]
        exact Nat.zero_le _
    · exact ⟨⟨Nat.le_trans hs.1 (by decide), Nat.le_trans hs.1 (by decide), Nat.le_trans (hz _) (by decide), Nat.le_trans hs.2.2.1 (by decide), Nat.le_trans hs.2.2.2.1 (by decide), Nat.le_trans hs.2.2.2.2 (by decide)⟩, none_few⟩
theorem good_2 (r : Rep) (m : Msg) (A5 A7 A8 A9 A10 A : Option Addr) (c5 c7 c8 c9 c10 c : Nat) (hk : m.f0 = 2) (hc : Fit r c5 c7 c8 c9 c10) (hs : r.f5.length ≤ 1200 ∧ r.f7.length ≤ 20 ∧ r.f8.length ≤ 20 ∧ r.f9.length ≤ 20 ∧ r.f10.length ≤ 1200) (hln : m.f7.length ≤ 1200) (hlc : m.f7.length ≤ c) : TakesAs r m A5 A7 A8 A9 A10 A c5 c7 c8 c9 c10 c := by
  refine both_2 r m A5 A7 A8 A9 A10 A c5 c7 c8 c9 c10 c hk hc hs hln hlc fun h1 h2 => ?_
  have n := nums (by omega) (by omega) h1 h2
  have P := (may_iff r).1 h1
  have H0 : PreparedIn r m := ⟨n.i0, n.i1, n.n5, n.w0, n.w1, hs.1, P.2.2.2.2.2.2.2.2.2.2.2.2.1, P.1, n.f0, n.f1, P.2.2.2.2.2.2.2.2.2.2.2.2.2.1, n.c0, n.c1⟩
  exact ⟨(tPrepared r m).1, (tPrepared r m).2, few_prepared hs n.n5, fun w0 w F g v5 v7 v8 v9 v10 hM hl => Cp.prepared_calls w0 w F g r _ m v5 v7 v8 v9 v10 (.slice none 0 0) [] _ A c hM H0 (Nat.zero_le _) rfl, fun w0 w F g v5 v7 v8 v9 v10 hM hl => Cq.prepared11_calls w0 w F g r _ m v5 v7 v8 v9 v10 _ A c hM H0 rfl⟩
end Go.Proofs.YtggbjokhniigkaaGreat.Uc2
namespace Go.Proofs.YtggbjokhniigkaaGreat.Lv2
open Go.Proofs.YtggbjokhniigkaaGreat.Ty Go.RowKit Go.Proofs.YtggbjokhniigkaaGreatW.PrintWords Go.Proofs.YtggbjokhniigkaaGreatW.PrintLast Go.Proofs.YtggbjokhniigkaaGreatW.PrintMore Go.Proofs.YtggbjokhniigkaaGreat.Mx Go.Proofs.YtggbjokhniigkaaGreat.Kx Go.Proofs.YtggbjokhniigkaaGreat.Wd Go.Proofs.YtggbjokhniigkaaGreat.Vc Go.Proofs.YtggbjokhniigkaaGreat.Of Go.Proofs.YtggbjokhniigkaaGreat.Uc2
set_option linter.unusedVariables false
set_option maxRecDepth 100000 in
set_option maxHeartbeats 4000000 in
theorem law_calls (r : Rep) (m : Msg) (A5 A7 A8 A9 A10 A : Option Addr) (c5 c7 c8 c9 c10 c : Nat) (w : World) (h : RdRep w r A5 A7 A8 A9 A10) (hc : Fit r c5 c7 c8 c9 c10) (hl : Kd.C kE w A m.f7.length m.f7) (hlc : m.f7.length ≤ c) :
    Calls Tryz.prog 5 #[.agg #[.int .i64 r.f0, .int .i64 r.f1, .int .i64 r.f2, .int .i64 r.f3, .int .i64 r.f4, .slice A5 r.f5.length c5, .int .i64 r.f6, .slice A7 r.f7.length c7, .slice A8 r.f8.length c8, .slice A9 r.f9.length c9, .slice A10 r.f10.length c10, .int .i64 r.f11, .int .i64 r.f12], .agg #[.int .i64 m.f0, .int .i64 m.f1, .int .i64 m.f2, .int .i64 m.f3, .int .i64 m.f4, .int .i64 m.f5, .int .i64 m.f6, .slice A m.f7.length c]] w fun e w' => e = .returned (.bool true) ∧ Mem w w' [] := by
  have H := Aside0.mk h
  have HC := Aside0.mk hc
  have HL := Aside0.mk hl
  have HLC := Aside0.mk hlc
  have M1 := Aside0.mk (((Mem.nil w).allocAt #[.int .i64 r.f0, .int .i64 r.f1, .int .i64 r.f2, .int .i64 r.f3, .int .i64 r.f4, .slice A5 r.f5.length c5, .int .i64 r.f6, .slice A7 r.f7.length c7, .slice A8 r.f8.length c8, .slice A9 r.f9.length c9, .slice A10 r.f10.length c10, .int .i64 r.f11, .int .i64 r.f12] 25 w.heap.size rfl).allocAt #[.int .i64 m.f0, .int .i64 m.f1, .int .i64 m.f2, .int .i64 m.f3, .int .i64 m.f4, .int .i64 m.f5, .int .i64 m.f6, .slice A m.f7.length c] 27 (w.heap.size + 1) (by simp))
  clear h hc hl hlc
  go_enter Tryz.func5, Tryz.ntmps5
  go_wp2_with fail
  refine (of_calls r m A5 A7 A8 A9 A10 A c5 c7 c8 c9 c10 c _ (H.out.below M1.out.below) HC.out (Kd.C_below HL.out M1.out.below) HLC.out 2 (by decide) (fun m' hk hs hn hlc' => good_2 r m' A5 A7 A8 A9 A10 A c5 c7 c8 c9 c10 c hk HC.out hs hn hlc')).mono ?_
  rintro e w1 ⟨rfl, hM⟩
  have M2 := Aside0.mk (M1.out.trans hM)
  clear hM
  go_wp2
  go_ret
  exact ⟨rfl, Mem.sel (ps := [_, _]) (F := []) [] 2 M2.out rfl rfl⟩
end Go.Proofs.YtggbjokhniigkaaGreat.Lv2
namespace Go.Proofs.YtggbjokhniigkaaGreat.LawPrepareds
open Go.ChangeShapes Go.WideShapes Go.ChangeAt Go.RowKit Go.Proofs.YtggbjokhniigkaaGreatW.PrintWords Go.Proofs.YtggbjokhniigkaaGreat.Or Go.Proofs.YtggbjokhniigkaaGreat.Lv2 Go.Proofs.YtggbjokhniigkaaGreat.Vc Go.Proofs.YtggbjokhniigkaaGreat.Wd Go.Proofs.YtggbjokhniigkaaGreat.Mx
set_option linter.unusedVariables false
theorem own : ownKnob Tryz.prog.godebug = none := by kernel_rfl
theorem laidOut : laidOutB Tryz.prog = true := by kernel_rfl
set_option maxRecDepth 100000 in
theorem lifted (os : Os) (started : os.Started) (H : Type) (enc : TypeId × Value → H) :
    ReturnsInHanded {} Tryz.checked os 5 .any (Rows.replicaPreparedsSpec.pre6 enc Tryz.prog Tryz.f5 Rows.replicaPreparedsRow.domain false) (Rows.replicaPreparedsSpec.post enc Tryz.prog Tryz.f5 false true false false) := by
  refine returnsInHanded_of_change (C := Tryz.checked) own started (by kernel_rfl) Tryz.func5
    (ChangeSpec.witness6 (enc := enc) (C := Tryz.checked) false ⟨#[], #[.agg #[.int .i64 0, .int .i64 0, .int .i64 0, .int .i64 0, .int .i64 0, .slice none 0 0, .int .i64 0, .slice none 0 0, .slice none 0 0, .slice none 0 0, .slice none 0 0, .int .i64 0, .int .i64 0], .agg #[.int .i64 0, .int .i64 0, .int .i64 0, .int .i64 0, .int .i64 0, .int .i64 0, .int .i64 0, .slice none 0 0]], []⟩ 8 (by kernel_rfl) (by kernel_rfl) (by kernel_rfl) (by kernel_rfl)) ?_
  intro W base args ds gs before hval0 hW hcnd _
  have hval : ∀ (j : Nat) t v, Tryz.f5.params[j]? = some t → args[j]? = some v → Value.okWide Tryz.prog W .any base t v := hval0
  have hW' := hW
  obtain ⟨p, q, hA0, hV, rfl, hfz, hnd⟩ := hW
  have hA : DataW.TrodAll enc Tryz.prog W 0 (fun _ => true) true Tryz.f5.params.toList args.toList ds p := hA0
  rw [Tryz.params5] at hA hval
  obtain ⟨v0, v1, d0, d1, p0, p1, rfl, rfl, rfl, h0, h1⟩ := trodAll_two hA
  obtain ⟨rfl, rfl⟩ := trodVars_none hV
  have k0 := h0
  have lt0 : ∀ x ∈ p0, x.block < W.heap.size := by obtain ⟨m, hm⟩ := k0; exact DataW.trod_lt m _ _ _ hm
  have k1 := h1
  have lt1 : ∀ x ∈ p1, x.block < W.heap.size := by obtain ⟨m, hm⟩ := k1; exact DataW.trod_lt m _ _ _ hm
  obtain ⟨r, A5, c5, A7, c7, A8, c8, A9, c9, A10, c10, rfl, l5, g5, l7, g7, l8, g8, l9, g9, l10, g10⟩ := open_rep (hval 0 25 v0 rfl rfl) h0
  obtain ⟨m, A, c, rfl, l1, g1⟩ := open_msg (hval 1 27 v1 rfl rfl) h1
  clear hA0 hval0
  refine (Lv2.law_calls r m A5 A7 A8 A9 A10 A c5 c7 c8 c9 c10 c W ⟨g5, g7, g8, g9, g10⟩ ⟨l5, l7, l8, l9, l10⟩ g1 l1).mono fun e W' ⟨he, hM⟩ => ?_
  subst he
  have bel := hM.below
  exact ⟨_, rfl, _, _, _, [], _, [], hW', trodAll_mk1 (shut_bool Tryz.underlying4 _), (trodAll_cons_mk (Below.trod laidOut (by kernel_rfl) (of_decide_eq_true (by kernel_rfl)) k0 bel lt0) (trodAll_cons_mk (Below.trod laidOut (by kernel_rfl) (of_decide_eq_true (by kernel_rfl)) k1 bel lt1) trodAll_mk0)), rfl, bel.frame _, fun h => by cases h⟩
theorem over : Rows.replicaPreparedsRow.holds Tryz.pinned (OpenSpec.ofChange Rows.replicaPreparedsSpec) :=
  OpenClaim.holds_of_wide 5 Tryz.f5 rfl rfl rfl rfl rfl rfl rfl ⟨rfl, rfl, rfl, rfl, rfl⟩ rfl rfl rfl rfl rfl (by kernel_rfl) Tryz.func5 (by kernel_rfl)
    (of_decide_eq_true (by kernel_rfl)) (by unfold Func.isWrapper; first | (rw [if_pos (by decide +kernel)]; kernel_rfl) | (rw [if_neg (by decide +kernel)]; exact ⟨rfl, rfl⟩))
    (fun os started H enc _ => lifted os started H enc)
theorem proved : Rows.ReplicaPreparedsSaid := over
#print axioms proved
end Go.Proofs.YtggbjokhniigkaaGreat.LawPrepareds
namespace Go.Proofs.YtggbjokhniigkaaGreat
theorem replicaPrepareds_holds : Rows.ReplicaPreparedsSaid := LawPrepareds.proved
end Go.Proofs.YtggbjokhniigkaaGreat

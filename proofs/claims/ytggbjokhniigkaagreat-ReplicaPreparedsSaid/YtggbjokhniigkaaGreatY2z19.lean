/- Texts laid together: Cp, Bs, Del, Fl, Pn, Jo, Ad, Ij, Rp. No condition. -/
import Derived.BigRegion
import Derived.Deep.LoopGhost
import Derived.Lib.SliceRun
import Derived.Laws.IdiomCopy
import Derived.Shelf.Spec.SlicesInsert
import Derived.Lib.AppendZerosOnto
import Derived.Laws.NewBlocks
import Derived.Deep.RegionLaw
import Derived.Test.YtggbjokhniigkaaGreatY2z18
namespace Go.Proofs.YtggbjokhniigkaaGreat.Cp
open Go.Proofs.YtggbjokhniigkaaGreat.Lx Go.Proofs.YtggbjokhniigkaaGreat.Ty Go.RowKit Go.Proofs.YtggbjokhniigkaaGreatW.PrintWords Go.Proofs.YtggbjokhniigkaaGreatW.PrintLast Go.Proofs.YtggbjokhniigkaaGreatW.PrintMore Go.Proofs.YtggbjokhniigkaaGreat.Mx Go.Proofs.YtggbjokhniigkaaGreat.Kx Go.Proofs.YtggbjokhniigkaaGreat.Wa Go.Proofs.YtggbjokhniigkaaGreat.Tk Go.Proofs.YtggbjokhniigkaaGreat.We Go.Proofs.YtggbjokhniigkaaGreat.Sa Go.Proofs.YtggbjokhniigkaaGreat.Tl Go.Proofs.YtggbjokhniigkaaGreat.Wj Go.Proofs.YtggbjokhniigkaaGreat.Wd Go.Proofs.YtggbjokhniigkaaGreat.Mo Go.Proofs.YtggbjokhniigkaaGreat.Vs
set_option linter.unusedVariables false
set_option maxRecDepth 100000
set_option maxHeartbeats 8000000
set_option linter.unusedSimpArgs false
def PreparedDoes (w0 w : World) (F : List Res) (g : Nat) (m : Msg) (A : Option Addr) (c : Nat) (s : Rep) (out : List Msg) : Prop :=
  Calls Tryz.prog 104 #[.pointer (some ⟨g, 0, none⟩), .agg #[.int .i64 m.f0, .int .i64 m.f1, .int .i64 m.f2, .int .i64 m.f3, .int .i64 m.f4, .int .i64 m.f5, .int .i64 m.f6, .slice A m.f7.length c]] w fun e w' => e = .returned (.tuple #[]) ∧ ∃ v5' v7' v8' v9' v10' vout' : Value, Mem w0 w' (wS g s v5' s.f5 s.f6 v7' v8' v9' v10' vout' out F)
structure PreparedIn (r : Rep) (m : Msg) : Prop where
  i0 : 0 ≤ r.f0
  i1 : r.f0 < r.f1
  n5 : r.f1 ≤ 5
  w0 : 0 ≤ r.f2
  w1 : r.f2 ≤ 4611686018427387904
  l5 : r.f5.length ≤ 1200
  l7 : (r.f7.length : Int) = r.f1
  sz : size r.f1 = true
  x0 : 0 ≤ m.f1
  x1 : m.f1 < r.f1
  b7 : ∀ n ∈ r.f7, 0 ≤ n ∧ n ≤ (r.f5.length : Int)
  c0 : 0 ≤ r.f6
  c1 : r.f6 ≤ (r.f5.length : Int)
theorem eq_b {a b : Int} (h : a = b) : (a == b) = true ∧ (a != b) = false := by simp [h]
theorem ne_b {a b : Int} (h : ¬ a = b) : (a == b) = false ∧ (a != b) = true := by simp [h]
theorem pair_inj {α β : Type} {a c : α} {b d : β} (h : (a, b) = (c, d)) : a = c ∧ b = d := by injection h with h1 h2; exact ⟨h1, h2⟩
theorem most_quiet (w : World) (k g : Nat) (i n vw nr hw : Int) (vl : Value) (cm : Int) (va vv vo vb : Value) (bv bd : Int) (vout : Value)
    (hb : w.heap[g]? = some (.cells (Wa.wc i n vw nr hw vl cm va vv vo vb bv bd vout) 95 (0, 0))) (hn : 0 ≤ n) (hn2 : n ≤ 5) :
    Calls Tryz.prog 131 #[.pointer (some ⟨g, 0, none⟩)] (w.drewN k) fun e w' => e = .returned (.int .i64 (most n)) ∧ ∃ m, w' = w.drewN m :=
  (most_calls (w.drewN k) g i n vw nr hw vl cm va vv vo vb bv bd vout hb hn hn2).mono fun e w' h => ⟨h.1, by obtain ⟨m, h2⟩ := h.2.out; rw [h2]; exact (Drawn0.step (⟨⟨k, rfl⟩⟩ : Drawn0 w (w.drewN k)) m).out⟩
/-! ### what it comes to -/
section
variable {r : Rep} {m : Msg} {x q : Int} {zs : List Int}
theorem tPrepared_no (h : m.f3 ≠ r.f2 ∨ r.f4 ≠ 0 ∨ r.f2 % r.f1 ≠ r.f0) : tPrepared r m = (r, []) := if_pos h
theorem tPrepared_few (h1 : m.f3 = r.f2) (h2 : r.f4 = 0) (h3 : r.f2 % r.f1 = r.f0) (hz : r.f7.set m.f1.toNat (min (max (rd r.f7 m.f1) m.f4) (r.f5.length : Int)) = zs) (hq : quorum zs r.f1 = q) (h : ¬ r.f6 < q) : tPrepared r m = ({ r with f7 := zs }, []) := by
  subst hz
  subst hq
  unfold tPrepared
  rw [if_neg (fun h => h.elim (fun h => h h1) (fun h => h.elim (fun h => h h2) (fun h => h h3)))]
  exact if_neg h
theorem tPrepared_more (h1 : m.f3 = r.f2) (h2 : r.f4 = 0) (h3 : r.f2 % r.f1 = r.f0) (hz : r.f7.set m.f1.toNat (min (max (rd r.f7 m.f1) m.f4) (r.f5.length : Int)) = zs) (hq : quorum zs r.f1 = q) (h : r.f6 < q) :
    tPrepared r m = ({ r with f7 := zs, f6 := q }, allFrom r.f0 r.f1 r.f2 ⟨3, 0, 0, 0, 0, q, 0, []⟩ r.f1.toNat 0) := by
  subst hz
  subst hq
  unfold tPrepared
  rw [if_neg (fun h => h.elim (fun h => h h1) (fun h => h.elim (fun h => h h2) (fun h => h h3)))]
  exact if_pos h
end
theorem prepared_n1 (w0 w : World) (F : List Res) (g : Nat) (r s : Rep) (m : Msg) (v5 v7 v8 v9 v10 vo : Value) (out ms : List Msg) (A : Option Addr) (c : Nat) (hM : Mem w0 w (wS g r v5 r.f5 r.f6 v7 v8 v9 v10 vo out F)) (H0 : PreparedIn r m) (ho : out.length ≤ 1000) (h1 : ¬ m.f3 = r.f2) : PreparedDoes w0 w F g m A c r (out ++ []) := by
  obtain ⟨e1, e1'⟩ := ne_b h1
  clear h1
  unfold PreparedDoes
  obtain ⟨B5, d5, rfl, _, _⟩ := hM.row_at 2 rfl
  have H := Aside0.mk H0
  have HO := Aside0.mk ho
  have M1 := Aside0.mk (hM.alloc #[.int .i64 m.f0, .int .i64 m.f1, .int .i64 m.f2, .int .i64 m.f3, .int .i64 m.f4, .int .i64 m.f5, .int .i64 m.f6, .slice A m.f7.length c] 27)
  clear hM H0 ho
  have cM := blk_cell (M1.out.blk_at 0 rfl)
  have cG := blk_cell (M1.out.blk_at 1 rfl)
  unfold Wa.wc at cG
  go_enter Tryz.func104, Tryz.ntmps104
  go_wp2_with fail
  have hW := M1.out.blk_at 1 rfl
  go_quiet (fail)
  clear hW
  go_wp2
  first | go_end0 | (refine bodyPost_ret (results_none rfl _ _ _) rfl ?_)
  rw [List.append_nil]
  exact ⟨rfl, _, _, _, _, _, _, Mem.sel (ps := [_, _, _, _, _, _, _, _]) (F := F) [1, 2, 3, 4, 5, 6, 7] 8 (M1.out.drewN _) rfl rfl⟩
theorem prepared_n2 (w0 w : World) (F : List Res) (g : Nat) (r s : Rep) (m : Msg) (v5 v7 v8 v9 v10 vo : Value) (out ms : List Msg) (A : Option Addr) (c : Nat) (hM : Mem w0 w (wS g r v5 r.f5 r.f6 v7 v8 v9 v10 vo out F)) (H0 : PreparedIn r m) (ho : out.length ≤ 1000) (h1 : m.f3 = r.f2) (h2 : ¬ r.f4 = 0) : PreparedDoes w0 w F g m A c r (out ++ []) := by
  obtain ⟨e1, e1'⟩ := eq_b h1
  obtain ⟨e2, e2'⟩ := ne_b h2
  clear h1 h2
  unfold PreparedDoes
  obtain ⟨B5, d5, rfl, _, _⟩ := hM.row_at 2 rfl
  have H := Aside0.mk H0
  have HO := Aside0.mk ho
  have M1 := Aside0.mk (hM.alloc #[.int .i64 m.f0, .int .i64 m.f1, .int .i64 m.f2, .int .i64 m.f3, .int .i64 m.f4, .int .i64 m.f5, .int .i64 m.f6, .slice A m.f7.length c] 27)
  clear hM H0 ho
  have cM := blk_cell (M1.out.blk_at 0 rfl)
  have cG := blk_cell (M1.out.blk_at 1 rfl)
  unfold Wa.wc at cG
  go_enter Tryz.func104, Tryz.ntmps104
  go_wp2_with fail
  have hW := M1.out.blk_at 1 rfl
  go_quiet (fail)
  clear hW
  go_wp2
  first | go_end0 | (refine bodyPost_ret (results_none rfl _ _ _) rfl ?_)
  rw [List.append_nil]
  exact ⟨rfl, _, _, _, _, _, _, Mem.sel (ps := [_, _, _, _, _, _, _, _]) (F := F) [1, 2, 3, 4, 5, 6, 7] 8 (M1.out.drewN _) rfl rfl⟩
theorem prepared_n3 (w0 w : World) (F : List Res) (g : Nat) (r s : Rep) (m : Msg) (v5 v7 v8 v9 v10 vo : Value) (out ms : List Msg) (A : Option Addr) (c : Nat) (hM : Mem w0 w (wS g r v5 r.f5 r.f6 v7 v8 v9 v10 vo out F)) (H0 : PreparedIn r m) (ho : out.length ≤ 1000) (h1 : m.f3 = r.f2) (h2 : r.f4 = 0) (h3 : ¬ r.f2 % r.f1 = r.f0) : PreparedDoes w0 w F g m A c r (out ++ []) := by
  obtain ⟨e1, e1'⟩ := eq_b h1
  obtain ⟨e2, e2'⟩ := eq_b h2
  obtain ⟨e3, e3'⟩ := ne_b h3
  clear h1 h2 h3
  unfold PreparedDoes
  obtain ⟨B5, d5, rfl, _, _⟩ := hM.row_at 2 rfl
  have H := Aside0.mk H0
  have HO := Aside0.mk ho
  have M1 := Aside0.mk (hM.alloc #[.int .i64 m.f0, .int .i64 m.f1, .int .i64 m.f2, .int .i64 m.f3, .int .i64 m.f4, .int .i64 m.f5, .int .i64 m.f6, .slice A m.f7.length c] 27)
  clear hM H0 ho
  have cM := blk_cell (M1.out.blk_at 0 rfl)
  have cG := blk_cell (M1.out.blk_at 1 rfl)
  unfold Wa.wc at cG
  go_enter Tryz.func104, Tryz.ntmps104
  go_wp2_with fail
  have hW := M1.out.blk_at 1 rfl
  go_quiet ((go_at_call 97; exact primary_quiet _ _ g r.f0 r.f1 r.f2 r.f3 r.f4 _ r.f6 _ _ _ _ r.f11 r.f12 _ r.f2 hW H.out.w0 H.out.w1 (by have := H.out.i0; have := H.out.i1; omega) H.out.n5))
  clear hW
  go_wp2
  first | go_end0 | (refine bodyPost_ret (results_none rfl _ _ _) rfl ?_)
  rw [List.append_nil]
  exact ⟨rfl, _, _, _, _, _, _, Mem.sel (ps := [_, _, _, _, _, _, _, _]) (F := F) [1, 2, 3, 4, 5, 6, 7] 8 (M1.out.drewN _) rfl rfl⟩
theorem prepared_on (w0 w : World) (F : List Res) (g : Nat) (r s : Rep) (m : Msg) (v5 v7 v8 v9 v10 vo : Value) (out ms : List Msg) (A : Option Addr) (c : Nat) (hM : Mem w0 w (wS g r v5 r.f5 r.f6 v7 v8 v9 v10 vo out F)) (H0 : PreparedIn r m) (ho : out.length ≤ 1000) (h1 : m.f3 = r.f2) (h2 : r.f4 = 0) (h3 : r.f2 % r.f1 = r.f0) (hs : tPrepared r m = (s, ms)) : PreparedDoes w0 w F g m A c s (out ++ ms) := by
  have HSS := Aside0.mk hs
  have H123 := Aside0.mk (And.intro h1 (And.intro h2 h3))
  obtain ⟨e1, e1'⟩ := eq_b h1
  obtain ⟨e2, e2'⟩ := eq_b h2
  obtain ⟨e3, e3'⟩ := eq_b h3
  clear h1 h2 h3 hs
  obtain ⟨g7, k7, rfl, hg7⟩ := hM.int_form 3 rfl (by have := H0.i0; have := H0.i1; have := H0.l7; omega)
  clear hg7
  unfold PreparedDoes
  obtain ⟨B5, d5, rfl, _, _⟩ := hM.row_at 2 rfl
  have H := Aside0.mk H0
  have HO := Aside0.mk ho
  have M1 := Aside0.mk (hM.alloc #[.int .i64 m.f0, .int .i64 m.f1, .int .i64 m.f2, .int .i64 m.f3, .int .i64 m.f4, .int .i64 m.f5, .int .i64 m.f6, .slice A m.f7.length c] 27)
  clear hM H0 ho
  have cM := blk_cell (M1.out.blk_at 0 rfl)
  have cG := blk_cell (M1.out.blk_at 1 rfl)
  unfold Wa.wc at cG
  go_enter Tryz.func104, Tryz.ntmps104
  go_wp2_with fail
  go_upto_region 1 with (fail)
  go_cut [36] (fun s36 wx => s36 = .bool false ∧ Aside0 (Mem w0 wx (blk w.heap.size 27 #[.int .i64 m.f0, .int .i64 m.f1, .int .i64 m.f2, .int .i64 m.f3, .int .i64 m.f4, .int .i64 m.f5, .int .i64 m.f6, .slice A m.f7.length c] :: blk g 95 (Wa.wc r.f0 r.f1 r.f2 r.f3 r.f4 (.slice B5 r.f5.length d5) r.f6 (.slice (some ⟨g7, 0, none⟩) r.f7.length k7) v8 v9 v10 r.f11 r.f12 vo) :: row kM 27 vo out :: row kE 68 (.slice B5 r.f5.length d5) r.f5 :: row (Kd.int .i64) 3 (.slice (some ⟨g7, 0, none⟩) r.f7.length k7) r.f7 :: row (Kd.int .i64) 3 v8 r.f8 :: row (Kd.int .i64) 3 v9 r.f9 :: row kE 68 v10 r.f10 :: F)))
  case first =>
    have hW := M1.out.blk_at 1 rfl
    go_quiet ((go_at_call 97; exact primary_quiet _ _ g r.f0 r.f1 r.f2 r.f3 r.f4 _ r.f6 _ _ _ _ r.f11 r.f12 _ r.f2 hW H.out.w0 H.out.w1 (by have := H.out.i0; have := H.out.i1; omega) H.out.n5))
    go_wp2_with fail
    go_meet
    case rel => exact ⟨rfl, ⟨M1.out.drewN _⟩⟩
  case rest =>
  obtain ⟨rfl, M2⟩ := hcut
  clear M1 cM cG e1 e1' e2 e2' e3 e3'
  obtain ⟨x, hx⟩ : ∃ x, min (max (rd r.f7 m.f1) m.f4) (r.f5.length : Int) = x := ⟨_, rfl⟩
  have HX := Aside0.mk hx
  clear hx
  go_upto_region 2 with (fail)
  go_cut [] (fun wy => Aside0 (Mem w0 wy (blk w.heap.size 27 #[.int .i64 m.f0, .int .i64 m.f1, .int .i64 m.f2, .int .i64 m.f3, .int .i64 m.f4, .int .i64 m.f5, .int .i64 m.f6, .slice A m.f7.length c] :: blk g 95 (Wa.wc r.f0 r.f1 r.f2 r.f3 r.f4 (.slice B5 r.f5.length d5) r.f6 (.slice (some ⟨g7, 0, none⟩) r.f7.length k7) v8 v9 v10 r.f11 r.f12 vo) :: row kM 27 vo out :: row kE 68 (.slice B5 r.f5.length d5) r.f5 :: row (Kd.int .i64) 3 (.slice (some ⟨g7, 0, none⟩) r.f7.length k7) (r.f7.set m.f1.toNat x) :: row (Kd.int .i64) 3 v8 r.f8 :: row (Kd.int .i64) 3 v9 r.f9 :: row kE 68 v10 r.f10 :: F)))
  case first =>
    have cM := blk_cell (M2.out.blk_at 0 rfl)
    have cG := blk_cell (M2.out.blk_at 1 rfl)
    unfold Wa.wc at cG
    have hi0 := H.out.x0
    have hi2 : m.f1 < (r.f7.length : Int) := by have := H.out.x1; have := H.out.l7; omega
    have x7 := (M2.out.int_cell 4 rfl m.f1 hi0 hi2).1
    have y7 := (M2.out.int_cell 4 rfl m.f1 hi0 hi2).2
    have hi3 : (m.f1 < (r.f7.length : Int)) = True := eq_true hi2
    go_region
    go_wp2_with fail
    go_meet
    case rel =>
      have hx := HX.out
      subst hx
      exact ⟨(M2.out.int_put 4 rfl m.f1 _).drew⟩
  case rest =>
  clear M2
  have M2 := hcut
  clear hcut
  obtain ⟨zs, hz⟩ : ∃ zs, r.f7.set m.f1.toNat x = zs := ⟨_, rfl⟩
  have hlz : r.f7.length = zs.length := by rw [← hz, List.length_set]
  have HZ : Aside0 (r.f7.set m.f1.toNat (min (max (rd r.f7 m.f1) m.f4) (r.f5.length : Int)) = zs) := ⟨by rw [HX.out]; exact hz⟩
  have HLZ := Aside0.mk (show (zs.length : Int) = r.f1 from by rw [← hlz]; exact H.out.l7)
  have M3 : Aside0 (Mem w0 wc (blk w.heap.size 27 #[.int .i64 m.f0, .int .i64 m.f1, .int .i64 m.f2, .int .i64 m.f3, .int .i64 m.f4, .int .i64 m.f5, .int .i64 m.f6, .slice A m.f7.length c] :: blk g 95 (Wa.wc r.f0 r.f1 r.f2 r.f3 r.f4 (.slice B5 r.f5.length d5) r.f6 (.slice (some ⟨g7, 0, none⟩) zs.length k7) v8 v9 v10 r.f11 r.f12 vo) :: row kM 27 vo out :: row kE 68 (.slice B5 r.f5.length d5) r.f5 :: row (Kd.int .i64) 3 (.slice (some ⟨g7, 0, none⟩) zs.length k7) zs :: row (Kd.int .i64) 3 v8 r.f8 :: row (Kd.int .i64) 3 v9 r.f9 :: row kE 68 v10 r.f10 :: F)) := ⟨by have h := M2.out; rw [hz, hlz] at h; exact h⟩
  clear M2 HX hz hlz
  have hz0 : 0 < zs.length := by have := HLZ.out; have := H.out.i0; have := H.out.i1; omega
  have hzl : zs.length ≤ 1000000 := by have := HLZ.out; have := H.out.n5; omega
  obtain ⟨ys, hys⟩ : ∃ ys, zs.mergeSort (fun a b => decide (a ≤ b)) = ys := ⟨_, rfl⟩
  have HY := Aside0.mk hys
  have hyl : ys.length = zs.length := by rw [← hys, List.length_mergeSort]
  clear hys
  have hmo := Tq.size_most H.out.sz
  obtain ⟨q, hq⟩ : ∃ q, rd ys (r.f1 - most r.f1) = q := ⟨_, rfl⟩
  have HQ : Aside0 (quorum zs r.f1 = q) := ⟨by unfold quorum; rw [HY.out]; exact hq⟩
  have hw1 : wrap64 (r.f1 - most r.f1) = r.f1 - most r.f1 := by have := H.out.n5; unfold wrap64; omega
  have hw2 : IntKind.i64.wrap (r.f1 - most r.f1) = r.f1 - most r.f1 := by have := H.out.n5; rw [IntKind.wrap_i64]; omega
  have hj0 : 0 ≤ r.f1 - most r.f1 := hmo.1
  have hj1 : r.f1 - most r.f1 < (ys.length : Int) := by rw [hyl]; have := HLZ.out; omega
  have hj2 : (r.f1 - most r.f1 < (ys.length : Int)) = True := eq_true hj1
  have HJ := Aside0.mk (And.intro hj0 (And.intro hj1 (And.intro hw1 (And.intro hw2 (And.intro hj2 (And.intro hyl hq))))))
  clear hj0 hj1 hw1 hw2 hj2 hyl hq hmo
  have cM := blk_cell (M3.out.blk_at 0 rfl)
  have cG := blk_cell (M3.out.blk_at 1 rfl)
  unfold Wa.wc at cG
  go_wp2_with fail
  refine (values_calls _ _ _ _).mono ?_
  rintro e w1 ⟨rfl, rfl⟩
  have M4 := Aside0.mk (M3.out.allocAt #[.slice (some ⟨g7, 0, none⟩) zs.length k7] 23 wc.heap.size rfl)
  have HC : Aside0 (∀ j, j < zs.length → (wc.alloc (.cells #[.slice (some ⟨g7, 0, none⟩) zs.length k7] 23 (0, 0))).cell? ⟨g7, j, none⟩ = some (.int .i64 (zs[j]?.getD 0))) := ⟨fun j hj => by
    have h := (M4.out.int_cell 5 rfl (j : Int) (by omega) (by omega)).1
    rw [Int.toNat_natCast] at h
    rw [h]
    unfold rd
    rw [Int.toNat_natCast, List.getD_eq_getElem?_getD]⟩
  go_wp2_with fail
  refine (sorted_calls wc.heap.size g7 k7 zs hz0 hzl _ (by simp) (World.block_lt_of_cell? _ _ (HC.out 0 hz0)) (blk_cell (M4.out.blk_at 0 rfl) 0) HC.out ys HY.out).mono ?_
  rintro e w2 ⟨v, rfl, hM⟩
  obtain ⟨g4, k4, rfl, _⟩ := hM.int_form 0 rfl (by have := HJ.out.2.2.2.2.2.1; omega)
  have M5 := Aside0.mk (Mem.sel (ps := [_, _, _, _, _, _, _, _, _, _]) (F := F) [2, 3, 4, 5, 6, 7, 8, 9, 0] 10 (M4.out.trans hM) rfl rfl)
  clear hM M4 M3 HC cM cG hz0 hzl
  have cG := blk_cell (M5.out.blk_at 1 rfl)
  have fG := blk_frozen (M5.out.blk_at 1 rfl)
  have gG := blk_lt (M5.out.blk_at 1 rfl)
  have hW := M5.out.blk_at 1 rfl
  unfold Wa.wc at cG
  obtain ⟨hj0, hj1, hw1, hw2, hj2, hyl, hq⟩ := HJ.out
  have x4 := (M5.out.int_cell 8 rfl _ hj0 hj1).1
  rw [hq] at x4
  clear hq hyl
  go_wp2_with fail
  go_quiet ((go_at_call 131; exact most_quiet _ _ g r.f0 r.f1 r.f2 r.f3 r.f4 _ r.f6 _ _ _ _ r.f11 r.f12 _ hW (by have := H.out.i0; have := H.out.i1; omega) H.out.n5))
  clear hW x4 hj0 hj1 hw1 hw2 hj2
  by_cases h6 : r.f6 < q
  case neg =>
    have e6 : decide (r.f6 < q) = false := decide_eq_false h6
    have H6 := Aside0.mk h6
    clear h6
    go_wp2
    first | go_end0 | (refine bodyPost_ret (results_none rfl _ _ _) rfl ?_)
    obtain ⟨hs1, hs2⟩ := pair_inj ((tPrepared_few H123.out.1 H123.out.2.1 H123.out.2.2 HZ.out HQ.out (Int.not_lt.2 H6.out)).symm.trans HSS.out)
    subst hs1
    subst hs2
    rw [List.append_nil]
    exact ⟨rfl, _, _, _, _, _, _, Mem.sel (ps := [_, _, _, _, _, _, _, _, _]) (F := F) [1, 2, 3, 4, 5, 6, 7] 9 (M5.out.drewN _) rfl rfl⟩
  have e6 : decide (r.f6 < q) = true := decide_eq_true h6
  have H6 := Aside0.mk h6
  clear h6
  go_wp2_with fail
  refine (all_calls w0 _ emp _ g r.f0 r.f1 r.f2 r.f3 r.f4 _ q _ v8 v9 v10 r.f11 r.f12 vo out 3 0 0 0 0 q 0 none 0 [] (Mem.sel (ps := [_, _, _, _, _, _, _, _, _, _]) (F := F) [0, 2, 3, 4, 5, 6, 7, 8] 10 (Mem.cons_emp ((M5.out.drewN _).set 1 rfl 6 (.int .i64 q))) rfl rfl) (Rd.old (C_zero _)) (by decide) (by decide) (Nat.le_trans HO.out (by decide)) (by have := H.out.i0; have := H.out.i1; omega) H.out.n5).mono ?_
  rintro e w3 ⟨vo2, rfl, hM⟩
  have M6 := Aside0.mk hM
  clear hM
  go_wp2
  first | go_end0 | (refine bodyPost_ret (results_none rfl _ _ _) rfl ?_)
  obtain ⟨hs1, hs2⟩ := pair_inj ((tPrepared_more H123.out.1 H123.out.2.1 H123.out.2.2 HZ.out HQ.out H6.out).symm.trans HSS.out)
  subst hs1
  subst hs2
  exact ⟨rfl, _, _, _, _, _, _, Mem.sel (ps := [_, _, _, _, _, _, _, _]) (F := F) [1, 2, 3, 4, 5, 6, 7] 8 M6.out rfl rfl⟩
theorem prepared_calls (w0 w : World) (F : List Res) (g : Nat) (r s : Rep) (m : Msg) (v5 v7 v8 v9 v10 vo : Value) (out ms : List Msg) (A : Option Addr) (c : Nat) (hM : Mem w0 w (wS g r v5 r.f5 r.f6 v7 v8 v9 v10 vo out F)) (H0 : PreparedIn r m) (ho : out.length ≤ 1000) (hs : tPrepared r m = (s, ms)) : PreparedDoes w0 w F g m A c s (out ++ ms) := by
  by_cases h1 : m.f3 = r.f2
  case neg =>
    obtain ⟨e1, e2⟩ := pair_inj ((tPrepared_no (.inl h1)).symm.trans hs)
    subst e1
    subst e2
    exact prepared_n1 w0 w F g r r m v5 v7 v8 v9 v10 vo out [] A c hM H0 ho h1
  by_cases h2 : r.f4 = 0
  case neg =>
    obtain ⟨e1, e2⟩ := pair_inj ((tPrepared_no (.inr (.inl h2))).symm.trans hs)
    subst e1
    subst e2
    exact prepared_n2 w0 w F g r r m v5 v7 v8 v9 v10 vo out [] A c hM H0 ho h1 h2
  by_cases h3 : r.f2 % r.f1 = r.f0
  case neg =>
    obtain ⟨e1, e2⟩ := pair_inj ((tPrepared_no (.inr (.inr h3))).symm.trans hs)
    subst e1
    subst e2
    exact prepared_n3 w0 w F g r r m v5 v7 v8 v9 v10 vo out [] A c hM H0 ho h1 h2 h3
  exact prepared_on w0 w F g r s m v5 v7 v8 v9 v10 vo out ms A c hM H0 ho h1 h2 h3 hs
end Go.Proofs.YtggbjokhniigkaaGreat.Cp
namespace Go.Proofs.YtggbjokhniigkaaGreat.Bs
end Go.Proofs.YtggbjokhniigkaaGreat.Bs
namespace Go.Proofs.YtggbjokhniigkaaGreat.Mx
end Go.Proofs.YtggbjokhniigkaaGreat.Mx
namespace Go.Proofs.YtggbjokhniigkaaGreat.Mx
open Go.RowKit Go.Proofs.YtggbjokhniigkaaGreatW.PrintWords Go.Proofs.YtggbjokhniigkaaGreatW.PrintLast Go.Proofs.YtggbjokhniigkaaGreatW.PrintMore
set_option linter.unusedVariables false
/-- A kind whose elements are their cells alone. -/
structure Flat {α : Type} (d : Kd α) (enc : α → List Value) : Prop where
  out_ : ∀ {w : World} {base : Nat} {ok : Nat → Prop} {x : α} {cs : List Value}, d.M w base ok x cs → cs = enc x
  mk_ : ∀ (w : World) (base : Nat) (ok : Nat → Prop) (x : α), d.M w base ok x (enc x)
  rd_ : ∀ {w : World} {x : α} {cs : List Value}, d.K w x cs → cs = enc x
theorem Flat.len {α : Type} {d : Kd α} {enc : α → List Value} (h : Flat d enc) (w : World) (x : α) : (enc x).length = d.sz := d.K_len (d.K_of_M (h.mk_ w 0 (fun _ => True) x))
theorem Flat.one {α : Type} {d : Kd α} {enc : α → List Value} (h : Flat d enc) (w : World) (x : α) : ∀ u ∈ enc x, u.oneCell' = true := d.K_one (d.K_of_M (h.mk_ w 0 (fun _ => True) x))
section
variable {α : Type} {d : Kd α} {enc : α → List Value} {w0 w : World} {rs : List Res}
end
end Go.Proofs.YtggbjokhniigkaaGreat.Mx
namespace Go.Proofs.YtggbjokhniigkaaGreat.Pn
end Go.Proofs.YtggbjokhniigkaaGreat.Pn
namespace Go.Proofs.YtggbjokhniigkaaGreat.Jo
end Go.Proofs.YtggbjokhniigkaaGreat.Jo
namespace Go.Proofs.YtggbjokhniigkaaGreat.Ad
open Go.Proofs.YtggbjokhniigkaaGreat.Ty Go.RowKit Go.Proofs.YtggbjokhniigkaaGreatW.PrintWords Go.Proofs.YtggbjokhniigkaaGreatW.PrintLast Go.Proofs.YtggbjokhniigkaaGreatW.PrintMore Go.Proofs.YtggbjokhniigkaaGreat.Mx Go.Proofs.YtggbjokhniigkaaGreat.Kx Go.Proofs.YtggbjokhniigkaaGreat.Wa Go.Proofs.YtggbjokhniigkaaGreat.Wd Go.Proofs.YtggbjokhniigkaaGreat.Sm Go.Proofs.YtggbjokhniigkaaGreat.Bs Go.Proofs.YtggbjokhniigkaaGreat.Pn
set_option linter.unusedVariables false
set_option linter.unusedSimpArgs false
set_option maxRecDepth 100000
set_option maxHeartbeats 4000000
theorem take_snoc (l : List Int) (i : Nat) (h : i < l.length) : l.take i ++ [rd l (i : Int)] = l.take (i + 1) := by
  rw [List.take_add_one, rd, Int.toNat_natCast, List.getD_eq_getElem?_getD, List.getElem?_eq_getElem h]
  rfl
end Go.Proofs.YtggbjokhniigkaaGreat.Ad
namespace Go.Proofs.YtggbjokhniigkaaGreat.Ij
open Go.Proofs.YtggbjokhniigkaaGreat.Ty Go.RowKit Go.Proofs.YtggbjokhniigkaaGreatW.PrintWords Go.Proofs.YtggbjokhniigkaaGreat.Tk
theorem rd_mem (l : List Int) (t : Nat) (h : t < l.length) : rd l (t : Int) ∈ l := by
  have e : rd l (t : Int) = l[t] := by
    unfold rd
    rw [Int.toNat_natCast, List.getD_eq_getElem?_getD, List.getElem?_eq_getElem h]
    rfl
  rw [e]
  exact List.getElem_mem h
end Go.Proofs.YtggbjokhniigkaaGreat.Ij
namespace Go.Proofs.YtggbjokhniigkaaGreat.Rp
open Go.Proofs.YtggbjokhniigkaaGreat.Ty Go.RowKit Go.Proofs.YtggbjokhniigkaaGreatW.PrintWords Go.Proofs.YtggbjokhniigkaaGreatW.PrintLast Go.Proofs.YtggbjokhniigkaaGreatW.PrintMore Go.Proofs.YtggbjokhniigkaaGreat.Mx Go.Proofs.YtggbjokhniigkaaGreat.Kx Go.Proofs.YtggbjokhniigkaaGreat.Wa Go.Proofs.YtggbjokhniigkaaGreat.Wd
set_option linter.unusedVariables false
set_option linter.unusedSimpArgs false
set_option maxRecDepth 100000 in
set_option maxHeartbeats 2000000 in
theorem primary11_calls (w : World) (g : Nat) (i n vw nr hw : Int) (vl : Value) (cm : Int) (va vv vo vb : Value) (bv bd : Int)
    (hb : w.heap[g]? = some (.cells #[.int .i64 i, .int .i64 n, .int .i64 vw, .int .i64 nr, .int .i64 hw, vl, .int .i64 cm, va, vv, vo, vb, .int .i64 bv, .int .i64 bd] 25 (0, 0))) (hv : 0 ≤ vw) (hv2 : vw ≤ 4611686018427387904) (hn : 0 < n) (hn2 : n ≤ 5) :
    Calls Tryz.prog 114 #[.pointer (some ⟨g, 0, none⟩)] w fun e w' => e = .returned (.bool (vw % n == i)) ∧ Drawn0 w w' := by
  have cB := blk_cell hb
  clear hb
  have hz : (n == 0) = false := by simp; omega
  have hz2 : ¬ n = 0 := by omega
  have ht : vw.tmod n = vw % n := Int.tmod_eq_emod_of_nonneg hv
  go_enter Tryz.func114, Tryz.ntmps114
  go_wp2
  (try go_quiet (fail))
  (try go_wp2)
  go_ret
  exact ⟨by first | rfl | (rw [ht]; done) | (simp [ht]; done), by repeat (first | exact Drawn0.refl _ | apply Drawn0.step)⟩
end Go.Proofs.YtggbjokhniigkaaGreat.Rp

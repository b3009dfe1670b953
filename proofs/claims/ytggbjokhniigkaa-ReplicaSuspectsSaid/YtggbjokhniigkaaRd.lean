/- The reference's Copy: a replica in memory of its own. -/
import Derived.Test.YtggbjokhniigkaaWd
namespace Go.Proofs.Ytggbjokhniigkaa.Rd
open Go.Proofs.Ytggbjokhniigkaa.Ty Go.RowKit Go.Proofs.YtggbjokhniigkaaW.PrintWords Go.Proofs.YtggbjokhniigkaaW.PrintLast Go.Proofs.YtggbjokhniigkaaW.PrintMore Go.Proofs.Ytggbjokhniigkaa.Mx Go.Proofs.Ytggbjokhniigkaa.Kx Go.Proofs.Ytggbjokhniigkaa.Wa  Go.Proofs.Ytggbjokhniigkaa.Wd
set_option linter.unusedVariables false
set_option linter.unusedSimpArgs false
set_option maxRecDepth 100000 in
set_option maxHeartbeats 8000000 in
theorem Copy11_calls (r : Rep) (A5 A7 A8 A9 A10 : Option Addr) (c5 c7 c8 c9 c10 : Nat) (w : World) (h : RdRep w r A5 A7 A8 A9 A10) (hn : Small r) :
    Calls Try.prog 33 #[.agg #[.int .i64 r.f0, .int .i64 r.f1, .int .i64 r.f2, .int .i64 r.f3, .int .i64 r.f4, .slice A5 r.f5.length c5, .int .i64 r.f6, .slice A7 r.f7.length c7, .slice A8 r.f8.length c8, .slice A9 r.f9.length c9, .slice A10 r.f10.length c10, .int .i64 r.f11, .int .i64 r.f12]] w fun e w' =>
      ∃ v5 v7 v8 v9 v10 : Value, e = .returned (.agg (rc r v5 v7 v8 v9 v10)) ∧ Mem w w' (rows r v5 v7 v8 v9 v10) := by
  have H := Aside0.mk h
  obtain ⟨n5, n7, n8, n9, n10⟩ := hn
  have N5 := Aside0.mk n5
  have N7 := Aside0.mk n7
  have N8 := Aside0.mk n8
  have N9 := Aside0.mk n9
  have N10 := Aside0.mk n10
  have M0 := Aside0.mk (((Mem.nil w).alloc #[.int .i64 r.f0, .int .i64 r.f1, .int .i64 r.f2, .int .i64 r.f3, .int .i64 r.f4, .slice A5 r.f5.length c5, .int .i64 r.f6, .slice A7 r.f7.length c7, .slice A8 r.f8.length c8, .slice A9 r.f9.length c9, .slice A10 r.f10.length c10, .int .i64 r.f11, .int .i64 r.f12] 45).allocAt #[.int .i64 0, .int .i64 0, .int .i64 0, .int .i64 0, .int .i64 0, .slice none 0 0, .int .i64 0, .slice none 0 0, .slice none 0 0, .slice none 0 0, .slice none 0 0, .int .i64 0, .int .i64 0] 45 (w.heap.size + 1) (by simp))
  have G0 := Aside0.mk (show (w.heap.size + 2) = (w.heap.size + 2) from rfl)
  clear h n5 n7 n8 n9 n10
  go_enter Try.func33, Try.ntmps33
  go_upto_region 2 with (((with_reducible refine gate_builtin (b := .append) (xs := #[.tmp 3, .tmp 5]) rfl ?_); at_builtin; refine Mem.app kE ((M0.out.allocAt #[] 102 (w.heap.size + 2) (by simp)).lit 0 kE [] rfl (Reps.none _ _) (by decide)) 0 _ [] r.f5 rfl (.tmp 3) (.tmp 5) 27 102 _ _ rfl Try.underlying27 infoEntry rfl (by decide) (by omega) A5 _ c5 rfl rfl rfl (Kd.C_alloc (Kd.C_below H.out.h5 M0.out.below) _) (fun x cs h => h) (by have := N5.out; simp; omega) ?_; intro v1 w1 hM; have K1 := Aside0.mk (show Mem _ _ (row kE _ v1 r.f5 :: _) from hM); clear hM; obtain ⟨B5, d5, he, _, _⟩ := K1.out.row_at 0 rfl; subst he; have cB := blk_cell (K1.out.blk_at 2 rfl); have fB := blk_frozen (K1.out.blk_at 2 rfl); have hB := blk_lt (K1.out.blk_at 2 rfl)))
  have M1 := Aside0.mk (K1.out.set 2 rfl 5 (.slice B5 r.f5.length d5))
  go_upto_region 3 with (((with_reducible refine gate_builtin (b := .append) (xs := #[.tmp 8, .tmp 10]) rfl ?_); at_builtin; refine Mem.app (Kd.int .i64) ((M1.out.allocAt #[] 3 w1.heap.size (by simp)).lit 0 (Kd.int .i64) [] rfl (Reps.none _ _) (by decide)) 0 _ [] r.f7 rfl (.tmp 8) (.tmp 10) 43 3 _ _ rfl Try.underlying43 infoInt rfl (by decide) (by omega) A7 _ c7 rfl rfl rfl (Kd.C_alloc (Kd.C_below H.out.h7 M1.out.below) _) (fun x cs h => h) (by have := N7.out; simp; omega) ?_; intro v2 w2 hM; have K2 := Aside0.mk (show Mem _ _ (row (Kd.int .i64) _ v2 r.f7 :: _) from hM); clear hM; obtain ⟨B7, d7, he, _, _⟩ := K2.out.row_at 0 rfl; subst he; clear cB fB hB; have cB := blk_cell (K2.out.blk_at 3 rfl); have fB := blk_frozen (K2.out.blk_at 3 rfl); have hB := blk_lt (K2.out.blk_at 3 rfl)))
  have M2 := Aside0.mk (K2.out.set 3 rfl 7 (.slice B7 r.f7.length d7))
  go_upto_region 4 with (((with_reducible refine gate_builtin (b := .append) (xs := #[.tmp 13, .tmp 15]) rfl ?_); at_builtin; refine Mem.app (Kd.int .i64) ((M2.out.allocAt #[] 3 w2.heap.size (by simp)).lit 0 (Kd.int .i64) [] rfl (Reps.none _ _) (by decide)) 0 _ [] r.f8 rfl (.tmp 13) (.tmp 15) 43 3 _ _ rfl Try.underlying43 infoInt rfl (by decide) (by omega) A8 _ c8 rfl rfl rfl (Kd.C_alloc (Kd.C_below H.out.h8 M2.out.below) _) (fun x cs h => h) (by have := N8.out; simp; omega) ?_; intro v3 w3 hM; have K3 := Aside0.mk (show Mem _ _ (row (Kd.int .i64) _ v3 r.f8 :: _) from hM); clear hM; obtain ⟨B8, d8, he, _, _⟩ := K3.out.row_at 0 rfl; subst he; clear cB fB hB; have cB := blk_cell (K3.out.blk_at 4 rfl); have fB := blk_frozen (K3.out.blk_at 4 rfl); have hB := blk_lt (K3.out.blk_at 4 rfl)))
  have M3 := Aside0.mk (K3.out.set 4 rfl 8 (.slice B8 r.f8.length d8))
  go_upto_region 5 with (((with_reducible refine gate_builtin (b := .append) (xs := #[.tmp 18, .tmp 20]) rfl ?_); at_builtin; refine Mem.app (Kd.int .i64) ((M3.out.allocAt #[] 3 w3.heap.size (by simp)).lit 0 (Kd.int .i64) [] rfl (Reps.none _ _) (by decide)) 0 _ [] r.f9 rfl (.tmp 18) (.tmp 20) 43 3 _ _ rfl Try.underlying43 infoInt rfl (by decide) (by omega) A9 _ c9 rfl rfl rfl (Kd.C_alloc (Kd.C_below H.out.h9 M3.out.below) _) (fun x cs h => h) (by have := N9.out; simp; omega) ?_; intro v4 w4 hM; have K4 := Aside0.mk (show Mem _ _ (row (Kd.int .i64) _ v4 r.f9 :: _) from hM); clear hM; obtain ⟨B9, d9, he, _, _⟩ := K4.out.row_at 0 rfl; subst he; clear cB fB hB; have cB := blk_cell (K4.out.blk_at 5 rfl); have fB := blk_frozen (K4.out.blk_at 5 rfl); have hB := blk_lt (K4.out.blk_at 5 rfl)))
  have M4 := Aside0.mk (K4.out.set 5 rfl 9 (.slice B9 r.f9.length d9))
  go_upto_region 6 with (((with_reducible refine gate_builtin (b := .append) (xs := #[.tmp 23, .tmp 25]) rfl ?_); at_builtin; refine Mem.app kE ((M4.out.allocAt #[] 102 w4.heap.size (by simp)).lit 0 kE [] rfl (Reps.none _ _) (by decide)) 0 _ [] r.f10 rfl (.tmp 23) (.tmp 25) 27 102 _ _ rfl Try.underlying27 infoEntry rfl (by decide) (by omega) A10 _ c10 rfl rfl rfl (Kd.C_alloc (Kd.C_below H.out.h10 M4.out.below) _) (fun x cs h => h) (by have := N10.out; simp; omega) ?_; intro v5 w5 hM; have K5 := Aside0.mk (show Mem _ _ (row kE _ v5 r.f10 :: _) from hM); clear hM; obtain ⟨B10, d10, he, _, _⟩ := K5.out.row_at 0 rfl; subst he; clear cB fB hB; have cB := blk_cell (K5.out.blk_at 6 rfl); have fB := blk_frozen (K5.out.blk_at 6 rfl); have hB := blk_lt (K5.out.blk_at 6 rfl)))
  have M5 := Aside0.mk (K5.out.set 6 rfl 10 (.slice B10 r.f10.length d10))
  have cZ := blk_cell (K5.out.blk_at 5 rfl)
  have fZ := blk_frozen (K5.out.blk_at 5 rfl)
  have hZ := blk_lt (K5.out.blk_at 5 rfl)
  go_wp2
  have M6 := M5.out.setRow 5 rfl [.int .i64 r.f0, .int .i64 r.f1, .int .i64 r.f2, .int .i64 r.f3, .int .i64 r.f4, .slice B5 r.f5.length d5, .int .i64 r.f6, .slice B7 r.f7.length d7, .slice B8 r.f8.length d8, .slice B9 r.f9.length d9, .slice B10 r.f10.length d10, .int .i64 r.f11, .int .i64 r.f12] rfl
  have hg6 := M6.blk_at 5 rfl
  refine bodyPost_ret (results_cell_row rfl _ _ (w.heap.size + 1) 45 #[.int .i64 r.f0, .int .i64 r.f1, .int .i64 r.f2, .int .i64 r.f3, .int .i64 r.f4, .slice B5 r.f5.length d5, .int .i64 r.f6, .slice B7 r.f7.length d7, .slice B8 r.f8.length d8, .slice B9 r.f9.length d9, .slice B10 r.f10.length d10, .int .i64 r.f11, .int .i64 r.f12] (0, 0) _ rfl hg6 Try.underlying45 rfl (by kernel_rfl)) rfl ?_
  exact ⟨_, _, _, _, _, rfl, Mem.sel (ps := [_, _, _, _, _, _, _]) (F := []) [4, 3, 2, 1, 0] 7 M6 rfl rfl⟩
end Go.Proofs.Ytggbjokhniigkaa.Rd

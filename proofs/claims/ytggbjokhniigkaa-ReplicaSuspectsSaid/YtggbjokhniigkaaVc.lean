/- ReplicaMays' walk. -/
import Derived.Test.YtggbjokhniigkaaVb
import Derived.Test.YtggbjokhniigkaaWk
import Derived.Deep.RegionWith
namespace Go.Proofs.Ytggbjokhniigkaa.Vc
open Go.Proofs.Ytggbjokhniigkaa.Ty Go.RowKit Go.Proofs.YtggbjokhniigkaaW.PrintWords Go.Proofs.YtggbjokhniigkaaW.PrintLast Go.Proofs.YtggbjokhniigkaaW.PrintMore Go.Proofs.Ytggbjokhniigkaa.Mx Go.Proofs.Ytggbjokhniigkaa.Kx Go.Proofs.Ytggbjokhniigkaa.Wa Go.Proofs.Ytggbjokhniigkaa.Wb Go.Proofs.Ytggbjokhniigkaa.Wc Go.Proofs.Ytggbjokhniigkaa.Wd Go.Proofs.Ytggbjokhniigkaa.Wj Go.Proofs.Ytggbjokhniigkaa.Wk Go.Proofs.Ytggbjokhniigkaa.Va Go.Proofs.Ytggbjokhniigkaa.Vb Go.Proofs.Ytggbjokhniigkaa.PReplicaProposes
set_option linter.unusedVariables false
set_option linter.unusedSimpArgs false
/-- The lengths lie within the capacities. -/
structure Fit (r : Rep) (c5 c7 c8 c9 c10 : Nat) : Prop where
  h5 : r.f5.length ≤ c5
  h7 : r.f7.length ≤ c7
  h8 : r.f8.length ≤ c8
  h9 : r.f9.length ≤ c9
  h10 : r.f10.length ≤ c10
theorem Great_calls (r : Rep) (A5 A7 A8 A9 A10 : Option Addr) (c5 c7 c8 c9 c10 : Nat) (w : World) (h : RdRep w r A5 A7 A8 A9 A10) (hc : Fit r c5 c7 c8 c9 c10) (k : Nat) (b : Bool) (hG : falseworklaw11_Great.f k r.f0 r.f1 r.f2 r.f3 r.f4 (r.f5.map toS) r.f6 r.f7 r.f8 r.f9 (r.f10.map toS) r.f11 r.f12 = some b) :
    Calls Try.prog 30 #[.agg #[.int .i64 r.f0, .int .i64 r.f1, .int .i64 r.f2, .int .i64 r.f3, .int .i64 r.f4, .slice A5 r.f5.length c5, .int .i64 r.f6, .slice A7 r.f7.length c7, .slice A8 r.f8.length c8, .slice A9 r.f9.length c9, .slice A10 r.f10.length c10, .int .i64 r.f11, .int .i64 r.f12]] w fun e w' => e = .returned (.bool b) ∧ Below w.heap.size w w' := by
  have m5 : (r.f5.map toS).length = r.f5.length := List.length_map ..
  have m10 : (r.f10.map toS).length = r.f10.length := List.length_map ..
  have q := falseworklaw11_Great.calls (k := k) (r := b) (w := w) (hr0_5 := m5.symm ▸ C_toS h.h5) (hc0_5 := m5.symm ▸ hc.h5) (hr0_7 := h.h7) (hc0_7 := hc.h7) (hr0_8 := h.h8) (hc0_8 := hc.h8) (hr0_9 := h.h9) (hc0_9 := hc.h9) (hr0_10 := m10.symm ▸ C_toS h.h10) (hc0_10 := m10.symm ▸ hc.h10) (h := hG)
  rw [m5, m10] at q
  exact q
theorem May11_calls (r : Rep) (A5 A7 A8 A9 A10 : Option Addr) (c5 c7 c8 c9 c10 : Nat) (w : World) (h : RdRep w r A5 A7 A8 A9 A10) (hc : Fit r c5 c7 c8 c9 c10) (hs : r.f5.length ≤ 1200 ∧ r.f7.length ≤ 20 ∧ r.f8.length ≤ 20 ∧ r.f9.length ≤ 20 ∧ r.f10.length ≤ 1200) :
    Calls Try.prog 32 #[.agg #[.int .i64 r.f0, .int .i64 r.f1, .int .i64 r.f2, .int .i64 r.f3, .int .i64 r.f4, .slice A5 r.f5.length c5, .int .i64 r.f6, .slice A7 r.f7.length c7, .slice A8 r.f8.length c8, .slice A9 r.f9.length c9, .slice A10 r.f10.length c10, .int .i64 r.f11, .int .i64 r.f12]] w fun e w' => e = .returned (.bool (may r)) ∧ Below w.heap.size w w' := by
  have m5 : (r.f5.map toS).length = r.f5.length := List.length_map ..
  have m10 : (r.f10.map toS).length = r.f10.length := List.length_map ..
  have q := falseworkref11_May.calls (k := 2000 + r.f7.length + 1 + 1 + 1) (r := may r) (w := w) (hr0_5 := m5.symm ▸ C_toS h.h5) (hc0_5 := m5.symm ▸ hc.h5) (hr0_7 := h.h7) (hc0_7 := hc.h7) (hr0_8 := h.h8) (hc0_8 := hc.h8) (hr0_9 := h.h9) (hc0_9 := hc.h9) (hr0_10 := m10.symm ▸ C_toS h.h10) (hc0_10 := m10.symm ▸ hc.h10) (h := May_f r hs.1 hs.2.1 hs.2.2.1 hs.2.2.2.1 hs.2.2.2.2)
  rw [m5, m10] at q
  exact q
set_option maxRecDepth 100000 in
set_option maxHeartbeats 4000000 in
theorem mays_calls (r : Rep) (A5 A7 A8 A9 A10 : Option Addr) (c5 c7 c8 c9 c10 : Nat) (w : World) (h : RdRep w r A5 A7 A8 A9 A10) (hc : Fit r c5 c7 c8 c9 c10) :
    Calls Try.prog 8 #[.agg #[.int .i64 r.f0, .int .i64 r.f1, .int .i64 r.f2, .int .i64 r.f3, .int .i64 r.f4, .slice A5 r.f5.length c5, .int .i64 r.f6, .slice A7 r.f7.length c7, .slice A8 r.f8.length c8, .slice A9 r.f9.length c9, .slice A10 r.f10.length c10, .int .i64 r.f11, .int .i64 r.f12]] w fun e w' => e = .returned (.bool true) ∧ Mem w w' [] := by
  have H := Aside0.mk h
  have HC := Aside0.mk hc
  obtain ⟨k, b, hG, hg⟩ := Great_f r
  have HG := Aside0.mk hG
  have M := Aside0.mk (((Mem.nil w).alloc #[.int .i64 r.f0, .int .i64 r.f1, .int .i64 r.f2, .int .i64 r.f3, .int .i64 r.f4, .slice A5 r.f5.length c5, .int .i64 r.f6, .slice A7 r.f7.length c7, .slice A8 r.f8.length c8, .slice A9 r.f9.length c9, .slice A10 r.f10.length c10, .int .i64 r.f11, .int .i64 r.f12] 45).drew)
  have cB := blk_cell (M.out.blk_at 0 rfl)
  obtain ⟨m, hm⟩ : ∃ m, may r = m := ⟨_, rfl⟩
  have HMM := Aside0.mk hm
  clear h hc hG hm
  cases b with
  | true =>
    clear hg
    go_enter Try.func8, Try.ntmps8
    go_upto_region 1 with (fail)
    refine wp_region_any (by kernel_rfl) ?_
    change wpAny _ _ _ _ _ _ _ (World.drew _)
    refine wpAny_ready (rs := [0]) (by kernel_rfl) (by simp) ?_
    refine AllReady.cons rfl (fun K hK => ?_) AllReady.nil
    go_simp
    refine hK _ _ ?_
    clear hK K
    refine wpAny_ready (rs := [1]) (by kernel_rfl) (by simp) ?_
    refine AllReady.cons rfl (fun K hK => ?_) AllReady.nil
    go_simp
    refine (Great_calls r A5 A7 A8 A9 A10 c5 c7 c8 c9 c10 _ (H.out.below M.out.below) HC.out k true HG.out).mono ?_
    rintro e w1 ⟨rfl, hb⟩
    have M' := Aside0.mk (M.out.grow hb)
    clear hb M cB
    have M := M'
    clear M'
    go_simp
    refine hK _ _ ?_
    clear hK K
    refine wpAny_take (i := 2) (v := .bool true) rfl (by kernel_rfl) (by kernel_rfl) (by kernel_rfl) (fun _ _ _ h => h) (Or.inl ⟨by rfl, fun w => by go_simp⟩) ?_
    refine wpAny_ready (rs := [3, 5]) (by kernel_rfl) (by simp) ?_
    refine AllReady.cons rfl (fun K hK => ?_) (AllReady.cons rfl (fun K hK => ?_) AllReady.nil)
    · go_simp
      first
        | (refine hK _ _ ?_)
        | (split; (rename_i h; exact absurd (show false = true from h) (by decide)); refine hK _ _ ?_)
      clear hK K
      refine wpAny_ready (rs := [4, 5]) (by kernel_rfl) (by simp) ?_
      refine AllReady.cons rfl (fun K hK => ?_) (AllReady.cons rfl (fun K hK => ?_) AllReady.nil)
      · go_simp
        first
          | (refine hK _ _ ?_)
          | (split; (rename_i h; exact absurd (show false = true from h) (by decide)); refine hK _ _ ?_)
        clear hK K
        refine wpAny_ready (rs := [5]) (by kernel_rfl) (by simp) ?_
        refine AllReady.cons rfl (fun K hK => ?_) AllReady.nil
        go_simp
        first
          | (refine hK _ _ ?_)
          | (split; (rename_i h; exact absurd (show false = true from h) (by decide)); refine hK _ _ ?_)
        clear hK K
        refine wpAny_ready (rs := [6]) (by kernel_rfl) (by simp) ?_
        refine AllReady.cons rfl (fun K hK => ?_) AllReady.nil
        go_simp
        first
          | (refine hK _ _ ?_)
          | (split; (rename_i h; exact absurd (show false = true from h) (by decide)); refine hK _ _ ?_)
        clear hK K
        refine wpAny_ready (rs := [7]) (by kernel_rfl) (by simp) ?_
        refine AllReady.cons rfl (fun K hK => ?_) AllReady.nil
        go_simp
        first
          | (refine hK _ _ ?_)
          | (split; (rename_i h; exact absurd (show false = true from h) (by decide)); refine hK _ _ ?_)
        clear hK K
        refine wpAny_ready (rs := [8]) (by kernel_rfl) (by simp) ?_
        refine AllReady.cons rfl (fun K hK => ?_) AllReady.nil
        go_simp
        first
          | (refine hK _ _ ?_)
          | (split; (rename_i h; exact absurd (show false = true from h) (by decide)); refine hK _ _ ?_)
        clear hK K
        refine wpAny_ready (rs := [9]) (by kernel_rfl) (by simp) ?_
        refine AllReady.cons rfl (fun K hK => ?_) AllReady.nil
        go_simp
        first
          | (refine hK _ _ ?_)
          | (split; (rename_i h; exact absurd (show false = true from h) (by decide)); refine hK _ _ ?_)
        clear hK K
        refine wpAny_ready (rs := [10]) (by kernel_rfl) (by simp) ?_
        refine AllReady.cons rfl (fun K hK => ?_) AllReady.nil
        go_simp
        first
          | (refine hK _ _ ?_)
          | (split; (rename_i h; exact absurd (show false = true from h) (by decide)); refine hK _ _ ?_)
        clear hK K
        refine wpAny_ready (rs := [11]) (by kernel_rfl) (by simp) ?_
        refine AllReady.cons rfl (fun K hK => ?_) AllReady.nil
        go_simp
        refine hK _ _ ?_
        clear hK K
        refine wpAny_ready (rs := [12]) (by kernel_rfl) (by simp) ?_
        refine AllReady.cons rfl (fun K hK => ?_) AllReady.nil
        go_simp
        refine hK _ _ ?_
        clear hK K
        refine wpAny_done (by kernel_rfl) ?_ _
        go_wp2
        go_ret
        exact ⟨rfl, Mem.sel (ps := [_]) (F := []) [] 1 M.out rfl rfl⟩
      · go_simp
        first
          | (refine hK _ _ ?_)
          | (split; (rename_i h; exact absurd (show false = true from h) (by decide)); refine hK _ _ ?_)
        clear hK K
        refine wpAny_ready (rs := [4]) (by kernel_rfl) (by simp) ?_
        refine AllReady.cons rfl (fun K hK => ?_) AllReady.nil
        go_simp
        first
          | (refine hK _ _ ?_)
          | (split; (rename_i h; exact absurd (show false = true from h) (by decide)); refine hK _ _ ?_)
        clear hK K
        refine wpAny_ready (rs := [6]) (by kernel_rfl) (by simp) ?_
        refine AllReady.cons rfl (fun K hK => ?_) AllReady.nil
        go_simp
        first
          | (refine hK _ _ ?_)
          | (split; (rename_i h; exact absurd (show false = true from h) (by decide)); refine hK _ _ ?_)
        clear hK K
        refine wpAny_ready (rs := [7]) (by kernel_rfl) (by simp) ?_
        refine AllReady.cons rfl (fun K hK => ?_) AllReady.nil
        go_simp
        first
          | (refine hK _ _ ?_)
          | (split; (rename_i h; exact absurd (show false = true from h) (by decide)); refine hK _ _ ?_)
        clear hK K
        refine wpAny_ready (rs := [8]) (by kernel_rfl) (by simp) ?_
        refine AllReady.cons rfl (fun K hK => ?_) AllReady.nil
        go_simp
        first
          | (refine hK _ _ ?_)
          | (split; (rename_i h; exact absurd (show false = true from h) (by decide)); refine hK _ _ ?_)
        clear hK K
        refine wpAny_ready (rs := [9]) (by kernel_rfl) (by simp) ?_
        refine AllReady.cons rfl (fun K hK => ?_) AllReady.nil
        go_simp
        first
          | (refine hK _ _ ?_)
          | (split; (rename_i h; exact absurd (show false = true from h) (by decide)); refine hK _ _ ?_)
        clear hK K
        refine wpAny_ready (rs := [10]) (by kernel_rfl) (by simp) ?_
        refine AllReady.cons rfl (fun K hK => ?_) AllReady.nil
        go_simp
        first
          | (refine hK _ _ ?_)
          | (split; (rename_i h; exact absurd (show false = true from h) (by decide)); refine hK _ _ ?_)
        clear hK K
        refine wpAny_ready (rs := [11]) (by kernel_rfl) (by simp) ?_
        refine AllReady.cons rfl (fun K hK => ?_) AllReady.nil
        go_simp
        refine hK _ _ ?_
        clear hK K
        refine wpAny_ready (rs := [12]) (by kernel_rfl) (by simp) ?_
        refine AllReady.cons rfl (fun K hK => ?_) AllReady.nil
        go_simp
        refine hK _ _ ?_
        clear hK K
        refine wpAny_done (by kernel_rfl) ?_ _
        go_wp2
        go_ret
        exact ⟨rfl, Mem.sel (ps := [_]) (F := []) [] 1 M.out rfl rfl⟩
    · go_simp
      first
        | (refine hK _ _ ?_)
        | (split; (rename_i h; exact absurd (show false = true from h) (by decide)); refine hK _ _ ?_)
      clear hK K
      refine wpAny_ready (rs := [3]) (by kernel_rfl) (by simp) ?_
      refine AllReady.cons rfl (fun K hK => ?_) AllReady.nil
      go_simp
      first
        | (refine hK _ _ ?_)
        | (split; (rename_i h; exact absurd (show false = true from h) (by decide)); refine hK _ _ ?_)
      clear hK K
      refine wpAny_ready (rs := [4]) (by kernel_rfl) (by simp) ?_
      refine AllReady.cons rfl (fun K hK => ?_) AllReady.nil
      go_simp
      first
        | (refine hK _ _ ?_)
        | (split; (rename_i h; exact absurd (show false = true from h) (by decide)); refine hK _ _ ?_)
      clear hK K
      refine wpAny_ready (rs := [6]) (by kernel_rfl) (by simp) ?_
      refine AllReady.cons rfl (fun K hK => ?_) AllReady.nil
      go_simp
      first
        | (refine hK _ _ ?_)
        | (split; (rename_i h; exact absurd (show false = true from h) (by decide)); refine hK _ _ ?_)
      clear hK K
      refine wpAny_ready (rs := [7]) (by kernel_rfl) (by simp) ?_
      refine AllReady.cons rfl (fun K hK => ?_) AllReady.nil
      go_simp
      first
        | (refine hK _ _ ?_)
        | (split; (rename_i h; exact absurd (show false = true from h) (by decide)); refine hK _ _ ?_)
      clear hK K
      refine wpAny_ready (rs := [8]) (by kernel_rfl) (by simp) ?_
      refine AllReady.cons rfl (fun K hK => ?_) AllReady.nil
      go_simp
      first
        | (refine hK _ _ ?_)
        | (split; (rename_i h; exact absurd (show false = true from h) (by decide)); refine hK _ _ ?_)
      clear hK K
      refine wpAny_ready (rs := [9]) (by kernel_rfl) (by simp) ?_
      refine AllReady.cons rfl (fun K hK => ?_) AllReady.nil
      go_simp
      first
        | (refine hK _ _ ?_)
        | (split; (rename_i h; exact absurd (show false = true from h) (by decide)); refine hK _ _ ?_)
      clear hK K
      refine wpAny_ready (rs := [10]) (by kernel_rfl) (by simp) ?_
      refine AllReady.cons rfl (fun K hK => ?_) AllReady.nil
      go_simp
      first
        | (refine hK _ _ ?_)
        | (split; (rename_i h; exact absurd (show false = true from h) (by decide)); refine hK _ _ ?_)
      clear hK K
      refine wpAny_ready (rs := [11]) (by kernel_rfl) (by simp) ?_
      refine AllReady.cons rfl (fun K hK => ?_) AllReady.nil
      go_simp
      refine hK _ _ ?_
      clear hK K
      refine wpAny_ready (rs := [12]) (by kernel_rfl) (by simp) ?_
      refine AllReady.cons rfl (fun K hK => ?_) AllReady.nil
      go_simp
      refine hK _ _ ?_
      clear hK K
      refine wpAny_done (by kernel_rfl) ?_ _
      go_wp2
      go_ret
      exact ⟨rfl, Mem.sel (ps := [_]) (F := []) [] 1 M.out rfl rfl⟩
  | false =>
    have hs := hg rfl
    clear hg
    have HS := Aside0.mk hs
    clear hs
    cases m
    all_goals
      go_enter Try.func8, Try.ntmps8
      go_upto_region 1 with (fail)
      first | go_region_with (first
        | (go_at_call 30; refine (Great_calls r A5 A7 A8 A9 A10 c5 c7 c8 c9 c10 _ (H.out.below M.out.below) HC.out k false HG.out).mono ?_; rintro e w1 ⟨rfl, hb⟩; have M' := Aside0.mk (M.out.grow hb); clear hb M cB; have M := M'; clear M'; have cB := blk_cell (M.out.blk_at 0 rfl))
        | (go_at_call 31; refine (May_calls r A5 A7 A8 A9 A10 c5 c7 c8 c9 c10 _ (Kd.C_below H.out.h5 M.out.below) (Kd.C_below H.out.h7 M.out.below) (Kd.C_below H.out.h8 M.out.below) (Kd.C_below H.out.h9 M.out.below) (Kd.C_below H.out.h10 M.out.below) ⟨Nat.le_trans HS.out.1 (by decide), Nat.le_trans HS.out.2.1 (by decide), Nat.le_trans HS.out.2.2.1 (by decide), Nat.le_trans HS.out.2.2.2.1 (by decide), Nat.le_trans HS.out.2.2.2.2 (by decide)⟩).mono ?_; rintro e w1 ⟨he, hM⟩; rw [HMM.out] at he; subst he; have M' := Aside0.mk (M.out.trans hM); clear hM M cB; have M := M'; clear M'; have cB := blk_cell (M.out.blk_at 0 rfl))
        | (go_at_call 32; refine (May11_calls r A5 A7 A8 A9 A10 c5 c7 c8 c9 c10 _ (H.out.below M.out.below) HC.out HS.out).mono ?_; rintro e w1 ⟨he, hb⟩; rw [HMM.out] at he; subst he; have M' := Aside0.mk (M.out.grow hb); clear hb M cB; have M := M'; clear M'; have cB := blk_cell (M.out.blk_at 0 rfl))
        | (go_at_call 29; refine (awake_calls _).mono ?_; rintro e w1 ⟨rfl, hM⟩; have M' := Aside0.mk (M.out.trans hM); clear hM M cB; have M := M'; clear M'; have cB := blk_cell (M.out.blk_at 0 rfl))) | fail
      all_goals
        go_wp2
        go_ret
        exact ⟨rfl, Mem.sel (ps := [_]) (F := []) [] 1 M.out rfl rfl⟩
end Go.Proofs.Ytggbjokhniigkaa.Vc

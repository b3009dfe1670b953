/- Texts laid together: Uc4, Lv4, LawChanges. No condition. -/
import Derived.Test.YtggbjokhniigkaaGreatRows
import Derived.ChangeMaps5
import Derived.Deep.Slices
import Derived.Test.YtggbjokhniigkaaGreatY4z24
import Derived.Test.YtggbjokhniigkaaGreatY4z26
namespace Go.Proofs.YtggbjokhniigkaaGreat.Uc4
open Go.Proofs.YtggbjokhniigkaaGreat.Ty Go.RowKit Go.Proofs.YtggbjokhniigkaaGreatW.PrintWords Go.Proofs.YtggbjokhniigkaaGreatW.PrintLast Go.Proofs.YtggbjokhniigkaaGreatW.PrintMore Go.Proofs.YtggbjokhniigkaaGreat.Mx Go.Proofs.YtggbjokhniigkaaGreat.Kx Go.Proofs.YtggbjokhniigkaaGreat.Wa Go.Proofs.YtggbjokhniigkaaGreat.Wd Go.Proofs.YtggbjokhniigkaaGreat.Vc Go.Proofs.YtggbjokhniigkaaGreat.Wj Go.Proofs.YtggbjokhniigkaaGreat.Tk Go.Proofs.YtggbjokhniigkaaGreat.Tb Go.Proofs.YtggbjokhniigkaaGreat.Tn Go.Proofs.YtggbjokhniigkaaGreat.Tz Go.Proofs.YtggbjokhniigkaaGreat.Ua Go.Proofs.YtggbjokhniigkaaGreat.Un Go.Proofs.YtggbjokhniigkaaGreat.Ub4 Go.Proofs.YtggbjokhniigkaaGreat.Cx
theorem few_lim {s : Rep} {ms : List Msg} (h : Lim s ms) : FewOf s ms :=
  ⟨⟨Nat.le_trans h.l5 (by decide), Nat.le_trans h.l5 (by decide), Nat.le_trans h.l7 (by decide), Nat.le_trans h.l8 (by decide), Nat.le_trans h.l9 (by decide), Nat.le_trans h.l10 (by decide)⟩, Nat.le_trans h.lm (by decide), rd_f7 (fun x hx => Nat.le_trans (h.lx x hx) (by decide))⟩
theorem good_4 (r : Rep) (m : Msg) (A5 A7 A8 A9 A10 A : Option Addr) (c5 c7 c8 c9 c10 c : Nat) (hk : m.f0 = 4) (hc : Fit r c5 c7 c8 c9 c10) (hs : r.f5.length ≤ 1200 ∧ r.f7.length ≤ 20 ∧ r.f8.length ≤ 20 ∧ r.f9.length ≤ 20 ∧ r.f10.length ≤ 1200) (hln : m.f7.length ≤ 1200) (hlc : m.f7.length ≤ c) : TakesAs r m A5 A7 A8 A9 A10 A c5 c7 c8 c9 c10 c := by
  refine both_4 r m A5 A7 A8 A9 A10 A c5 c7 c8 c9 c10 c hk hc hs hln hlc fun h1 h2 => ?_
  have n := nums (by omega) (by omega) h1 h2
  have P := (may_iff r).1 h1
  have i8 := (Tq.ids_pair _ _ _ (show idsFrom r.f1 (-1) r.f8 = true from P.2.2.2.2.2.2.2.2.2.2.2.2.2.2.1)).1
  have i9 := (Tq.ids_pair _ _ _ (show idsFrom r.f1 (-1) r.f9 = true from P.2.2.2.2.2.2.2.2.2.2.2.2.2.2.2.1)).1
  have f8 : r.f8.Pairwise (fun a b => a < b) ∧ r.f8.length ≤ 20 := ⟨i8, hs.2.2.1⟩
  have fr : Fine r := ⟨n.i0, n.i1, n.n5, n.w0, n.w1, hs.1, i9, hs.2.2.2.1, hs.2.2.2.2⟩
  exact ⟨(tChange r m).1, (tChange r m).2, few_lim (tChange_lim fr hs.2.1 hs.2.2.1 n.v0 n.v1), fun w0 w F g v5 v7 v8 v9 v10 hM hl => Ce.changes_calls w0 w F g r _ m v5 v7 v8 v9 v10 (.slice none 0 0) [] _ A c hM ⟨fr, f8, n.v0, n.v1, Nat.zero_le _⟩ rfl, fun w0 w F g v5 v7 v8 v9 v10 hM hl => Cu.change11_does w0 w F g r _ m v5 v7 v8 v9 v10 _ A c hM ⟨fr, f8, n.v0, n.v1⟩ rfl⟩
end Go.Proofs.YtggbjokhniigkaaGreat.Uc4
namespace Go.Proofs.YtggbjokhniigkaaGreat.Lv4
open Go.Proofs.YtggbjokhniigkaaGreat.Ty Go.RowKit Go.Proofs.YtggbjokhniigkaaGreatW.PrintWords Go.Proofs.YtggbjokhniigkaaGreatW.PrintLast Go.Proofs.YtggbjokhniigkaaGreatW.PrintMore Go.Proofs.YtggbjokhniigkaaGreat.Mx Go.Proofs.YtggbjokhniigkaaGreat.Kx Go.Proofs.YtggbjokhniigkaaGreat.Wd Go.Proofs.YtggbjokhniigkaaGreat.Vc Go.Proofs.YtggbjokhniigkaaGreat.Of Go.Proofs.YtggbjokhniigkaaGreat.Uc4
set_option linter.unusedVariables false
set_option maxRecDepth 100000 in
set_option maxHeartbeats 4000000 in
theorem law_calls (r : Rep) (m : Msg) (A5 A7 A8 A9 A10 A : Option Addr) (c5 c7 c8 c9 c10 c : Nat) (w : World) (h : RdRep w r A5 A7 A8 A9 A10) (hc : Fit r c5 c7 c8 c9 c10) (hl : Kd.C kE w A m.f7.length m.f7) (hlc : m.f7.length ≤ c) :
    Calls Tryz.prog 7 #[.agg #[.int .i64 r.f0, .int .i64 r.f1, .int .i64 r.f2, .int .i64 r.f3, .int .i64 r.f4, .slice A5 r.f5.length c5, .int .i64 r.f6, .slice A7 r.f7.length c7, .slice A8 r.f8.length c8, .slice A9 r.f9.length c9, .slice A10 r.f10.length c10, .int .i64 r.f11, .int .i64 r.f12], .agg #[.int .i64 m.f0, .int .i64 m.f1, .int .i64 m.f2, .int .i64 m.f3, .int .i64 m.f4, .int .i64 m.f5, .int .i64 m.f6, .slice A m.f7.length c]] w fun e w' => e = .returned (.bool true) ∧ Mem w w' [] := by
  have H := Aside0.mk h
  have HC := Aside0.mk hc
  have HL := Aside0.mk hl
  have HLC := Aside0.mk hlc
  have M1 := Aside0.mk (((Mem.nil w).allocAt #[.int .i64 r.f0, .int .i64 r.f1, .int .i64 r.f2, .int .i64 r.f3, .int .i64 r.f4, .slice A5 r.f5.length c5, .int .i64 r.f6, .slice A7 r.f7.length c7, .slice A8 r.f8.length c8, .slice A9 r.f9.length c9, .slice A10 r.f10.length c10, .int .i64 r.f11, .int .i64 r.f12] 25 w.heap.size rfl).allocAt #[.int .i64 m.f0, .int .i64 m.f1, .int .i64 m.f2, .int .i64 m.f3, .int .i64 m.f4, .int .i64 m.f5, .int .i64 m.f6, .slice A m.f7.length c] 27 (w.heap.size + 1) (by simp))
  clear h hc hl hlc
  go_enter Tryz.func7, Tryz.ntmps7
  go_wp2_with fail
  refine (of_calls r m A5 A7 A8 A9 A10 A c5 c7 c8 c9 c10 c _ (H.out.below M1.out.below) HC.out (Kd.C_below HL.out M1.out.below) HLC.out 4 (by decide) (fun m' hk hs hn hlc' => good_4 r m' A5 A7 A8 A9 A10 A c5 c7 c8 c9 c10 c hk HC.out hs hn hlc')).mono ?_
  rintro e w1 ⟨rfl, hM⟩
  have M2 := Aside0.mk (M1.out.trans hM)
  clear hM
  go_wp2
  go_ret
  exact ⟨rfl, Mem.sel (ps := [_, _]) (F := []) [] 2 M2.out rfl rfl⟩
end Go.Proofs.YtggbjokhniigkaaGreat.Lv4
namespace Go.Proofs.YtggbjokhniigkaaGreat.LawChanges
open Go.ChangeShapes Go.WideShapes Go.ChangeAt Go.RowKit Go.Proofs.YtggbjokhniigkaaGreatW.PrintWords Go.Proofs.YtggbjokhniigkaaGreat.Or Go.Proofs.YtggbjokhniigkaaGreat.Lv4 Go.Proofs.YtggbjokhniigkaaGreat.Vc Go.Proofs.YtggbjokhniigkaaGreat.Wd Go.Proofs.YtggbjokhniigkaaGreat.Mx
set_option linter.unusedVariables false
theorem own : ownKnob Tryz.prog.godebug = none := by kernel_rfl
theorem laidOut : laidOutB Tryz.prog = true := by kernel_rfl
set_option maxRecDepth 100000 in
theorem lifted (os : Os) (started : os.Started) (H : Type) (enc : TypeId × Value → H) :
    ReturnsInHanded {} Tryz.checked os 7 .any (Rows.replicaChangesSpec.pre6 enc Tryz.prog Tryz.f7 Rows.replicaChangesRow.domain false) (Rows.replicaChangesSpec.post enc Tryz.prog Tryz.f7 false true false false) := by
  refine returnsInHanded_of_change (C := Tryz.checked) own started (by kernel_rfl) Tryz.func7
    (ChangeSpec.witness6 (enc := enc) (C := Tryz.checked) false ⟨#[], #[.agg #[.int .i64 0, .int .i64 0, .int .i64 0, .int .i64 0, .int .i64 0, .slice none 0 0, .int .i64 0, .slice none 0 0, .slice none 0 0, .slice none 0 0, .slice none 0 0, .int .i64 0, .int .i64 0], .agg #[.int .i64 0, .int .i64 0, .int .i64 0, .int .i64 0, .int .i64 0, .int .i64 0, .int .i64 0, .slice none 0 0]], []⟩ 8 (by kernel_rfl) (by kernel_rfl) (by kernel_rfl) (by kernel_rfl)) ?_
  intro W base args ds gs before hval0 hW hcnd _
  have hval : ∀ (j : Nat) t v, Tryz.f7.params[j]? = some t → args[j]? = some v → Value.okWide Tryz.prog W .any base t v := hval0
  have hW' := hW
  obtain ⟨p, q, hA0, hV, rfl, hfz, hnd⟩ := hW
  have hA : DataW.TrodAll enc Tryz.prog W 0 (fun _ => true) true Tryz.f7.params.toList args.toList ds p := hA0
  rw [Tryz.params7] at hA hval
  obtain ⟨v0, v1, d0, d1, p0, p1, rfl, rfl, rfl, h0, h1⟩ := trodAll_two hA
  obtain ⟨rfl, rfl⟩ := trodVars_none hV
  have k0 := h0
  have lt0 : ∀ x ∈ p0, x.block < W.heap.size := by obtain ⟨m, hm⟩ := k0; exact DataW.trod_lt m _ _ _ hm
  have k1 := h1
  have lt1 : ∀ x ∈ p1, x.block < W.heap.size := by obtain ⟨m, hm⟩ := k1; exact DataW.trod_lt m _ _ _ hm
  obtain ⟨r, A5, c5, A7, c7, A8, c8, A9, c9, A10, c10, rfl, l5, g5, l7, g7, l8, g8, l9, g9, l10, g10⟩ := open_rep (hval 0 25 v0 rfl rfl) h0
  obtain ⟨m, A, c, rfl, l1, g1⟩ := open_msg (hval 1 27 v1 rfl rfl) h1
  clear hA0 hval0
  refine (Lv4.law_calls r m A5 A7 A8 A9 A10 A c5 c7 c8 c9 c10 c W ⟨g5, g7, g8, g9, g10⟩ ⟨l5, l7, l8, l9, l10⟩ g1 l1).mono fun e W' ⟨he, hM⟩ => ?_
  subst he
  have bel := hM.below
  exact ⟨_, rfl, _, _, _, [], _, [], hW', trodAll_mk1 (shut_bool Tryz.underlying4 _), (trodAll_cons_mk (Below.trod laidOut (by kernel_rfl) (of_decide_eq_true (by kernel_rfl)) k0 bel lt0) (trodAll_cons_mk (Below.trod laidOut (by kernel_rfl) (of_decide_eq_true (by kernel_rfl)) k1 bel lt1) trodAll_mk0)), rfl, bel.frame _, fun h => by cases h⟩
theorem over : Rows.replicaChangesRow.holds Tryz.pinned (OpenSpec.ofChange Rows.replicaChangesSpec) :=
  OpenClaim.holds_of_wide 7 Tryz.f7 rfl rfl rfl rfl rfl rfl rfl ⟨rfl, rfl, rfl, rfl, rfl⟩ rfl rfl rfl rfl rfl (by kernel_rfl) Tryz.func7 (by kernel_rfl)
    (of_decide_eq_true (by kernel_rfl)) (by unfold Func.isWrapper; first | (rw [if_pos (by decide +kernel)]; kernel_rfl) | (rw [if_neg (by decide +kernel)]; exact ⟨rfl, rfl⟩))
    (fun os started H enc _ => lifted os started H enc)
theorem proved : Rows.ReplicaChangesSaid := over
#print axioms proved
end Go.Proofs.YtggbjokhniigkaaGreat.LawChanges
namespace Go.Proofs.YtggbjokhniigkaaGreat
theorem replicaChanges_holds : Rows.ReplicaChangesSaid := LawChanges.proved
end Go.Proofs.YtggbjokhniigkaaGreat

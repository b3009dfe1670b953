/- The reference's Propose: who is primary, and the ways that refuse. -/
import Derived.Test.YtggbjokhniigkaaRb
import Derived.Test.YtggbjokhniigkaaVc
namespace Go.Proofs.Ytggbjokhniigkaa.Rc
open Go.Proofs.Ytggbjokhniigkaa.Ty Go.RowKit Go.Proofs.YtggbjokhniigkaaW.PrintWords Go.Proofs.YtggbjokhniigkaaW.PrintLast Go.Proofs.YtggbjokhniigkaaW.PrintMore Go.Proofs.Ytggbjokhniigkaa.Mx Go.Proofs.Ytggbjokhniigkaa.Kx Go.Proofs.Ytggbjokhniigkaa.Wa Go.Proofs.Ytggbjokhniigkaa.Wb Go.Proofs.Ytggbjokhniigkaa.Wc Go.Proofs.Ytggbjokhniigkaa.Wd Go.Proofs.Ytggbjokhniigkaa.We Go.Proofs.Ytggbjokhniigkaa.Wj Go.Proofs.Ytggbjokhniigkaa.Va Go.Proofs.Ytggbjokhniigkaa.Vb Go.Proofs.Ytggbjokhniigkaa.Vc Go.Proofs.Ytggbjokhniigkaa.Ra Go.Proofs.Ytggbjokhniigkaa.PReplicaProposes
set_option linter.unusedVariables false
set_option linter.unusedSimpArgs false
set_option maxRecDepth 100000 in
set_option maxHeartbeats 2000000 in
theorem primary11_calls (w : World) (g : Nat) (i n vw nr hw : Int) (vl : Value) (cm : Int) (va vv vo vb : Value) (bv bd : Int)
    (hb : w.heap[g]? = some (.cells #[.int .i64 i, .int .i64 n, .int .i64 vw, .int .i64 nr, .int .i64 hw, vl, .int .i64 cm, va, vv, vo, vb, .int .i64 bv, .int .i64 bd] 45 (0, 0))) (hv : 0 ≤ vw) (hv2 : vw ≤ 4611686018427387904) (hn : 0 < n) (hn2 : n ≤ 5) :
    Calls Try.prog 76 #[.pointer (some ⟨g, 0, none⟩)] w fun e w' => e = .returned (.bool (vw % n == i)) ∧ Drawn0 w w' := by
  have cB := blk_cell hb
  clear hb
  have hz : (n == 0) = false := by simp; omega
  have hz2 : ¬ n = 0 := by omega
  have ht : vw.tmod n = vw % n := Int.tmod_eq_emod_of_nonneg hv
  go_enter Try.func76, Try.ntmps76
  go_wp2
  (try go_quiet (fail))
  (try go_wp2)
  go_ret
  exact ⟨by first | rfl | (rw [ht]; done) | (simp [ht]; done), by repeat (first | exact Drawn0.refl _ | apply Drawn0.step)⟩
/-- What the reference's Propose hands back: it reads as s, and what was there stays. -/
def Out (w w' : World) (e : Ending) (s : Rep) (msgs : List Msg) (kk code : Int) : Prop :=
  ∃ (B5 B7 B8 B9 B10 Bo : Option Addr) (d5 d7 d8 d9 d10 co : Nat), e = .returned (.tuple #[.agg #[.int .i64 s.f0, .int .i64 s.f1, .int .i64 s.f2, .int .i64 s.f3, .int .i64 s.f4, .slice B5 s.f5.length d5, .int .i64 s.f6, .slice B7 s.f7.length d7, .slice B8 s.f8.length d8, .slice B9 s.f9.length d9, .slice B10 s.f10.length d10, .int .i64 s.f11, .int .i64 s.f12], .slice Bo msgs.length co, .int .i64 kk, .int .i64 code]) ∧ RdRep w' s B5 B7 B8 B9 B10 ∧ Fit s d5 d7 d8 d9 d10 ∧ Kd.C kM w' Bo msgs.length msgs ∧ msgs.length ≤ co ∧ Below w.heap.size w w'
set_option maxRecDepth 100000 in
set_option maxHeartbeats 4000000 in
theorem P11_e1 (r : Rep) (A5 A7 A8 A9 A10 : Option Addr) (c5 c7 c8 c9 c10 : Nat) (w : World) (h : RdRep w r A5 A7 A8 A9 A10) (hc : Fit r c5 c7 c8 c9 c10) (hn : r.f5.length ≤ 1200 ∧ r.f7.length ≤ 20 ∧ r.f8.length ≤ 20 ∧ r.f9.length ≤ 20 ∧ r.f10.length ≤ 1200) (time : Int) (data : ByteArray) (hs : data.size ≤ 1000000) (hx : (may r && below time && decide (data.size ≤ 20000)) = false) :
    Calls Try.prog 35 #[.agg #[.int .i64 r.f0, .int .i64 r.f1, .int .i64 r.f2, .int .i64 r.f3, .int .i64 r.f4, .slice A5 r.f5.length c5, .int .i64 r.f6, .slice A7 r.f7.length c7, .slice A8 r.f8.length c8, .slice A9 r.f9.length c9, .slice A10 r.f10.length c10, .int .i64 r.f11, .int .i64 r.f12], .int .i64 time, .string data] w fun e w' => Out w w' e r [] 0 1 := by
  have H := Aside0.mk h
  have HC := Aside0.mk hc
  have HN := Aside0.mk hn
  have M0 := Aside0.mk (Mem.nil w)
  have M1 := Aside0.mk ((M0.out.alloc #[.int .i64 r.f0, .int .i64 r.f1, .int .i64 r.f2, .int .i64 r.f3, .int .i64 r.f4, .slice A5 r.f5.length c5, .int .i64 r.f6, .slice A7 r.f7.length c7, .slice A8 r.f8.length c8, .slice A9 r.f9.length c9, .slice A10 r.f10.length c10, .int .i64 r.f11, .int .i64 r.f12] 45).allocAt #[.int .i64 0, .int .i64 0, .int .i64 0, .int .i64 0, .int .i64 0, .slice none 0 0, .int .i64 0, .slice none 0 0, .slice none 0 0, .slice none 0 0, .slice none 0 0, .int .i64 0, .int .i64 0] 45 (w.heap.size + 1) (by simp))
  clear h hn hc
  obtain ⟨b1, e1⟩ : ∃ b, may r = b := ⟨_, rfl⟩
  obtain ⟨b2, e2⟩ : ∃ b, below time = b := ⟨_, rfl⟩
  rw [e1, e2] at hx
  have E1 := Aside0.mk e1
  have T2 := Aside0.mk ((time_f time).trans (congrArg some e2))
  have hw : b1 = false ∨ (b1 = true ∧ b2 = false) ∨ (b1 = true ∧ b2 = true ∧ 20000 < data.size) := by
    cases b1
    · exact .inl rfl
    · cases b2
      · exact .inr (.inl ⟨rfl, rfl⟩)
      · exact .inr (.inr ⟨rfl, rfl, by simpa using hx⟩)
  clear hx e1 e2
  rcases hw with rfl | ⟨rfl, rfl⟩ | ⟨rfl, rfl, hsz⟩
  all_goals
    go_enter Try.func35, Try.ntmps35
    go_wp2_with fail
    refine (May11_calls r A5 A7 A8 A9 A10 c5 c7 c8 c9 c10 _ (H.out.below M1.out.below) HC.out HN.out).mono ?_
    rintro e w1 ⟨he, hb⟩
    rw [E1.out] at he
    subst he
    have M2 := Aside0.mk (M1.out.grow hb)
    clear hb
    have cB := blk_cell (M2.out.blk_at 1 rfl)
    have cZ := blk_cell (M2.out.blk_at 0 rfl)
    have fZ := blk_frozen (M2.out.blk_at 0 rfl)
    go_wp2_with (go_at_call 70; refine (falseworkref11_time.calls time _ _ T2.out).mono ?_; rintro e w2 ⟨rfl, hD⟩; have M3 := Aside0.mk (M2.out.drawn hD); clear hD M2 cB cZ fZ; have M2 := M3; clear M3; have cB := blk_cell (M2.out.blk_at 1 rfl); have cZ := blk_cell (M2.out.blk_at 0 rfl); have fZ := blk_frozen (M2.out.blk_at 0 rfl))
    have M4 := M2.out.setRow 0 rfl [.int .i64 r.f0, .int .i64 r.f1, .int .i64 r.f2, .int .i64 r.f3, .int .i64 r.f4, .slice A5 r.f5.length c5, .int .i64 r.f6, .slice A7 r.f7.length c7, .slice A8 r.f8.length c8, .slice A9 r.f9.length c9, .slice A10 r.f10.length c10, .int .i64 r.f11, .int .i64 r.f12] rfl
    have hg4 := M4.blk_at 0 rfl
    refine bodyPost_ret (results_list (rs := [.cell 6 45, .tmp 7, .tmp 8, .tmp 9]) rfl (by simp) (.cell (w.heap.size + 1) 45 #[.int .i64 r.f0, .int .i64 r.f1, .int .i64 r.f2, .int .i64 r.f3, .int .i64 r.f4, .slice A5 r.f5.length c5, .int .i64 r.f6, .slice A7 r.f7.length c7, .slice A8 r.f8.length c8, .slice A9 r.f9.length c9, .slice A10 r.f10.length c10, .int .i64 r.f11, .int .i64 r.f12] (0, 0) _ rfl hg4 Try.underlying45 rfl (by kernel_rfl) (.tmp (.tmp (.tmp .nil))))) rfl ?_
    exact ⟨A5, A7, A8, A9, A10, none, c5, c7, c8, c9, c10, 0, rfl, H.out.below M4.below, HC.out, C_zero _, Nat.le_refl _, M4.below⟩
end Go.Proofs.Ytggbjokhniigkaa.Rc

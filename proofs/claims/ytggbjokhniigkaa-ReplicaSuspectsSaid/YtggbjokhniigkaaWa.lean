/- Walks of the replica's small methods. -/
import Derived.Test.YtggbjokhniigkaaKind
import Derived.WalkSpells
import Derived.WalkLawsBesides
import Derived.RegionTactic
import Derived.Deep.RegionLaw
import Derived.Deep.QuietTactic
import Derived.BigQuiet
import Derived.BigRegion
import Derived.Outline
import Derived.ChangeAlike
import Derived.Deep.DeepMust
namespace Go.Proofs.Ytggbjokhniigkaa.Wa
open Go.Proofs.Ytggbjokhniigkaa.Ty Go.RowKit Go.Proofs.YtggbjokhniigkaaW.PrintWords Go.Proofs.YtggbjokhniigkaaW.PrintLast Go.Proofs.YtggbjokhniigkaaW.PrintMore Go.Proofs.Ytggbjokhniigkaa.Mx Go.Proofs.Ytggbjokhniigkaa.Kx
set_option linter.unusedVariables false
set_option linter.unusedSimpArgs false
/-- The worker's cells. -/
def wc (i n vw nr hw : Int) (vl : Value) (cm : Int) (va vv vo vb : Value) (bv bd : Int) (vout : Value) : Array Value := #[.int .i64 i, .int .i64 n, .int .i64 vw, .int .i64 nr, .int .i64 hw, vl, .int .i64 cm, va, vv, vo, vb, .int .i64 bv, .int .i64 bd, vout]

/-! ### entries -/
set_option maxRecDepth 100000 in
set_option maxHeartbeats 2000000 in
theorem entries_calls (A : Option Addr) (c : Nat) (l : List Entry) (w : World) (hl : Kd.C kE w A l.length l) (hn : l.length ≤ 1000000000) :
    Calls Try.prog 92 #[.slice A l.length c] w fun e w' => ∃ v : Value, e = .returned v ∧ Mem w w' [row kE 102 v l] := by
  have HL := Aside0.mk hl
  have HN := Aside0.mk hn
  have M0 := Aside0.mk (Mem.nil w)
  clear hl hn
  go_enter Try.func92, Try.ntmps92
  go_wp2_with (((with_reducible refine gate_builtin (b := .append) (xs := #[.tmp 3, .tmp 4]) rfl ?_); at_builtin; refine Mem.app kE ((M0.out.alloc #[] 102).lit 0 kE [] rfl (Reps.none _ _) (by decide)) 0 _ [] l rfl (.tmp 3) (.tmp 4) 27 102 _ _ rfl Try.underlying27 infoEntry rfl (by decide) (by omega) A _ c rfl rfl rfl (Kd.C_alloc HL.out _) (fun x cs h => h) (by have := HN.out; simp; omega) ?_; intro v1 w1 hM1; have M1 := Aside0.mk hM1; clear hM1))
  go_ret
  exact ⟨_, rfl, M1.out⟩

/-! ### send -/
set_option maxRecDepth 100000 in
set_option maxHeartbeats 2000000 in
theorem send_calls (w0 w : World) (R : Res) (F : List Res) (g : Nat) (i n vw nr hw : Int) (vl : Value) (cm : Int) (va vv vo vb : Value) (bv bd : Int) (vout : Value) (out : List Msg) (to_ m0 m1 m2 m3 m4 m5 m6 : Int) (A : Option Addr) (c : Nat) (l : List Entry)
    (hM : Mem w0 w (R :: blk g 99 (wc i n vw nr hw vl cm va vv vo vb bv bd vout) :: row kM 29 vout out :: F)) (hl : Rd w0 R kE A l) (hn : l.length ≤ 1000000000) (hc : l.length ≤ c) (ho : out.length ≤ 1000000000) :
    Calls Try.prog 94 #[.pointer (some ⟨g, 0, none⟩), .int .i64 to_, .agg #[.int .i64 m0, .int .i64 m1, .int .i64 m2, .int .i64 m3, .int .i64 m4, .int .i64 m5, .int .i64 m6, .slice A l.length c]] w fun e w' =>
      ∃ vout' : Value, e = .returned (.tuple #[]) ∧ Mem w0 w' (R :: blk g 99 (wc i n vw nr hw vl cm va vv vo vb bv bd vout') :: row kM 29 vout' (out ++ [⟨m0, i, to_, vw, m4, m5, m6, l⟩]) :: F) := by
  have hb := hM.blk_at 1 rfl
  have h0 : w.cell? ⟨g, 0, none⟩ = some (.int .i64 i) := blk_cell hb 0
  have h2 : w.cell? ⟨g, 2, none⟩ = some (.int .i64 vw) := blk_cell hb 2
  have hg : g < w.heap.size := blk_lt hb
  have M0 := Aside0.mk hM
  have HL := Aside0.mk hl
  have HN := Aside0.mk hn
  have HO := Aside0.mk ho
  clear hb hl hn hM hc ho
  go_enter Try.func94, Try.ntmps94
  go_wp2
  go_region
  have M1 := Aside0.mk ((M0.out.alloc #[.int .i64 m0, .int .i64 i, .int .i64 to_, .int .i64 vw, .int .i64 m4, .int .i64 m5, .int .i64 m6, .slice A l.length c] 29).drew)
  go_wp2_with fail
  refine (entries_calls A c l _ (HL.out _ _ 1 M1.out rfl) HN.out).mono ?_
  rintro e w1 ⟨v, rfl, hM⟩
  have M2 := Aside0.mk (M1.out.trans hM)
  clear hM
  obtain ⟨A2, c2, rfl, hc2, _⟩ := M2.out.row_at 0 rfl
  have cB := blk_cell (M2.out.blk_at 1 rfl)
  have fB := blk_frozen (M2.out.blk_at 1 rfl)
  have cG := blk_cell (M2.out.blk_at 3 rfl)
  have fG := blk_frozen (M2.out.blk_at 3 rfl)
  have hg1 := blk_lt (M2.out.blk_at 3 rfl)
  have hw1 := blk_lt (M2.out.blk_at 1 rfl)
  have hgn : ¬ (g = w.heap.size) := by omega
  have hgn' : ¬ (w.heap.size = g) := by omega
  unfold wc at cG
  have HC2 := Aside0.mk hc2; clear hc2
  go_wp2_with fail
  have M3 := Aside0.mk (((M2.out.set 1 rfl 7 (.slice A2 l.length c2)).imp (i := 0) rfl (el kM ⟨m0, i, to_, vw, m4, m5, m6, l⟩ [.int .i64 m0, .int .i64 i, .int .i64 to_, .int .i64 vw, .int .i64 m4, .int .i64 m5, .int .i64 m6, .slice A2 l.length c2]) (fun f hf => kM_mkM _ _ _ ⟨m0, i, to_, vw, m4, m5, m6, l⟩ hf)).drew)
  go_region_law (refine Mem.app1_step kM (M3.out.alloc #[.int .i64 m0, .int .i64 i, .int .i64 to_, .int .i64 vw, .int .i64 m4, .int .i64 m5, .int .i64 m6, .slice A2 l.length c2] 29) 5 1 0 vout out _ _ _ 1 (by decide) (by rfl) (.tmp 28) (.tmp 30) 22 29 _ _ rfl Try.underlying22 infoMsg rfl (by decide) (by omega) (by simp [Act.eval, Act.put]) (by simp [Act.eval, Act.put]) rfl rfl rfl (by have := HO.out; omega) ?_; intro v1 w2 hM; have M4 := Aside0.mk hM; clear hM; obtain ⟨A3, c3, he, hc3, _⟩ := M4.out.row_at 5 rfl; rw [List.length_append, List.length_singleton] at he; subst he; have cG2 := blk_cell (M4.out.blk_at 4 rfl); have fG2 := blk_frozen (M4.out.blk_at 4 rfl); unfold wc at cG2; clear hc3)
  all_goals
    go_end0
    refine ⟨_, rfl, Mem.sel (ps := [_, _, _, _, _, _]) (F := F) [3, 4, 5] 6 (M4.out.set 4 rfl 13 (.slice A3 (out.length + 1) c3)) rfl rfl⟩
end Go.Proofs.Ytggbjokhniigkaa.Wa

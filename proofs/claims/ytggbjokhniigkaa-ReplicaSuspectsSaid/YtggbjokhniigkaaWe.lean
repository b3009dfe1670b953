/- Walks: a message to all others. -/
import Derived.Test.YtggbjokhniigkaaWb
namespace Go.Proofs.Ytggbjokhniigkaa.We
open Go.Proofs.Ytggbjokhniigkaa.Ty Go.RowKit Go.Proofs.YtggbjokhniigkaaW.PrintWords Go.Proofs.YtggbjokhniigkaaW.PrintLast Go.Proofs.YtggbjokhniigkaaW.PrintMore Go.Proofs.Ytggbjokhniigkaa.Mx Go.Proofs.Ytggbjokhniigkaa.Kx Go.Proofs.Ytggbjokhniigkaa.Wa
set_option linter.unusedVariables false
set_option linter.unusedSimpArgs false

set_option maxRecDepth 100000 in
set_option maxHeartbeats 2000000 in
theorem primary_calls (w : World) (g : Nat) (i n vw nr hw : Int) (vl : Value) (cm : Int) (va vv vo vb : Value) (bv bd : Int) (vout : Value) (view : Int)
    (hb : w.heap[g]? = some (.cells (wc i n vw nr hw vl cm va vv vo vb bv bd vout) 99 (0, 0))) (hv : 0 ≤ view) (hv2 : view ≤ 4611686018427387904) (hn : 0 < n) (hn2 : n ≤ 5) :
    Calls Try.prog 74 #[.pointer (some ⟨g, 0, none⟩), .int .i64 view] w fun e w' => e = .returned (.int .i64 (view % n)) ∧ Drawn0 w w' := by
  have cB := blk_cell hb
  unfold wc at cB
  clear hb
  have hz : (n == 0) = false := by simp; omega
  have hz2 : ¬ n = 0 := by omega
  go_enter Try.func74, Try.ntmps74
  go_wp2
  (try go_quiet (fail))
  (try go_wp2)
  go_ret
  exact ⟨rfl, by repeat (first | exact Drawn0.refl _ | apply Drawn0.step)⟩

theorem primary_quiet (w : World) (k : Nat) (g : Nat) (i n vw nr hw : Int) (vl : Value) (cm : Int) (va vv vo vb : Value) (bv bd : Int) (vout : Value) (view : Int)
    (hb : w.heap[g]? = some (.cells (wc i n vw nr hw vl cm va vv vo vb bv bd vout) 99 (0, 0))) (hv : 0 ≤ view) (hv2 : view ≤ 4611686018427387904) (hn : 0 < n) (hn2 : n ≤ 5) :
    Calls Try.prog 74 #[.pointer (some ⟨g, 0, none⟩), .int .i64 view] (w.drewN k) fun e w' => e = .returned (.int .i64 (view % n)) ∧ ∃ m, w' = w.drewN m :=
  (primary_calls (w.drewN k) g i n vw nr hw vl cm va vv vo vb bv bd vout view hb hv hv2 hn hn2).mono fun e w' h => ⟨h.1, by obtain ⟨m, h2⟩ := h.2.out; rw [h2]; exact (Drawn0.step (⟨⟨k, rfl⟩⟩ : Drawn0 w (w.drewN k)) m).out⟩
theorem allFrom_step (id n view : Int) (m : Msg) (k : Nat) (h : (k : Int) < n) : allFrom id n view m (n.toNat - k) k = if (k : Int) = id then allFrom id n view m (n.toNat - (k + 1)) ((k + 1 : Nat) : Int) else { m with f1 := id, f2 := k, f3 := view } :: allFrom id n view m (n.toNat - (k + 1)) ((k + 1 : Nat) : Int) := by
  obtain ⟨j, hj⟩ : ∃ j, n.toNat - k = j + 1 := ⟨n.toNat - k - 1, by omega⟩
  rw [hj, show n.toNat - (k + 1) = j by omega]
  simp only [allFrom]
  rw [if_pos h]
  push_cast
  rfl
set_option maxRecDepth 100000 in
set_option maxHeartbeats 4000000 in
theorem all_calls (w0 w : World) (R : Res) (F : List Res) (g : Nat) (i n vw nr hw : Int) (vl : Value) (cm : Int) (va vv vo vb : Value) (bv bd : Int) (vout : Value) (out : List Msg) (m0 m1 m2 m3 m4 m5 m6 : Int) (A : Option Addr) (c : Nat) (l : List Entry)
    (hM : Mem w0 w (R :: blk g 99 (wc i n vw nr hw vl cm va vv vo vb bv bd vout) :: row kM 29 vout out :: F)) (hl : Rd w0 R kE A l) (hn : l.length ≤ 1000000000) (hc : l.length ≤ c) (ho : out.length ≤ 1000000) (hn0 : 0 < n) (hn5 : n ≤ 5) :
    Calls Try.prog 75 #[.pointer (some ⟨g, 0, none⟩), .agg #[.int .i64 m0, .int .i64 m1, .int .i64 m2, .int .i64 m3, .int .i64 m4, .int .i64 m5, .int .i64 m6, .slice A l.length c]] w fun e w' =>
      ∃ vout' : Value, e = .returned (.tuple #[]) ∧ Mem w0 w' (R :: blk g 99 (wc i n vw nr hw vl cm va vv vo vb bv bd vout') :: row kM 29 vout' (out ++ allFrom i n vw ⟨m0, m1, m2, m3, m4, m5, m6, l⟩ n.toNat 0) :: F) := by
  have HN := Aside0.mk hn
  have HC := Aside0.mk hc
  have HO := Aside0.mk ho
  have HL := Aside0.mk hl
  have M0 := Aside0.mk (hM.allocAt #[.int .i64 m0, .int .i64 m1, .int .i64 m2, .int .i64 m3, .int .i64 m4, .int .i64 m5, .int .i64 m6, .slice A l.length c] 29 _ rfl)
  have cG := blk_cell (hM.blk_at 1 rfl)
  have hg : g < w.heap.size := blk_lt (hM.blk_at 1 rfl)
  unfold wc at cG
  clear hM hl hn hc ho
  go_enter Try.func75, Try.ntmps75
  go_wp2_with fail
  go_loopg [10] (n.toNat + 1) (fun kq v10 w' => ∃ (k : Nat) (vo' : Value) (out' : List Msg), v10 = .int .i64 k ∧ Aside0 ((k : Int) ≤ n ∧ kq = n.toNat + 1 - k ∧ out'.length ≤ out.length + k ∧ out' ++ allFrom i n vw ⟨m0, m1, m2, m3, m4, m5, m6, l⟩ (n.toNat - k) k = out ++ allFrom i n vw ⟨m0, m1, m2, m3, m4, m5, m6, l⟩ n.toNat 0) ∧ Aside0 (Mem w0 w' (blk w.heap.size 29 #[.int .i64 m0, .int .i64 m1, .int .i64 m2, .int .i64 m3, .int .i64 m4, .int .i64 m5, .int .i64 m6, .slice A l.length c] :: R :: blk g 99 (wc i n vw nr hw vl cm va vv vo vb bv bd vo') :: row kM 29 vo' out' :: F)))
  case atStart => exact ⟨0, vout, out, rfl, ⟨by omega, by omega, by omega, by simp⟩, M0⟩
  case round =>
    obtain ⟨k, vo', out', rfl, HK, M1⟩ := hrel
    clear cG M0
    have cG := blk_cell (M1.out.blk_at 2 rfl)
    have cB := blk_cell (M1.out.blk_at 0 rfl)
    unfold wc at cG
    have hgw : g < wr.heap.size := blk_lt (M1.out.blk_at 2 rfl)
    by_cases hlt : (k : Int) < n
    · have HS := Aside0.mk (allFrom_step i n vw ⟨m0, m1, m2, m3, m4, m5, m6, l⟩ k hlt)
      by_cases hid : (k : Int) = i
      · have HI := Aside0.mk hid
        have e1 : ((k : Int) == i) = true := by simpa using hid
        have e2 : ((k : Int) != i) = false := by simpa using hid
        clear hid
        go_wp2_with fail
        go_roundg (n.toNat - k)
        case measure => have := HK.out; omega
        case rel =>
          refine ⟨k + 1, vo', out', by go_num, ⟨by omega, by omega, by have := HK.out; omega, ?_⟩, M1⟩
          have h1 := HK.out.2.2.2
          rw [HS.out, if_pos HI.out] at h1
          exact h1
      · have HI := Aside0.mk hid
        have e1 : ((k : Int) == i) = false := by simpa using hid
        have e2 : ((k : Int) != i) = true := by simpa using hid
        clear hid
        go_wp2_with fail
        refine (send_calls w0 _ R (blk w.heap.size 29 #[.int .i64 m0, .int .i64 m1, .int .i64 m2, .int .i64 m3, .int .i64 m4, .int .i64 m5, .int .i64 m6, .slice A l.length c] :: F) g i n vw nr hw vl cm va vv vo vb bv bd vo' out' k m0 m1 m2 m3 m4 m5 m6 A c l (Mem.sel (ps := [_, _, _, _]) (F := F) [1, 2, 3, 0] 4 M1.out rfl rfl) HL.out HN.out HC.out (by have := HK.out; have := HO.out; omega)).mono ?_
        rintro e w1 ⟨vo2, rfl, hM⟩
        have M2 := Aside0.mk (Mem.sel (ps := [_, _, _, _]) (F := F) [3, 0, 1, 2] 4 hM rfl rfl)
        clear hM
        go_wp2_with fail
        go_roundg (n.toNat - k)
        case measure => have := HK.out; omega
        case rel =>
          refine ⟨k + 1, vo2, _, by go_num, ⟨by omega, by omega, ?_, ?_⟩, M2⟩
          · have := HK.out
            rw [List.length_append, List.length_singleton]
            omega
          · have h1 := HK.out.2.2.2
            rw [HS.out, if_neg HI.out] at h1
            rw [List.append_assoc]
            exact h1
    · have hk : (k : Int) = n := by have := HK.out.1; omega
      have HE := Aside0.mk hk
      clear hk
      go_wp2_with fail
      go_end0
      first | refine ⟨vo', rfl, ?_⟩ | refine ⟨rfl, vo', ?_⟩
      have h1 := HK.out.2.2.2
      have h2 : n.toNat - k = 0 := by have := HE.out; omega
      rw [h2] at h1
      simp only [allFrom, List.append_nil] at h1
      rw [← h1]
      exact Mem.sel (ps := [_, _, _, _]) (F := F) [1, 2, 3] 4 M1.out rfl rfl
end Go.Proofs.Ytggbjokhniigkaa.We

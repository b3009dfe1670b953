/- Texts laid together: Jo, Ad, Ij, Rp. No condition. -/
import Derived.Test.YtggbjokhniigkaaGreatYTz21
import Derived.Test.YtggbjokhniigkaaGreatYTz22
set_option linter.unusedVariables false
set_option linter.unusedSimpArgs false
set_option maxRecDepth 100000
set_option maxHeartbeats 8000000
namespace Go.Proofs.YtggbjokhniigkaaGreat.Jo
open Ty Go.RowKit YtggbjokhniigkaaGreatW.PrintWords YtggbjokhniigkaaGreatW.PrintLast YtggbjokhniigkaaGreatW.PrintMore Mx Kx Wa Wd Bs Pn
/-- It is there. -/
theorem joined_there (w0 w : World) (F : List Res) (v : Value) (l : List Int) (k : Int) (hM : Mem w0 w (row (Kd.int .i64) 3 v l :: F)) (hn : l.length ≤ 1000000) (p : Nat) (hp : p ≤ l.length)
    (h1 : ∀ t : Nat, t < p → rd l (t : Int) < k) (h2 : ∀ t : Nat, p ≤ t → t < l.length → k ≤ rd l (t : Int)) (h3 : p < l.length) (h4 : rd l (p : Int) = k) :
    Calls Tryz.prog 132 #[v, .int .i64 k] w fun e w' => e = .returned (.tuple #[v, .bool false]) ∧ Mem w0 w' (row (Kd.int .i64) 3 v l :: F) := by
  obtain ⟨A, c, rfl, _, _⟩ := hM.row_at 0 rfl
  have M1 := Aside0.mk hM
  have S := Aside0.mk (search_calls A c l k w (hM.row_C 0 rfl) hn p hp h1 h2 true ⟨fun _ => ⟨h3, h4⟩, fun _ => rfl⟩)
  clear hM hn hp h1 h2 h3 h4
  go_enter Tryz.func132, Tryz.ntmps132
  go_wp2_with fail
  refine S.out.mono ?_
  rintro e w1 ⟨rfl, hD⟩
  have M2 := Aside0.mk (M1.out.drawn hD)
  clear hD S M1
  go_wp2
  refine bodyPost_ret (results_tmp2 rfl _ _ _) rfl ?_
  exact ⟨rfl, M2.out⟩
/-- It is laid where it belongs. -/
theorem joined_new (w0 w : World) (F : List Res) (v : Value) (l : List Int) (k : Int) (hM : Mem w0 w (row (Kd.int .i64) 3 v l :: F)) (hn : l.length ≤ 1000000) (h0 : 0 < l.length) (p : Nat) (hp : p ≤ l.length)
    (h1 : ∀ t : Nat, t < p → rd l (t : Int) < k) (h2 : ∀ t : Nat, p ≤ t → t < l.length → k ≤ rd l (t : Int)) (h3 : ¬ (p < l.length ∧ rd l (p : Int) = k)) (zs : List Int) (hz : l.take p ++ [k] ++ l.drop p = zs) :
    Calls Tryz.prog 132 #[v, .int .i64 k] w fun e w' => ∃ v' : Value, e = .returned (.tuple #[v', .bool true]) ∧ Mem w0 w' (row (Kd.int .i64) 3 v' zs :: row (Kd.int .i64) 3 v l :: F) := by
  obtain ⟨A, c, rfl, _, _⟩ := hM.row_at 0 rfl
  have M1 := Aside0.mk hM
  have HN := Aside0.mk hn
  have HP := Aside0.mk hp
  have H0 := Aside0.mk h0
  have HZ := Aside0.mk hz
  have S := Aside0.mk (search_calls A c l k w (hM.row_C 0 rfl) hn p hp h1 h2 false ⟨(fun h => by cases h), fun h => absurd h h3⟩)
  clear hM hn hp h1 h2 h3 h0 hz
  go_enter Tryz.func132, Tryz.ntmps132
  go_wp2_with fail
  refine S.out.mono ?_
  rintro e w1 ⟨rfl, hD⟩
  have M2 := Aside0.mk (M1.out.drawn hD)
  clear hD S M1
  go_wp2_with fail
  refine (cloneI_calls A c l _ (M2.out.row_C 0 rfl) (Nat.le_trans HN.out (by decide))).mono ?_
  rintro e w2 ⟨vc, rfl, hM⟩
  obtain ⟨B, d, rfl, _, _⟩ := hM.row_at 0 rfl
  have M3 := Aside0.mk (M2.out.trans hM)
  clear hM M2
  go_wp2_with fail
  have M4 := Aside0.mk (M3.out.allocAt #[.int .i64 k] 3 w2.heap.size rfl)
  refine (insI_calls w0 _ (row (Kd.int .i64) 3 (.slice A l.length c) l :: F) (.slice B l.length d) w2.heap.size p 1 l [k] (Mem.sel (ps := [_, _, _]) (F := F) [1, 0, 2] 3 M4.out rfl rfl) rfl (by decide) (by decide) HN.out H0.out HP.out zs HZ.out).mono ?_
  rintro e w3 ⟨v', rfl, hM⟩
  have M5 := Aside0.mk hM
  clear hM M3 M4
  go_wp2
  refine bodyPost_ret (results_tmp2 rfl _ _ _) rfl ?_
  exact ⟨_, rfl, M5.out⟩
/-- Into none. -/
theorem insI_nil (w0 w : World) (F : List Res) (A : Option Addr) (c gv : Nat) (k : Int) (hM : Mem w0 w (row (Kd.int .i64) 3 (.slice A 0 c) [] :: blk gv 3 #[.int .i64 k] :: F)) :
    Calls Tryz.prog 139 #[.slice A 0 c, .int .i64 0, .slice (some ⟨gv, 0, none⟩) 1 1] w fun e w' => ∃ v', e = .returned v' ∧ Mem w0 w' (row (Kd.int .i64) 3 v' [k] :: F) := by
  have hv := Mem.blk_row (c := 1) flatI hM 1 [k] rfl rfl rfl (Nat.le_refl _) (by unfold maxLen; omega)
  have hC := hv.row_C 1 rfl
  have HC := Aside0.mk hC
  have M0 := Aside0.mk hM
  clear hM hv hC
  have hc0 : (0 : Int) ≤ (0 : Int) := Int.le_refl _
  cases A with
  | none =>
    go_enter Tryz.func139, Tryz.ntmps139
    go_wp2_with (((with_reducible refine gate_builtin (b := .append) (xs := #[.tmp 23, .tmp 24]) rfl ?_); at_builtin; refine Mem.app (Kd.int .i64) M0.out 0 _ [] [k] rfl (.tmp 23) (.tmp 24) 23 3 _ _ rfl Tryz.underlying23 infoInt rfl (by decide) (by omega) (some ⟨gv, 0, none⟩) 1 1 rfl rfl rfl HC.out (fun x cs h => by have h2 := flatI.rd_ h; subst h2; exact flatI.mk_ _ _ _ _) (by simp) ?_; intro v1 w1 hM1; have M1 := Aside0.mk hM1; clear hM1))
    all_goals
      go_ret
      exact ⟨_, rfl, Mem.sel (ps := [_, _]) (F := F) [0] 2 M1.out rfl rfl⟩
  | some ad =>
    go_enter Tryz.func139, Tryz.ntmps139
    go_wp2_with (((with_reducible refine gate_builtin (b := .append) (xs := #[.tmp 23, .tmp 24]) rfl ?_); at_builtin; refine Mem.app (Kd.int .i64) M0.out 0 _ [] [k] rfl (.tmp 23) (.tmp 24) 23 3 _ _ rfl Tryz.underlying23 infoInt rfl (by decide) (by omega) (some ⟨gv, 0, none⟩) 1 1 rfl rfl rfl HC.out (fun x cs h => by have h2 := flatI.rd_ h; subst h2; exact flatI.mk_ _ _ _ _) (by simp) ?_; intro v1 w1 hM1; have M1 := Aside0.mk hM1; clear hM1))
    all_goals
      go_ret
      exact ⟨_, rfl, Mem.sel (ps := [_, _]) (F := F) [0] 2 M1.out rfl rfl⟩
theorem joined_first (w0 w : World) (F : List Res) (v : Value) (k : Int) (hM : Mem w0 w (row (Kd.int .i64) 3 v ([] : List Int) :: F)) :
    Calls Tryz.prog 132 #[v, .int .i64 k] w fun e w' => ∃ v' : Value, e = .returned (.tuple #[v', .bool true]) ∧ Mem w0 w' (row (Kd.int .i64) 3 v' [k] :: row (Kd.int .i64) 3 v ([] : List Int) :: F) := by
  obtain ⟨A, c, rfl, _, _⟩ := hM.row_at 0 rfl
  have M1 := Aside0.mk hM
  have S := Aside0.mk (search_calls A c [] k w (hM.row_C 0 rfl) (by simp) 0 (Nat.zero_le _) (fun t h => absurd h (Nat.not_lt_zero _)) (fun t _ h => absurd h (Nat.not_lt_zero _)) false ⟨(fun h => by cases h), fun h => absurd h.1 (Nat.not_lt_zero _)⟩)
  clear hM
  go_enter Tryz.func132, Tryz.ntmps132
  go_wp2_with fail
  refine S.out.mono ?_
  rintro e w1 ⟨rfl, hD⟩
  have M2 := Aside0.mk (M1.out.drawn hD)
  clear hD S M1
  go_wp2_with fail
  refine (cloneI_calls A c [] _ (M2.out.row_C 0 rfl) (by simp)).mono ?_
  rintro e w2 ⟨vc, rfl, hM⟩
  obtain ⟨B, d, rfl, _, _⟩ := hM.row_at 0 rfl
  have M3 := Aside0.mk (M2.out.trans hM)
  clear hM M2
  go_wp2_with fail
  have M4 := Aside0.mk (M3.out.allocAt #[.int .i64 k] 3 w2.heap.size rfl)
  refine (insI_nil w0 _ (row (Kd.int .i64) 3 (.slice A 0 c) [] :: F) B d w2.heap.size k (Mem.sel (ps := [_, _, _]) (F := F) [1, 0, 2] 3 M4.out rfl rfl)).mono ?_
  rintro e w3 ⟨v', rfl, hM⟩
  have M5 := Aside0.mk hM
  clear hM M3 M4
  go_wp2
  refine bodyPost_ret (results_tmp2 rfl _ _ _) rfl ?_
  exact ⟨_, rfl, M5.out⟩
end Go.Proofs.YtggbjokhniigkaaGreat.Jo
namespace Go.Proofs.YtggbjokhniigkaaGreat.Ad
open Ty Go.RowKit YtggbjokhniigkaaGreatW.PrintWords YtggbjokhniigkaaGreatW.PrintLast YtggbjokhniigkaaGreatW.PrintMore Mx Kx Wa Wd Sm Bs Pn
theorem one_C {w0 w : World} {F : List Res} {g : Nat} {k : Int} (h : Mem w0 w (blk g 3 #[.int .i64 k] :: F)) : Kd.C (Kd.int .i64) w (some ⟨g, 0, none⟩) 1 [k] :=
  (Mem.blk_row (c := 1) flatI h 0 [k] rfl rfl rfl (Nat.le_refl _) (by unfold maxLen; omega)).row_C 0 rfl
theorem wr1 {i n : Nat} (h : i < n) (hn : n ≤ 1000000) : wrap64 ((i : Int) + 1) = (i : Int) + 1 := by
  unfold wrap64
  omega
theorem take_snoc (l : List Int) (i : Nat) (h : i < l.length) : l.take i ++ [rd l (i : Int)] = l.take (i + 1) := by
  rw [List.take_add_one, rd, Int.toNat_natCast, List.getD_eq_getElem?_getD, List.getElem?_eq_getElem h]
  rfl
/-- It is there. -/
theorem add_there (w0 w : World) (F : List Res) (v : Value) (l : List Int) (k : Int) (hM : Mem w0 w (row (Kd.int .i64) 3 v l :: F)) (hn : l.length ≤ 1000000) (p : Nat)
    (h1 : ∀ t : Nat, t < p → rd l (t : Int) < k) (h3 : p < l.length) (h4 : rd l (p : Int) = k) :
    Calls Tryz.prog 112 #[v, .int .i64 k] w fun e w' => e = .returned (.tuple #[v, .bool false]) ∧ Mem w0 w' (row (Kd.int .i64) 3 v l :: F) := by
  obtain ⟨A, c, rfl, _, _⟩ := hM.row_at 0 rfl
  have M0 := Aside0.mk hM
  have HN := Aside0.mk hn
  have H1 := Aside0.mk h1
  have H3 := Aside0.mk h3
  have H4 := Aside0.mk h4
  clear hM hn h1 h3 h4
  go_enter Tryz.func112, Tryz.ntmps112
  go_wp2
  go_loopg [6, 7, 8] (l.length + 1) (fun kq s6 s7 s8 wr => ∃ (i : Nat) (out : List Int), s7 = .bool false ∧ s8 = .int .i64 i ∧ Aside0 (i ≤ p ∧ kq = l.length + 1 - i ∧ out = l.take i) ∧ Aside0 (Mem w0 wr (row (Kd.int .i64) 3 s6 out :: row (Kd.int .i64) 3 (.slice A l.length c) l :: F)))
  case atStart => exact ⟨0, [], rfl, rfl, ⟨Nat.zero_le _, rfl, rfl⟩, ⟨Mem.row_nil M0.out _ _⟩⟩
  case round =>
    obtain ⟨i, out, rfl, rfl, HK, M⟩ := hrel
    have q1 : i < l.length := by have := HK.out.1; have := H3.out; omega
    have q2 : ((i : Int) < (l.length : Int)) = True := eq_true (by omega)
    have q3 : decide ((i : Int) < (l.length : Int)) = true := decide_eq_true (by omega)
    have q4 : decide (i < l.length) = true := decide_eq_true q1
    obtain ⟨B6, d6, rfl, _, _⟩ := M.out.row_at 0 rfl
    have HO := Aside0.mk (show out.length ≤ 1000000 from by rw [HK.out.2.2, List.length_take]; have := HN.out; omega)
    obtain ⟨ad, e, hx⟩ := at_IntC (M.out.row_C 1 rfl) (i : Int) (by omega) (by omega)
    cases e
    simp only [Int.toNat_natCast] at hx
    by_cases hip : i = p
    · subst hip
      have e5 : (rd l (i : Int) == k) = true := by rw [H4.out]; simp
      go_wp2
      refine bodyPost_ret (results_tmp2 rfl _ _ _) rfl ?_
      exact ⟨rfl, Mem.sel (ps := [_, _]) (F := F) [1] 2 M.out rfl rfl⟩
    · have hlt := H1.out i (by have := HK.out.1; omega)
      have e5 : (rd l (i : Int) == k) = false := by simp; omega
      have e6 : decide (k < rd l (i : Int)) = false := decide_eq_false (by omega)
      clear hlt
      go_wp2_with ((((with_reducible refine gate_builtin (b := .append) (xs := #[.tmp 36, .tmp 41]) rfl ?_); at_builtin; refine Mem.app (Kd.int .i64) (M.out.allocAt #[.int .i64 (rd l (i : Int))] 3 _ rfl) 1 _ out [(rd l (i : Int))] rfl (.tmp 36) (.tmp 41) 23 3 _ _ rfl Tryz.underlying23 infoInt rfl (by decide) (by omega) (some ⟨_, 0, none⟩) 1 1 rfl rfl rfl (one_C (M.out.allocAt #[.int .i64 (rd l (i : Int))] 3 _ rfl)) (fun x cs h => by have h2 := flatI.rd_ h; subst h2; exact flatI.mk_ _ _ _ _) (by have := HO.out; simp; omega) ?_; intro v1 w1 hM1; have M1 := Aside0.mk hM1; clear hM1)))
      go_roundg (l.length - i)
      case measure => have := HK.out.2.1; omega
      case rel => exact ⟨i + 1, _, rfl, by rw [wr1 q1 HN.out]; rfl, ⟨by have := HK.out.1; omega, by omega, by rw [HK.out.2.2]; exact take_snoc l i q1⟩, ⟨Mem.sel (ps := [_, _, _]) (F := F) [1, 2] 3 M1.out rfl rfl⟩⟩
/-- It is laid where it belongs. -/
theorem add_new (w0 w : World) (F : List Res) (v : Value) (l : List Int) (k : Int) (hM : Mem w0 w (row (Kd.int .i64) 3 v l :: F)) (hn : l.length ≤ 1000000) (p : Nat) (hp : p ≤ l.length)
    (h1 : ∀ t : Nat, t < p → rd l (t : Int) < k) (h2 : ∀ t : Nat, p ≤ t → t < l.length → k < rd l (t : Int)) (zs : List Int) (hz : l.take p ++ [k] ++ l.drop p = zs) :
    Calls Tryz.prog 112 #[v, .int .i64 k] w fun e w' => ∃ v' : Value, e = .returned (.tuple #[v', .bool true]) ∧ Mem w0 w' (row (Kd.int .i64) 3 v' zs :: row (Kd.int .i64) 3 v l :: F) := by
  obtain ⟨A, c, rfl, _, _⟩ := hM.row_at 0 rfl
  have M0 := Aside0.mk hM
  have HN := Aside0.mk hn
  have HP := Aside0.mk hp
  have H1 := Aside0.mk h1
  have H2 := Aside0.mk h2
  have HZ := Aside0.mk hz
  clear hM hn h1 h2 hz hp
  go_enter Tryz.func112, Tryz.ntmps112
  go_wp2
  go_loopg [6, 7, 8] (l.length + 1) (fun kq s6 s7 s8 wr => ∃ (i : Nat) (b : Bool) (out : List Int), s7 = .bool b ∧ s8 = .int .i64 i ∧ Aside0 (i ≤ l.length ∧ kq = l.length + 1 - i ∧ out.length ≤ 1000001 ∧ (i ≤ p → b = false ∧ out = l.take i) ∧ (p < i → b = true ∧ out = l.take p ++ [k] ++ (l.take i).drop p)) ∧ Aside0 (Mem w0 wr (row (Kd.int .i64) 3 s6 out :: row (Kd.int .i64) 3 (.slice A l.length c) l :: F)))
  case atStart => exact ⟨0, false, [], rfl, rfl, ⟨Nat.zero_le _, rfl, by simp, fun _ => ⟨rfl, rfl⟩, fun h => absurd h (Nat.not_lt_zero _)⟩, ⟨Mem.row_nil M0.out _ _⟩⟩
  case round =>
    obtain ⟨i, b, out, rfl, rfl, HK, M⟩ := hrel
    obtain ⟨B6, d6, rfl, _, _⟩ := M.out.row_at 0 rfl
    have HO := Aside0.mk HK.out.2.2.1
    by_cases q1 : i < l.length
    · have q2 : ((i : Int) < (l.length : Int)) = True := eq_true (by omega)
      have q3 : decide ((i : Int) < (l.length : Int)) = true := decide_eq_true (by omega)
      have q4 : decide (i < l.length) = true := decide_eq_true q1
      obtain ⟨ad, e, hx⟩ := at_IntC (M.out.row_C 1 rfl) (i : Int) (by omega) (by omega)
      cases e
      simp only [Int.toNat_natCast] at hx
      rcases Nat.lt_trichotomy i p with hip | hip | hip
      · have hb := (HK.out.2.2.2.1 (by omega)).1
        subst hb
        have hlt := H1.out i hip
        have e5 : (rd l (i : Int) == k) = false := by simp; omega
        have e6 : decide (k < rd l (i : Int)) = false := decide_eq_false (by omega)
        clear hlt
        go_wp2_with ((((with_reducible refine gate_builtin (b := .append) (xs := #[.tmp 36, .tmp 41]) rfl ?_); at_builtin; refine Mem.app (Kd.int .i64) (M.out.allocAt #[.int .i64 (rd l (i : Int))] 3 _ rfl) 1 _ out [(rd l (i : Int))] rfl (.tmp 36) (.tmp 41) 23 3 _ _ rfl Tryz.underlying23 infoInt rfl (by decide) (by omega) (some ⟨_, 0, none⟩) 1 1 rfl rfl rfl (one_C (M.out.allocAt #[.int .i64 (rd l (i : Int))] 3 _ rfl)) (fun x cs h => by have h2 := flatI.rd_ h; subst h2; exact flatI.mk_ _ _ _ _) (by have := HO.out; simp; omega) ?_; intro v1 w1 hM1; have M1 := Aside0.mk hM1; clear hM1)))
        go_roundg (l.length - i)
        case measure => have := HK.out.2.1; omega
        case rel => exact ⟨i + 1, false, _, rfl, by rw [wr1 q1 HN.out]; rfl, ⟨by omega, by omega, by rw [(HK.out.2.2.2.1 (by omega)).2]; have := HN.out; simp; omega, fun _ => ⟨rfl, by rw [(HK.out.2.2.2.1 (by omega)).2]; exact take_snoc l i q1⟩, fun h => absurd h (by omega)⟩, ⟨Mem.sel (ps := [_, _, _]) (F := F) [1, 2] 3 M1.out rfl rfl⟩⟩
      · subst hip
        have hb := (HK.out.2.2.2.1 (Nat.le_refl _)).1
        subst hb
        have hlt := H2.out i (Nat.le_refl _) q1
        have e5 : (rd l (i : Int) == k) = false := by simp; omega
        have e6 : decide (k < rd l (i : Int)) = true := decide_eq_true (by omega)
        clear hlt
        obtain ⟨o2, ho2⟩ : ∃ o2, out ++ [k] = o2 := ⟨_, rfl⟩
        have HO2 := Aside0.mk (show o2.length ≤ 1000002 from by rw [← ho2, List.length_append]; have := HO.out; simp; omega)
        have HE2 := Aside0.mk ho2
        clear ho2
        go_wp2_with (first | (((with_reducible refine gate_builtin (b := .append) (xs := #[.tmp 32, .tmp 34]) rfl ?_); at_builtin; refine Mem.app (Kd.int .i64) (M.out.allocAt #[.int .i64 k] 3 _ rfl) 1 _ out [k] rfl (.tmp 32) (.tmp 34) 23 3 _ _ rfl Tryz.underlying23 infoInt rfl (by decide) (by omega) (some ⟨_, 0, none⟩) 1 1 rfl rfl rfl (one_C (M.out.allocAt #[.int .i64 k] 3 _ rfl)) (fun x cs h => by have h2 := flatI.rd_ h; subst h2; exact flatI.mk_ _ _ _ _) (by have := HO.out; simp; omega) ?_; intro v1 w1 hM1; rw [HE2.out] at hM1; have M1 := Aside0.mk hM1; clear hM1; obtain ⟨B7, d7, rfl, _, _⟩ := M1.out.row_at 1 rfl; have M2 := Aside0.mk (Mem.sel (ps := [_, _, _]) (F := F) [1, 2] 3 M1.out rfl rfl); obtain ⟨ad2, e2, hx2⟩ := at_IntC (M2.out.row_C 1 rfl) (i : Int) (by omega) (by omega); cases e2; simp only [Int.toNat_natCast] at hx2)) | (((with_reducible refine gate_builtin (b := .append) (xs := #[.tmp 36, .tmp 41]) rfl ?_); at_builtin; refine Mem.app (Kd.int .i64) (M2.out.allocAt #[.int .i64 (rd l (i : Int))] 3 _ rfl) 1 _ o2 [(rd l (i : Int))] rfl (.tmp 36) (.tmp 41) 23 3 _ _ rfl Tryz.underlying23 infoInt rfl (by decide) (by omega) (some ⟨_, 0, none⟩) 1 1 rfl rfl rfl (one_C (M2.out.allocAt #[.int .i64 (rd l (i : Int))] 3 _ rfl)) (fun x cs h => by have h2 := flatI.rd_ h; subst h2; exact flatI.mk_ _ _ _ _) (by have := HO2.out; simp; omega) ?_; intro v1 w1 hM1; have M3 := Aside0.mk hM1; clear hM1)))
        go_roundg (l.length - i)
        case measure => have := HK.out.2.1; omega
        case rel => exact ⟨i + 1, true, _, rfl, by rw [wr1 q1 HN.out]; rfl, ⟨by omega, by omega, by rw [← HE2.out, (HK.out.2.2.2.1 (by omega)).2]; have := HN.out; simp; omega, fun h => absurd h (by omega), fun _ => ⟨rfl, by rw [← HE2.out, (HK.out.2.2.2.1 (Nat.le_refl _)).2, ← take_snoc l i q1, List.drop_append, List.drop_eq_nil_of_le (by rw [List.length_take]; omega), List.length_take, Nat.min_eq_left (by omega), Nat.sub_self]; simp⟩⟩, ⟨Mem.sel (ps := [_, _, _]) (F := F) [1, 2] 3 M3.out rfl rfl⟩⟩
      · have hb := (HK.out.2.2.2.2 hip).1
        subst hb
        have hlt := H2.out i (by omega) q1
        have e5 : (rd l (i : Int) == k) = false := by simp; omega
        clear hlt
        go_wp2_with ((((with_reducible refine gate_builtin (b := .append) (xs := #[.tmp 36, .tmp 41]) rfl ?_); at_builtin; refine Mem.app (Kd.int .i64) (M.out.allocAt #[.int .i64 (rd l (i : Int))] 3 _ rfl) 1 _ out [(rd l (i : Int))] rfl (.tmp 36) (.tmp 41) 23 3 _ _ rfl Tryz.underlying23 infoInt rfl (by decide) (by omega) (some ⟨_, 0, none⟩) 1 1 rfl rfl rfl (one_C (M.out.allocAt #[.int .i64 (rd l (i : Int))] 3 _ rfl)) (fun x cs h => by have h2 := flatI.rd_ h; subst h2; exact flatI.mk_ _ _ _ _) (by have := HO.out; simp; omega) ?_; intro v1 w1 hM1; have M1 := Aside0.mk hM1; clear hM1)))
        go_roundg (l.length - i)
        case measure => have := HK.out.2.1; omega
        case rel => exact ⟨i + 1, true, _, rfl, by rw [wr1 q1 HN.out]; rfl, ⟨by omega, by omega, by rw [(HK.out.2.2.2.2 hip).2]; have := HN.out; simp; omega, fun h => absurd h (by omega), fun _ => ⟨rfl, by rw [(HK.out.2.2.2.2 hip).2, ← take_snoc l i q1, List.drop_append_of_le_length (by rw [List.length_take]; omega), List.append_assoc]⟩⟩, ⟨Mem.sel (ps := [_, _, _]) (F := F) [1, 2] 3 M1.out rfl rfl⟩⟩
    · have ei : i = l.length := by have := HK.out.1; omega
      subst ei
      clear q1
      have q3 : decide ((l.length : Int) < (l.length : Int)) = false := decide_eq_false (by omega)
      have q4 : decide (l.length < l.length) = false := decide_eq_false (by omega)
      by_cases hip : l.length ≤ p
      · have hb := (HK.out.2.2.2.1 hip).1
        subst hb
        go_wp2_with ((((with_reducible refine gate_builtin (b := .append) (xs := #[.tmp 45, .tmp 47]) rfl ?_); at_builtin; refine Mem.app (Kd.int .i64) (M.out.allocAt #[.int .i64 k] 3 _ rfl) 1 _ out [k] rfl (.tmp 45) (.tmp 47) 23 3 _ _ rfl Tryz.underlying23 infoInt rfl (by decide) (by omega) (some ⟨_, 0, none⟩) 1 1 rfl rfl rfl (one_C (M.out.allocAt #[.int .i64 k] 3 _ rfl)) (fun x cs h => by have h2 := flatI.rd_ h; subst h2; exact flatI.mk_ _ _ _ _) (by have := HO.out; simp; omega) ?_; intro v1 w1 hM1; have M1 := Aside0.mk hM1; clear hM1)))
        refine bodyPost_ret (results_tmp2 rfl _ _ _) rfl ?_
        have ez : out ++ [k] = zs := by
          rw [(HK.out.2.2.2.1 hip).2, ← HZ.out, List.take_of_length_le (Nat.le_refl _), List.take_of_length_le hip, List.drop_eq_nil_of_le hip, List.append_nil]
        rw [ez] at M1
        exact ⟨_, rfl, Mem.sel (ps := [_, _, _]) (F := F) [1, 2] 3 M1.out rfl rfl⟩
      · have hb := (HK.out.2.2.2.2 (by omega)).1
        subst hb
        go_wp2
        refine bodyPost_ret (results_tmp2 rfl _ _ _) rfl ?_
        have ez : out = zs := by
          rw [(HK.out.2.2.2.2 (by omega)).2, ← HZ.out, List.take_of_length_le (Nat.le_refl _)]
        rw [← ez]
        exact ⟨_, rfl, M.out⟩
end Go.Proofs.YtggbjokhniigkaaGreat.Ad
namespace Go.Proofs.YtggbjokhniigkaaGreat.Ij
open Ty Go.RowKit YtggbjokhniigkaaGreatW.PrintWords Tk
theorem rd_cons_zero (x : Int) (l : List Int) : rd (x :: l) ((0 : Nat) : Int) = x := rfl
theorem rd_cons_succ (x : Int) (l : List Int) (t : Nat) : rd (x :: l) ((t + 1 : Nat) : Int) = rd l (t : Int) := rfl
theorem rd_mem (l : List Int) (t : Nat) (h : t < l.length) : rd l (t : Int) ∈ l := by
  have e : rd l (t : Int) = l[t] := by
    unfold rd
    rw [Int.toNat_natCast, List.getD_eq_getElem?_getD, List.getElem?_eq_getElem h]
    rfl
  rw [e]
  exact List.getElem_mem h
theorem place_cons (x : Int) (l : List Int) (k : Int) : place (x :: l) k = if x < k then place l k + 1 else 0 := by
  unfold place
  by_cases h : x < k
  · simp [h]
  · simp [h]
theorem place_le (l : List Int) (k : Int) : place l k ≤ l.length := by
  induction l with
  | nil => exact Nat.zero_le _
  | cons x l ih =>
    rw [place_cons, List.length_cons]
    split <;> omega
theorem place_lt (l : List Int) (k : Int) : ∀ t : Nat, t < place l k → rd l (t : Int) < k := by
  induction l with
  | nil => intro t h; exact absurd h (Nat.not_lt_zero _)
  | cons x l ih =>
    intro t h
    rw [place_cons] at h
    split at h
    case isFalse => exact absurd h (Nat.not_lt_zero _)
    cases t with
    | zero => rw [rd_cons_zero]; assumption
    | succ t => rw [rd_cons_succ]; exact ih t (by omega)
theorem place_ge (l : List Int) (k : Int) (hs : l.Pairwise (· < ·)) : ∀ t : Nat, place l k ≤ t → t < l.length → k ≤ rd l (t : Int) := by
  induction l with
  | nil => intro t _ h; exact absurd h (Nat.not_lt_zero _)
  | cons x l ih =>
    intro t h h2
    rw [List.pairwise_cons] at hs
    rw [place_cons] at h
    rw [List.length_cons] at h2
    split at h
    · cases t with
      | zero => omega
      | succ t => rw [rd_cons_succ]; exact ih hs.2 t (by omega) (by omega)
    · rename_i hx
      cases t with
      | zero => rw [rd_cons_zero]; omega
      | succ t =>
        rw [rd_cons_succ]
        have := hs.1 _ (rd_mem l t (by omega))
        omega
theorem place_new (l : List Int) (k : Int) (hs : l.Pairwise (· < ·)) (hk : k ∉ l) : ∀ t : Nat, place l k ≤ t → t < l.length → k < rd l (t : Int) := by
  intro t h h2
  have h3 := place_ge l k hs t h h2
  have h4 : rd l (t : Int) ≠ k := fun e => hk (e ▸ rd_mem l t h2)
  omega
theorem place_there (l : List Int) (k : Int) (hs : l.Pairwise (· < ·)) (hk : k ∈ l) : place l k < l.length ∧ rd l (place l k : Int) = k := by
  induction l with
  | nil => cases hk
  | cons x l ih =>
    rw [List.pairwise_cons] at hs
    rw [place_cons, List.length_cons]
    rcases List.mem_cons.1 hk with e | h
    · subst e
      rw [if_neg (by omega)]
      exact ⟨by omega, rfl⟩
    · have := hs.1 _ h
      rw [if_pos this]
      have q := ih hs.2 h
      exact ⟨by omega, by rw [rd_cons_succ]; exact q.2⟩
theorem place_not (l : List Int) (k : Int) (hk : k ∉ l) : ¬ (place l k < l.length ∧ rd l (place l k : Int) = k) := fun h => hk (h.2 ▸ rd_mem l _ h.1)
end Go.Proofs.YtggbjokhniigkaaGreat.Ij
namespace Go.Proofs.YtggbjokhniigkaaGreat.Rp
open Ty Go.RowKit YtggbjokhniigkaaGreatW.PrintWords YtggbjokhniigkaaGreatW.PrintLast YtggbjokhniigkaaGreatW.PrintMore Mx Kx Wa Wd
theorem primary11_calls (w : World) (g : Nat) (i n vw nr hw : Int) (vl : Value) (cm : Int) (va vv vo vb : Value) (bv bd : Int)
    (hb : w.heap[g]? = some (.cells #[.int .i64 i, .int .i64 n, .int .i64 vw, .int .i64 nr, .int .i64 hw, vl, .int .i64 cm, va, vv, vo, vb, .int .i64 bv, .int .i64 bd] 25 (0, 0))) (hv : 0 ≤ vw) (hv2 : vw ≤ 4611686018427387904) (hn : 0 < n) (hn2 : n ≤ 5) :
    Calls Tryz.prog 114 #[.pointer (some ⟨g, 0, none⟩)] w fun e w' => e = .returned (.bool (vw % n == i)) ∧ Drawn0 w w' := by
  have cB := blk_cell hb
  clear hb
  have hz : (n == 0) = false := by simp; omega
  have hz2 : ¬ n = 0 := by omega
  have ht : vw.tmod n = vw % n := Int.tmod_eq_emod_of_nonneg hv
  go_enter Tryz.func114, Tryz.ntmps114
  go_wp2
  (try go_quiet (fail))
  (try go_wp2)
  go_ret
  exact ⟨by first | rfl | (rw [ht]; done) | (simp [ht]; done), by repeat (first | exact Drawn0.refl _ | apply Drawn0.step)⟩
end Go.Proofs.YtggbjokhniigkaaGreat.Rp

/- Texts laid together: Sa, Wk, Vc. No condition. -/
import Derived.Deep.RegionWith
import Derived.Test.YtggbjokhniigkaaGreatYTz6
set_option linter.unusedVariables false
set_option linter.unusedSimpArgs false
set_option maxRecDepth 100000
set_option maxHeartbeats 8000000
namespace Go.Proofs.YtggbjokhniigkaaGreat.Sa
open Ty Go.RowKit YtggbjokhniigkaaGreatW.PrintWords YtggbjokhniigkaaGreatW.PrintLast YtggbjokhniigkaaGreatW.PrintMore Mx Kx Wa Wb We Ra Rb
section
variable {P : Program} {ops : Array Oper} {rest : List Oper} {o : Oper} {a : Act} {Q : Exit → Act → World → Prop} {α : Type}
/-- make([]T, n). -/
theorem Mem.make (d : Kd α) {w0 W : World} {rs : List Res} (hM : Mem w0 W rs) (e : Nat) (hgd : o.guard = none) {N : Tmp} (hd : o.dst = some N) (t : TypeId) (x y : Operand) (ho : o.op = .makeSlice t x y) (n : Int) (hx : a.eval x = .int .i64 n) (hy : a.eval y = .int .i64 n)
    (ht : P.underlying t = some (.slice e)) (z : Value) (bytes : Nat) (hinfo : (P.info? e).map (fun i => (i.zero, i.size, i.bytes)) = some (some z, d.sz, bytes)) (hz : z.cells.size = d.sz) (hs0 : 0 < d.sz) (hb0 : 0 < bytes)
    (z0 : α) (hzero : ∀ w b, d.M w b (fun _ => False) z0 z.cells.toList) (h0 : 0 ≤ n) (hl : n.toNat * bytes ≤ 281474976710656) (ys : List α) (hys : List.replicate n.toNat z0 = ys)
    (h : ∀ v1 w1, Mem w0 w1 (row d e v1 ys :: rs) → wpList P ops Q rest (a.put o.dst v1) w1) : wpList P ops Q (o :: rest) a W := by
  subst hys
  refine Kd.R_make d (w0 := W) W.heap.size e hgd hd t x y ho n hx hy ht z bytes hinfo hz hs0 hb0 z0 (ok := fun k => W.heap.size ≤ k) (okp := fun _ => False) (hzero _ _) (fun _ hk => hk.elim) (Nat.le_refl _) h0 hl (Below.refl _ _) (Nat.le_refl _) ?_
  intro v1 w1 hr hb _ _
  exact h v1 w1 (hM.fresh hb hr)
end
theorem C_none {α : Type} {w : World} (d : Kd α) : Kd.C d w none ([] : List α).length [] := ⟨rfl, Nat.zero_le _, fun h => absurd h (Nat.lt_irrefl 0)⟩
theorem reps_int_one (i : Int) : Reps (fun (x : Int) c => ∀ w, (Kd.int .i64).M w 0 (fun _ => False) x c) (Kd.int .i64).sz [i] [.int .i64 i] := (Reps.none _ _).snoc (p := i) (c := [.int .i64 i]) (fun _ => rfl) rfl
def qc (i n vw nr hw : Int) (vl : Value) (cm : Int) (va vv vo vb : Value) (bv bd : Int) : Array Value := #[.int .i64 i, .int .i64 n, .int .i64 vw, .int .i64 nr, .int .i64 hw, vl, .int .i64 cm, va, vv, vo, vb, .int .i64 bv, .int .i64 bd]
theorem clear_calls (w0 w : World) (F : List Res) (g : Nat) (i n vw nr hw : Int) (vl : Value) (cm : Int) (va vv vo vb : Value) (bv bd : Int) (vout : Value)
    (hM : Mem w0 w (blk g 95 (Wa.wc i n vw nr hw vl cm va vv vo vb bv bd vout) :: F)) :
    Calls Tryz.prog 122 #[.pointer (some ⟨g, 0, none⟩)] w fun e w' => e = .returned (.tuple #[]) ∧ Mem w0 w' (blk g 95 (Wa.wc i n vw nr hw vl cm va (.slice none 0 0) (.slice none 0 0) (.slice none 0 0) (-1) 0 vout) :: F) := by
  have cG := blk_cell (hM.blk_at 0 rfl)
  have fG := blk_frozen (hM.blk_at 0 rfl)
  have hg := blk_lt (hM.blk_at 0 rfl)
  unfold Wa.wc at cG
  have M0 := Aside0.mk hM
  clear hM
  go_enter Tryz.func122, Tryz.ntmps122
  go_wp2
  go_end0
  exact ⟨rfl, ((((M0.out.set 0 rfl 8 (.slice none 0 0)).set 0 rfl 9 (.slice none 0 0)).set 0 rfl 10 (.slice none 0 0)).set 0 rfl 11 (.int .i64 (-1))).set 0 rfl 12 (.int .i64 0)⟩
theorem clear11_calls (w0 w : World) (F : List Res) (g : Nat) (i n vw nr hw : Int) (vl : Value) (cm : Int) (va vv vo vb : Value) (bv bd : Int)
    (hM : Mem w0 w (blk g 25 (qc i n vw nr hw vl cm va vv vo vb bv bd) :: F)) :
    Calls Tryz.prog 117 #[.pointer (some ⟨g, 0, none⟩)] w fun e w' => e = .returned (.tuple #[]) ∧ Mem w0 w' (blk g 25 (qc i n vw nr hw vl cm va (.slice none 0 0) (.slice none 0 0) (.slice none 0 0) (-1) 0) :: F) := by
  have cG := blk_cell (hM.blk_at 0 rfl)
  have fG := blk_frozen (hM.blk_at 0 rfl)
  have hg := blk_lt (hM.blk_at 0 rfl)
  unfold qc at cG
  have M0 := Aside0.mk hM
  clear hM
  go_enter Tryz.func117, Tryz.ntmps117
  go_wp2
  go_end0
  exact ⟨rfl, ((((M0.out.set 0 rfl 8 (.slice none 0 0)).set 0 rfl 9 (.slice none 0 0)).set 0 rfl 10 (.slice none 0 0)).set 0 rfl 11 (.int .i64 (-1))).set 0 rfl 12 (.int .i64 0)⟩
theorem acked_calls (w0 w : World) (F : List Res) (g : Nat) (i n vw nr hw : Int) (A5 : Option Addr) (n5 c5 : Nat) (cm : Int) (va vv vo vb : Value) (bv bd : Int) (vout : Value)
    (hM : Mem w0 w (blk g 95 (Wa.wc i n vw nr hw (.slice A5 n5 c5) cm va vv vo vb bv bd vout) :: F)) (hi0 : 0 ≤ i) (hi1 : i < n) (hn5 : n ≤ 5) :
    Calls Tryz.prog 123 #[.pointer (some ⟨g, 0, none⟩)] w fun e w' => ∃ va' : Value, e = .returned (.tuple #[]) ∧ Mem w0 w' (blk g 95 (Wa.wc i n vw nr hw (.slice A5 n5 c5) cm va' vv vo vb bv bd vout) :: row (Kd.int .i64) 3 va' ((List.replicate n.toNat 0).set i.toNat (n5 : Int)) :: F) := by
  have cG := blk_cell (hM.blk_at 0 rfl)
  have fG := blk_frozen (hM.blk_at 0 rfl)
  have hg := blk_lt (hM.blk_at 0 rfl)
  unfold Wa.wc at cG
  have M0 := Aside0.mk hM
  clear hM
  obtain ⟨ys, hys⟩ : ∃ ys, List.replicate n.toNat (0 : Int) = ys := ⟨_, rfl⟩
  have hl : ys.length = n.toNat := by rw [← hys, List.length_replicate]
  have HL := Aside0.mk hl
  have HY := Aside0.mk hys
  clear hl hys
  go_enter Tryz.func123, Tryz.ntmps123
  go_upto_region 0 with (fail)
  go_cut [] (fun wx => ∃ (g7 k7 : Nat), Aside0 (Mem w0 wx (row (Kd.int .i64) 3 (.slice (some ⟨g7, 0, none⟩) ys.length k7) ys :: blk g 95 (Wa.wc i n vw nr hw (.slice A5 n5 c5) cm (.slice (some ⟨g7, 0, none⟩) ys.length k7) vv vo vb bv bd vout) :: F)))
  case first =>
    go_wp2_with ((with_reducible refine gate_dst (N := 8) rfl ?_); refine Mem.make (Kd.int .i64) M0.out 3 rfl (N := 8) rfl 23 (.tmp 7) (.tmp 7) rfl n rfl rfl Tryz.underlying23 (.int .i64 0) 8 infoInt rfl (by decide) (by omega) 0 (fun _ _ => rfl) (by omega) (by omega) ys HY.out ?_; intro v1 w1 hM1; obtain ⟨g7, k7, he, hg7⟩ := hM1.int_form 0 rfl (by have := HL.out; omega); subst he; have M1 := Aside0.mk hM1; clear hM1; have cG1 := blk_cell (M1.out.blk_at 1 rfl); have fG1 := blk_frozen (M1.out.blk_at 1 rfl); have hg1 := blk_lt (M1.out.blk_at 1 rfl); unfold Wa.wc at cG1)
    go_meet
    case rel => exact ⟨g7, k7, ⟨M1.out.set 1 rfl 7 (.slice (some ⟨g7, 0, none⟩) ys.length k7)⟩⟩
  case rest =>
    obtain ⟨g7, k7, M1⟩ := hcut
    clear cG fG hg M0
    have cG := blk_cell (M1.out.blk_at 1 rfl)
    unfold Wa.wc at cG
    have hi2 : i < (ys.length : Int) := by have := HL.out; omega
    have x7 := (M1.out.int_cell 0 rfl i hi0 hi2).1
    have y7 := (M1.out.int_cell 0 rfl i hi0 hi2).2
    have hi3 : (i < (ys.length : Int)) = True := eq_true hi2
    go_upto_region 1 with (fail)
    go_region
    all_goals
      go_end0
      first | refine ⟨.slice (some ⟨g7, 0, none⟩) ys.length k7, rfl, ?_⟩ | refine ⟨rfl, .slice (some ⟨g7, 0, none⟩) ys.length k7, ?_⟩
      rw [HY.out]
      exact Mem.sel (ps := [_, _]) (F := F) [1, 0] 2 (M1.out.drew.int_put 0 rfl i (n5 : Int)) rfl rfl
theorem acked11_calls (w0 w : World) (F : List Res) (g : Nat) (i n vw nr hw : Int) (A5 : Option Addr) (n5 c5 : Nat) (cm : Int) (va vv vo vb : Value) (bv bd : Int)
    (hM : Mem w0 w (blk g 25 (qc i n vw nr hw (.slice A5 n5 c5) cm va vv vo vb bv bd) :: F)) (hi0 : 0 ≤ i) (hi1 : i < n) (hn5 : n ≤ 5) :
    Calls Tryz.prog 124 #[.pointer (some ⟨g, 0, none⟩)] w fun e w' => ∃ va' : Value, e = .returned (.tuple #[]) ∧ Mem w0 w' (blk g 25 (qc i n vw nr hw (.slice A5 n5 c5) cm va' vv vo vb bv bd) :: row (Kd.int .i64) 3 va' ((List.replicate n.toNat 0).set i.toNat (n5 : Int)) :: F) := by
  have cG := blk_cell (hM.blk_at 0 rfl)
  have fG := blk_frozen (hM.blk_at 0 rfl)
  have hg := blk_lt (hM.blk_at 0 rfl)
  unfold qc at cG
  have M0 := Aside0.mk hM
  clear hM
  obtain ⟨ys, hys⟩ : ∃ ys, List.replicate n.toNat (0 : Int) = ys := ⟨_, rfl⟩
  have hl : ys.length = n.toNat := by rw [← hys, List.length_replicate]
  have HL := Aside0.mk hl
  have HY := Aside0.mk hys
  clear hl hys
  go_enter Tryz.func124, Tryz.ntmps124
  go_upto_region 0 with (fail)
  go_cut [] (fun wx => ∃ (g7 k7 : Nat), Aside0 (Mem w0 wx (row (Kd.int .i64) 3 (.slice (some ⟨g7, 0, none⟩) ys.length k7) ys :: blk g 25 (qc i n vw nr hw (.slice A5 n5 c5) cm (.slice (some ⟨g7, 0, none⟩) ys.length k7) vv vo vb bv bd) :: F)))
  case first =>
    go_wp2_with ((with_reducible refine gate_dst (N := 7) rfl ?_); refine Mem.make (Kd.int .i64) M0.out 3 rfl (N := 7) rfl 23 (.tmp 6) (.tmp 6) rfl n rfl rfl Tryz.underlying23 (.int .i64 0) 8 infoInt rfl (by decide) (by omega) 0 (fun _ _ => rfl) (by omega) (by omega) ys HY.out ?_; intro v1 w1 hM1; obtain ⟨g7, k7, he, hg7⟩ := hM1.int_form 0 rfl (by have := HL.out; omega); subst he; have M1 := Aside0.mk hM1; clear hM1; have cG1 := blk_cell (M1.out.blk_at 1 rfl); have fG1 := blk_frozen (M1.out.blk_at 1 rfl); have hg1 := blk_lt (M1.out.blk_at 1 rfl); unfold qc at cG1)
    go_meet
    case rel => exact ⟨g7, k7, ⟨M1.out.set 1 rfl 7 (.slice (some ⟨g7, 0, none⟩) ys.length k7)⟩⟩
  case rest =>
    obtain ⟨g7, k7, M1⟩ := hcut
    clear cG fG hg M0
    have cG := blk_cell (M1.out.blk_at 1 rfl)
    unfold qc at cG
    have hi2 : i < (ys.length : Int) := by have := HL.out; omega
    have x7 := (M1.out.int_cell 0 rfl i hi0 hi2).1
    have y7 := (M1.out.int_cell 0 rfl i hi0 hi2).2
    have hi3 : (i < (ys.length : Int)) = True := eq_true hi2
    go_upto_region 1 with (fail)
    go_region
    all_goals
      go_end0
      first | refine ⟨.slice (some ⟨g7, 0, none⟩) ys.length k7, rfl, ?_⟩ | refine ⟨rfl, .slice (some ⟨g7, 0, none⟩) ys.length k7, ?_⟩
      rw [HY.out]
      exact Mem.sel (ps := [_, _]) (F := F) [1, 0] 2 (M1.out.drew.int_put 0 rfl i (n5 : Int)) rfl rfl
theorem normal_calls (w0 w : World) (F : List Res) (g : Nat) (i n vw nr hw : Int) (vl : Value) (cm : Int) (va vv vo vb : Value) (bv bd : Int) (vout : Value) (view commit : Int) (A : Option Addr) (c : Nat) (l : List Entry)
    (hM : Mem w0 w (blk g 95 (Wa.wc i n vw nr hw vl cm va vv vo vb bv bd vout) :: F)) (hl : ∀ (w' : World) (b : Res), Mem w0 w' (b :: F) → kE.C w' A l.length l) (hn : l.length ≤ 1000000000) (hi0 : 0 ≤ i) (hi1 : i < n) (hn5 : n ≤ 5) (cx : Int) (hcx : (if n = 1 then (l.length : Int) else min (max cm commit) (l.length : Int)) = cx) :
    Calls Tryz.prog 120 #[.pointer (some ⟨g, 0, none⟩), .int .i64 view, .slice A l.length c, .int .i64 commit] w fun e w' => ∃ vl' va' : Value, e = .returned (.tuple #[]) ∧ Mem w0 w' (blk g 95 (Wa.wc i n view view 0 vl' cx va' (.slice none 0 0) (.slice none 0 0) (.slice none 0 0) (-1) 0 vout) :: row (Kd.int .i64) 3 va' ((List.replicate n.toNat 0).set i.toNat (l.length : Int)) :: row kE 68 vl' l :: F) := by
  have cG := blk_cell (hM.blk_at 0 rfl)
  have fG := blk_frozen (hM.blk_at 0 rfl)
  have hg := blk_lt (hM.blk_at 0 rfl)
  unfold Wa.wc at cG
  have M0 := Aside0.mk hM
  have HL := Aside0.mk hl
  have HN := Aside0.mk hn
  have HX := Aside0.mk hcx
  clear hM hl hcx
  go_enter Tryz.func120, Tryz.ntmps120
  go_wp2_with fail
  refine (clear_calls w0 _ F g i n view view 0 vl cm va vv vo vb bv bd vout (((M0.out.set 0 rfl 2 (.int .i64 view)).set 0 rfl 3 (.int .i64 view)).set 0 rfl 4 (.int .i64 0))).mono ?_
  rintro e w1 ⟨rfl, hM⟩
  have M1 := Aside0.mk hM
  clear hM M0 cG fG hg
  have cG := blk_cell (M1.out.blk_at 0 rfl)
  have fG := blk_frozen (M1.out.blk_at 0 rfl)
  have hg := blk_lt (M1.out.blk_at 0 rfl)
  unfold Wa.wc at cG
  go_wp2_with fail
  refine (entries_calls A c l _ (HL.out _ _ M1.out) HN.out).mono ?_
  rintro e w2 ⟨v, rfl, hM⟩
  have M2 := Aside0.mk (M1.out.trans hM)
  clear hM
  obtain ⟨B, d, rfl, hcB, _⟩ := M2.out.row_at 0 rfl
  clear M1 cG fG hg
  have cG := blk_cell (M2.out.blk_at 1 rfl)
  have fG := blk_frozen (M2.out.blk_at 1 rfl)
  have hg := blk_lt (M2.out.blk_at 1 rfl)
  unfold Wa.wc at cG
  go_upto_region 3 with (fail)
  have M3 := Aside0.mk (M2.out.set 1 rfl 5 (.slice B l.length d))
  go_cut [] (fun wx => ∃ cm1 : Int, Aside0 (cm1 = min (max cm commit) (l.length : Int)) ∧ Aside0 (Mem w0 wx (row kE 68 (.slice B l.length d) l :: blk g 95 (Wa.wc i n view view 0 (.slice B l.length d) cm1 va (.slice none 0 0) (.slice none 0 0) (.slice none 0 0) (-1) 0 vout) :: F)))
  case first =>
    go_region
    all_goals
      go_wp2_with fail
      all_goals
        go_meet
        case rel => exact ⟨_, ⟨by first | omega | (split <;> omega) | (split <;> split <;> omega)⟩, ⟨M3.out.drew.set 1 rfl 6 _⟩⟩
  case rest =>
    obtain ⟨cm1, HC1, M4⟩ := hcut
    clear M3 M2 cG fG hg
    have cG := blk_cell (M4.out.blk_at 1 rfl)
    have fG := blk_frozen (M4.out.blk_at 1 rfl)
    have hg := blk_lt (M4.out.blk_at 1 rfl)
    unfold Wa.wc at cG
    go_upto_if 53 with (fail)
    go_cut [] (fun wx => ∃ cm2 : Int, Aside0 (cm2 = if n = 1 then (l.length : Int) else cm1) ∧ Aside0 (Mem w0 wx (row kE 68 (.slice B l.length d) l :: blk g 95 (Wa.wc i n view view 0 (.slice B l.length d) cm2 va (.slice none 0 0) (.slice none 0 0) (.slice none 0 0) (-1) 0 vout) :: F)))
    case first =>
      by_cases h1 : n = 1
      · have hq : (n == 1) = true := by simpa using h1
        go_wp2_with fail
        go_meet
        case rel => exact ⟨(l.length : Int), ⟨by rw [if_pos h1]⟩, ⟨M4.out.set 1 rfl 6 (.int .i64 (l.length : Int))⟩⟩
      · have hq : (n == 1) = false := by simpa using h1
        go_wp2_with fail
        go_meet
        case rel => exact ⟨cm1, ⟨by rw [if_neg h1]⟩, M4⟩
    case rest =>
      obtain ⟨cm2, HC2, M5⟩ := hcut
      have hc3 : cm2 = cx := by rw [HC2.out, HC1.out, HX.out]
      subst hc3
      clear M4 HC1 HC2 cG fG hg
      go_wp2_with fail
      refine (acked_calls w0 _ (row kE 68 (.slice B l.length d) l :: F) g i n view view 0 B l.length d cm2 va (.slice none 0 0) (.slice none 0 0) (.slice none 0 0) (-1) 0 vout (Mem.sel (ps := [_, _]) (F := F) [1, 0] 2 M5.out rfl rfl) hi0 hi1 hn5).mono ?_
      rintro e w4 ⟨va', rfl, hM⟩
      have M7 := Aside0.mk hM
      clear hM
      go_wp2
      go_end0
      first | refine ⟨.slice B l.length d, va', rfl, ?_⟩ | refine ⟨rfl, .slice B l.length d, va', ?_⟩
      exact M7.out
theorem normal11_calls (w0 w : World) (F : List Res) (g : Nat) (i n vw nr hw : Int) (vl : Value) (cm : Int) (va vv vo vb : Value) (bv bd : Int) (view commit : Int) (A : Option Addr) (c : Nat) (l : List Entry)
    (hM : Mem w0 w (blk g 25 (qc i n vw nr hw vl cm va vv vo vb bv bd) :: F)) (hl : ∀ (w' : World) (b : Res), Mem w0 w' (b :: F) → kE.C w' A l.length l) (hn : l.length ≤ 1000000000) (hi0 : 0 ≤ i) (hi1 : i < n) (hn5 : n ≤ 5) (cx : Int) (hcx : (if n = 1 then (l.length : Int) else min (max cm commit) (l.length : Int)) = cx) :
    Calls Tryz.prog 116 #[.pointer (some ⟨g, 0, none⟩), .slice A l.length c, .int .i64 view, .int .i64 commit] w fun e w' => ∃ vl' va' : Value, e = .returned (.tuple #[]) ∧ Mem w0 w' (blk g 25 (qc i n view view 0 vl' cx va' (.slice none 0 0) (.slice none 0 0) (.slice none 0 0) (-1) 0) :: row (Kd.int .i64) 3 va' ((List.replicate n.toNat 0).set i.toNat (l.length : Int)) :: row kE 68 vl' l :: F) := by
  have cG := blk_cell (hM.blk_at 0 rfl)
  have fG := blk_frozen (hM.blk_at 0 rfl)
  have hg := blk_lt (hM.blk_at 0 rfl)
  unfold qc at cG
  have M0 := Aside0.mk hM
  have HL := Aside0.mk hl
  have HN := Aside0.mk hn
  have HX := Aside0.mk hcx
  clear hM hl hcx
  go_enter Tryz.func116, Tryz.ntmps116
  have M1 := Aside0.mk (show Mem w0 _ (blk g 25 (qc i n view view 0 vl cm va vv vo vb bv bd) :: F) from ((M0.out.set 0 rfl 2 (.int .i64 view)).set 0 rfl 3 (.int .i64 view)).set 0 rfl 4 (.int .i64 0))
  go_upto_region 4 with (((with_reducible refine gate_builtin (b := .append) (xs := #[.tmp 20, .tmp 21]) rfl ?_); at_builtin; refine Mem.app kE ((M1.out.allocAt #[] 68 w.heap.size (by simp)).lit 0 kE [] rfl (Reps.none _ _) (by decide)) 0 _ [] l rfl (.tmp 20) (.tmp 21) 22 68 _ _ rfl Tryz.underlying22 infoEntry rfl (by decide) (by omega) A _ c rfl rfl rfl (Kd.C_alloc (HL.out _ _ M1.out) _) (fun x cs h => h) (by have := HN.out; simp; omega) ?_; intro v w2 hM; have M2 := Aside0.mk (show Mem _ _ (row kE _ v l :: _) from hM); clear hM; obtain ⟨B, d, he, hcB, _⟩ := M2.out.row_at 0 rfl; subst he; clear cG fG hg; have cG := blk_cell (M2.out.blk_at 1 rfl); have fG := blk_frozen (M2.out.blk_at 1 rfl); have hg := blk_lt (M2.out.blk_at 1 rfl); unfold qc at cG))
  have M3 := Aside0.mk (M2.out.set 1 rfl 5 (.slice B l.length d))
  go_cut [] (fun wx => ∃ cm1 : Int, Aside0 (cm1 = min (max cm commit) (l.length : Int)) ∧ Aside0 (Mem w0 wx (row kE 68 (.slice B l.length d) l :: blk g 25 (qc i n view view 0 (.slice B l.length d) cm1 va vv vo vb bv bd) :: F)))
  case first =>
    go_region
    all_goals
      go_wp2_with fail
      all_goals
        go_meet
        case rel => exact ⟨_, ⟨by first | omega | (split <;> omega) | (split <;> split <;> omega)⟩, ⟨M3.out.drew.set 1 rfl 6 _⟩⟩
  case rest =>
    obtain ⟨cm1, HC1, M4⟩ := hcut
    clear M3 M2 cG fG hg
    have cG := blk_cell (M4.out.blk_at 1 rfl)
    have fG := blk_frozen (M4.out.blk_at 1 rfl)
    have hg := blk_lt (M4.out.blk_at 1 rfl)
    unfold qc at cG
    go_upto_if 44 with (fail)
    go_cut [] (fun wx => ∃ cm2 : Int, Aside0 (cm2 = if n = 1 then (l.length : Int) else cm1) ∧ Aside0 (Mem w0 wx (row kE 68 (.slice B l.length d) l :: blk g 25 (qc i n view view 0 (.slice B l.length d) cm2 va vv vo vb bv bd) :: F)))
    case first =>
      by_cases h1 : n = 1
      · have hq : (n == 1) = true := by simpa using h1
        go_wp2_with fail
        go_meet
        case rel => exact ⟨(l.length : Int), ⟨by rw [if_pos h1]⟩, ⟨M4.out.set 1 rfl 6 (.int .i64 (l.length : Int))⟩⟩
      · have hq : (n == 1) = false := by simpa using h1
        go_wp2_with fail
        go_meet
        case rel => exact ⟨cm1, ⟨by rw [if_neg h1]⟩, M4⟩
    case rest =>
      obtain ⟨cm2, HC2, M5⟩ := hcut
      have hc3 : cm2 = cx := by rw [HC2.out, HC1.out, HX.out]
      subst hc3
      clear M4 HC1 HC2 cG fG hg
      go_wp2_with fail
      refine (clear11_calls w0 _ (row kE 68 (.slice B l.length d) l :: F) g i n view view 0 (.slice B l.length d) cm2 va vv vo vb bv bd (Mem.sel (ps := [_, _]) (F := F) [1, 0] 2 M5.out rfl rfl)).mono ?_
      rintro e w3 ⟨rfl, hM⟩
      have M6 := Aside0.mk hM
      clear hM M5
      go_wp2_with fail
      refine (acked11_calls w0 _ (row kE 68 (.slice B l.length d) l :: F) g i n view view 0 B l.length d cm2 va (.slice none 0 0) (.slice none 0 0) (.slice none 0 0) (-1) 0 M6.out hi0 hi1 hn5).mono ?_
      rintro e w4 ⟨va', rfl, hM⟩
      have M7 := Aside0.mk hM
      clear hM
      go_wp2
      go_end0
      first | refine ⟨.slice B l.length d, va', rfl, ?_⟩ | refine ⟨rfl, .slice B l.length d, va', ?_⟩
      exact M7.out
theorem change_calls (w0 w : World) (F : List Res) (g : Nat) (i n vw nr hw : Int) (vl : Value) (cm : Int) (va vv vo vb : Value) (bv bd : Int) (vout : Value) (out : List Msg) (view : Int)
    (hM : Mem w0 w (blk g 95 (Wa.wc i n vw nr hw vl cm va vv vo vb bv bd vout) :: row kM 27 vout out :: F)) (hn0 : 0 < n) (hn5 : n ≤ 5) (ho : out.length ≤ 1000000) :
    Calls Tryz.prog 121 #[.pointer (some ⟨g, 0, none⟩), .int .i64 view] w fun e w' => ∃ vv' vout' : Value, e = .returned (.tuple #[]) ∧ Mem w0 w' (blk g 95 (Wa.wc i n view nr 1 vl cm va vv' (.slice none 0 0) (.slice none 0 0) (-1) 0 vout') :: row kM 27 vout' (out ++ allFrom i n view ⟨4, 0, 0, 0, 0, 0, 0, []⟩ n.toNat 0) :: row (Kd.int .i64) 3 vv' [i] :: F) := by
  have cG := blk_cell (hM.blk_at 0 rfl)
  have fG := blk_frozen (hM.blk_at 0 rfl)
  have hg := blk_lt (hM.blk_at 0 rfl)
  unfold Wa.wc at cG
  have M0 := Aside0.mk hM
  clear hM
  go_enter Tryz.func121, Tryz.ntmps121
  go_wp2_with fail
  refine (clear_calls w0 _ (row kM 27 vout out :: F) g i n view nr 1 vl cm va vv vo vb bv bd vout ((M0.out.set 0 rfl 2 (.int .i64 view)).set 0 rfl 4 (.int .i64 1))).mono ?_
  rintro e w1 ⟨rfl, hM⟩
  have M1 := Aside0.mk hM
  have M1a := Aside0.mk hM
  clear hM M0 cG fG hg
  have cG := blk_cell (M1a.out.blk_at 0 rfl)
  have fG := blk_frozen (M1a.out.blk_at 0 rfl)
  have hg := blk_lt (M1a.out.blk_at 0 rfl)
  unfold Wa.wc at cG
  have M2 := Aside0.mk (((M1.out.set 0 rfl 8 (.slice (some ⟨w1.heap.size, 0, none⟩) 1 1)).allocAt #[.int .i64 i] 3 w1.heap.size (by simp)).lit 0 (Kd.int .i64) [i] rfl (reps_int_one i) (by simp))
  go_wp2_with fail
  refine (all_calls w0 _ emp (row (Kd.int .i64) 3 (.slice (some ⟨w1.heap.size, 0, none⟩) 1 1) [i] :: F) g i n view nr 1 vl cm va (.slice (some ⟨w1.heap.size, 0, none⟩) 1 1) (.slice none 0 0) (.slice none 0 0) (-1) 0 vout out 4 0 0 0 0 0 0 none 0 [] (Mem.sel (ps := [_, _, _, _]) (F := F) [0, 2, 3, 1] 4 M2.out.cons_emp rfl rfl) (Rd.old (C_none kE)) (by simp) (by simp) ho hn0 hn5).mono ?_
  rintro e w2 ⟨vout', rfl, hM⟩
  go_wp2
  go_end0
  exact ⟨_, vout', rfl, Mem.sel (ps := [_, _, _, _]) (F := F) [1, 2, 3] 4 hM rfl rfl⟩
theorem change11_calls (w0 w : World) (F : List Res) (g : Nat) (i n vw nr hw : Int) (vl : Value) (cm : Int) (va vv vo vb : Value) (bv bd : Int) (view : Int)
    (hM : Mem w0 w (blk g 25 (qc i n vw nr hw vl cm va vv vo vb bv bd) :: F)) (hn0 : 0 < n) (hn5 : n ≤ 5) :
    Calls Tryz.prog 111 #[.pointer (some ⟨g, 0, none⟩), .int .i64 view] w fun e w' => ∃ vv' vout' : Value, e = .returned vout' ∧ Mem w0 w' (blk g 25 (qc i n view nr 1 vl cm va vv' (.slice none 0 0) (.slice none 0 0) (-1) 0) :: row kM 27 vout' (allFrom i n view ⟨4, 0, 0, 0, 0, 0, 0, []⟩ n.toNat 0) :: row (Kd.int .i64) 3 vv' [i] :: F) := by
  have cG := blk_cell (hM.blk_at 0 rfl)
  have fG := blk_frozen (hM.blk_at 0 rfl)
  have hg := blk_lt (hM.blk_at 0 rfl)
  unfold qc at cG
  have M0 := Aside0.mk hM
  clear hM
  go_enter Tryz.func111, Tryz.ntmps111
  go_wp2_with fail
  refine (clear11_calls w0 _ F g i n vw nr hw vl cm va vv vo vb bv bd M0.out).mono ?_
  rintro e w1 ⟨rfl, hM⟩
  have M1a := Aside0.mk hM
  have M1 := Aside0.mk (show Mem w0 _ (blk g 25 (qc i n view nr 1 vl cm va (.slice none 0 0) (.slice none 0 0) (.slice none 0 0) (-1) 0) :: F) from (hM.set 0 rfl 2 (.int .i64 view)).set 0 rfl 4 (.int .i64 1))
  clear hM M0 cG fG hg
  have cG := blk_cell (M1a.out.blk_at 0 rfl)
  have fG := blk_frozen (M1a.out.blk_at 0 rfl)
  have hg := blk_lt (M1a.out.blk_at 0 rfl)
  unfold qc at cG
  have M2 := Aside0.mk (((M1.out.set 0 rfl 8 (.slice (some ⟨w1.heap.size, 0, none⟩) 1 1)).allocAt #[.int .i64 i] 3 w1.heap.size (by simp)).lit 0 (Kd.int .i64) [i] rfl (reps_int_one i) (by simp))
  go_wp2_with fail
  refine (all11_calls w0 _ emp (row (Kd.int .i64) 3 (.slice (some ⟨w1.heap.size, 0, none⟩) 1 1) [i] :: F) g i n view nr 1 vl cm va (.slice (some ⟨w1.heap.size, 0, none⟩) 1 1) (.slice none 0 0) (.slice none 0 0) (-1) 0 4 0 0 0 0 0 0 none 0 [] (Mem.sel (ps := [_, _, _]) (F := F) [0, 2, 1] 3 M2.out.cons_emp rfl rfl) (Rd.old (C_none kE)) (by simp) (by simp) hn0 hn5).mono ?_
  rintro e w2 ⟨vout', rfl, hM⟩
  go_wp2
  go_ret
  exact ⟨_, vout', rfl, Mem.sel (ps := [_, _, _, _]) (F := F) [2, 0, 3] 4 hM rfl rfl⟩
end Go.Proofs.YtggbjokhniigkaaGreat.Sa
namespace Go.Proofs.YtggbjokhniigkaaGreat.Wk
open Ty Go.RowKit YtggbjokhniigkaaGreatW.PrintWords YtggbjokhniigkaaGreatW.PrintLast YtggbjokhniigkaaGreatW.PrintMore Mx Kx Wa Wb Wc Wd We Wf Wh Wi Wj PReplicaTakes
def dx : ByteArray := ⟨#[120]⟩
def r03 : Rep := ⟨0, 3, 0, 0, 0, [], 0, [0, 0, 0], [], [], [], -1, 0⟩
def s03 : Rep := ⟨0, 3, 0, 0, 0, [⟨5, dx⟩], 0, [1, 0, 0], [], [], [], -1, 0⟩
def l03 : List Msg := [⟨1, 0, 1, 0, 1, 0, 0, [⟨5, dx⟩]⟩, ⟨1, 0, 2, 0, 1, 0, 0, [⟨5, dx⟩]⟩]
theorem New03_calls (w : World) : Calls Tryz.prog 43 #[.int .i64 0, .int .i64 3] w fun e w' => ∃ (A7 : Option Addr) (c7 : Nat), e = .returned (.tuple #[.agg #[.int .i64 0, .int .i64 3, .int .i64 0, .int .i64 0, .int .i64 0, .slice none 0 0, .int .i64 0, .slice A7 3 c7, .slice none 0 0, .slice none 0 0, .slice none 0 0, .int .i64 (-1), .int .i64 0], .int .i64 0]) ∧ Kd.C (Kd.int .i64) w' A7 3 [0, 0, 0] ∧ Below w.heap.size w w' := by
  have M0 := Aside0.mk ((Mem.nil w).allocAt #[.int .i64 0, .int .i64 0, .int .i64 0, .int .i64 0, .int .i64 0, .slice none 0 0, .int .i64 0, .slice none 0 0, .slice none 0 0, .slice none 0 0, .slice none 0 0, .int .i64 0, .int .i64 0] 25 w.heap.size rfl)
  go_enter Tryz.func43, Tryz.ntmps43
  go_wp2_with (first | (go_at_call 81; refine (size_calls _ _).mono ?_; rintro e w' ⟨rfl, rfl⟩) | ((with_reducible refine gate_dst (N := 22) rfl ?_); refine Sa.Mem.make (Kd.int .i64) M0.out 3 rfl (N := 22) rfl 23 (.tmp 21) (.tmp 21) rfl 3 rfl rfl Tryz.underlying23 (.int .i64 0) 8 infoInt rfl (by decide) (by omega) 0 (fun _ _ => rfl) (by omega) (by decide) [0, 0, 0] rfl ?_; intro v1 w1 hM1; obtain ⟨g7, k7, he, hg7⟩ := hM1.int_form 0 rfl (by decide); simp only [List.length_cons, List.length_nil, Nat.zero_add, Nat.reduceAdd] at he; subst he; have M2 := Aside0.mk hM1; clear hM1; have cG := blk_cell (M2.out.blk_at 1 rfl); have fG := blk_frozen (M2.out.blk_at 1 rfl); have gG := blk_lt (M2.out.blk_at 1 rfl)))
  have MF := M2.out.setRow 1 rfl [.int .i64 0, .int .i64 3, .int .i64 0, .int .i64 0, .int .i64 0, .slice none 0 0, .int .i64 0, .slice (some ⟨g7, 0, none⟩) 3 k7, .slice none 0 0, .slice none 0 0, .slice none 0 0, .int .i64 (-1), .int .i64 0] rfl
  have hgF := MF.blk_at 1 rfl
  refine bodyPost_ret (results_list (rs := [.cell 4 25, .tmp 5]) rfl (by simp) (.cell w.heap.size 25 #[.int .i64 0, .int .i64 3, .int .i64 0, .int .i64 0, .int .i64 0, .slice none 0 0, .int .i64 0, .slice (some ⟨g7, 0, none⟩) 3 k7, .slice none 0 0, .slice none 0 0, .slice none 0 0, .int .i64 (-1), .int .i64 0] (0, 0) _ rfl hgF Tryz.underlying25 rfl (by kernel_rfl) (.tmp .nil))) rfl ?_
  exact ⟨_, _, rfl, MF.row_C 0 rfl, MF.below⟩
theorem propose03 : propose r03 5 dx = (s03, l03, 1, 0) := by rfl
theorem Propose03 (A5 A7 A8 A9 A10 : Option Addr) (c5 c7 c8 c9 c10 : Nat) (w : World) (h7 : Kd.C (Kd.int .i64) w A7 3 [0, 0, 0]) :
    Calls Tryz.prog 62 #[.agg #[.int .i64 0, .int .i64 3, .int .i64 0, .int .i64 0, .int .i64 0, .slice A5 0 c5, .int .i64 0, .slice A7 3 c7, .slice A8 0 c8, .slice A9 0 c9, .slice A10 0 c10, .int .i64 (-1), .int .i64 0], .int .i64 5, .string dx] w fun e w' => ∃ (B5 B7 B8 B9 B10 Bo : Option Addr) (d5 d7 d8 d9 d10 co : Nat), e = .returned (.tuple #[.agg #[.int .i64 0, .int .i64 3, .int .i64 0, .int .i64 0, .int .i64 0, .slice B5 1 d5, .int .i64 0, .slice B7 3 d7, .slice B8 0 d8, .slice B9 0 d9, .slice B10 0 d10, .int .i64 (-1), .int .i64 0], .slice Bo 2 co, .int .i64 1, .int .i64 0]) ∧ Below w.heap.size w w' := by
  refine (Propose_calls r03 A5 A7 A8 A9 A10 c5 c7 c8 c9 c10 w ⟨C_zero _, h7, C_zero _, C_zero _, C_zero _⟩ ⟨by decide, by decide, by decide, by decide, by decide⟩ 5 dx (by decide) s03 l03 1 0 propose03).mono ?_
  rintro e w' ⟨v5, v7, v8, v9, v10, vo, rfl, hM⟩
  obtain ⟨B5, d5, rfl, _, _⟩ := hM.row_at 0 rfl
  obtain ⟨B7, d7, rfl, _, _⟩ := hM.row_at 1 rfl
  obtain ⟨B8, d8, rfl, _, _⟩ := hM.row_at 2 rfl
  obtain ⟨B9, d9, rfl, _, _⟩ := hM.row_at 3 rfl
  obtain ⟨B10, d10, rfl, _, _⟩ := hM.row_at 4 rfl
  obtain ⟨Bo, co, rfl, _, _⟩ := hM.row_at 5 rfl
  exact ⟨B5, B7, B8, B9, B10, Bo, d5, d7, d8, d9, d10, co, rfl, hM.below⟩
theorem awake_calls (w : World) : Calls Tryz.prog 32 #[] w fun e w' => e = .returned (.bool true) ∧ Mem w w' [] := by
  have M0 := Aside0.mk (Mem.nil w)
  go_enter Tryz.func32, Tryz.ntmps32
  go_wp2_with fail
  refine (New03_calls _).mono ?_
  rintro e w1 ⟨A7, c7, rfl, h7, hb⟩
  have M1 := Aside0.mk (M0.out.grow hb)
  have H7 := Aside0.mk h7
  clear h7 hb
  go_wp2_with fail
  have M2 := Aside0.mk (M1.out.alloc #[.int .i64 0, .int .i64 3, .int .i64 0, .int .i64 0, .int .i64 0, .slice none 0 0, .int .i64 0, .slice A7 3 c7, .slice none 0 0, .slice none 0 0, .slice none 0 0, .int .i64 (-1), .int .i64 0] 25)
  refine (Propose03 none A7 none none none 0 c7 0 0 0 _ (Kd.C_below H7.out (below_alloc (Below.refl _ _) _))).mono ?_
  rintro e w2 ⟨B5, B7, B8, B9, B10, Bo, d5, d7, d8, d9, d10, co, rfl, hb⟩
  have M3 := Aside0.mk (M2.out.grow hb)
  clear hb
  go_wp2_with fail
  refine (falseworklaw11_num.calls 0 0 _ rfl).mono ?_
  rintro e w3 ⟨rfl, hD⟩
  have M4 := Aside0.mk ((M3.out.allocAt #[.int .i64 0, .int .i64 3, .int .i64 0, .int .i64 0, .int .i64 0, .slice B5 1 d5, .int .i64 0, .slice B7 3 d7, .slice B8 0 d8, .slice B9 0 d9, .slice B10 0 d10, .int .i64 (-1), .int .i64 0] 25 _ rfl).drawn hD)
  clear hD
  go_wp2_with fail
  refine (falseworklaw11_num.calls 0 0 _ rfl).mono ?_
  rintro e w4 ⟨rfl, hD⟩
  have M5 := Aside0.mk (M4.out.drawn hD)
  clear hD
  have cS := blk_cell (M5.out.blk_at 0 rfl)
  go_wp2
  go_ret
  exact ⟨rfl, Mem.sel (ps := [_, _]) (F := []) [] 2 M5.out rfl rfl⟩
end Go.Proofs.YtggbjokhniigkaaGreat.Wk
namespace Go.Proofs.YtggbjokhniigkaaGreat.Vc
open Ty Go.RowKit YtggbjokhniigkaaGreatW.PrintWords YtggbjokhniigkaaGreatW.PrintLast YtggbjokhniigkaaGreatW.PrintMore Mx Kx Wa Wb Wc Wd Wj Wk Va Vb PReplicaTakes
/-- The lengths lie within the capacities. -/
structure Fit (r : Rep) (c5 c7 c8 c9 c10 : Nat) : Prop where
  h5 : r.f5.length ≤ c5
  h7 : r.f7.length ≤ c7
  h8 : r.f8.length ≤ c8
  h9 : r.f9.length ≤ c9
  h10 : r.f10.length ≤ c10
end Go.Proofs.YtggbjokhniigkaaGreat.Vc
